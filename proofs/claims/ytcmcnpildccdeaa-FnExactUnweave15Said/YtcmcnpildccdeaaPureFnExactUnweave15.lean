/- The law FnExactUnweave15: for every list of numbers and every number of rows the program's Unweave15 and the reference's tell the same, the list stays as it was, and what is told is a list of its own. -/
import Derived.Test.YtcmcnpildccdeaaPFnExactUnweave15x3
import Derived.Test.YtcmcnpildccdeaaKit
namespace Go.Proofs.Ytcmcnpildccdeaa.Pure
set_option linter.unusedSimpArgs false
set_option linter.unusedVariables false
open Go Go.RowKit Go.Proofs.Ytcmcnpildccdeaa.PFnExactUnweave15 Go.Proofs.YtcmcnpildccdeaaW.PrintWords Go.Proofs.YtcmcnpildccdeaaW.PrintLast Go.Proofs.Ytcmcnpildccdeaa.Mine

theorem toIntS_ev (x0 : List Int) (hn : x0.length ≤ 1048576) : Ev (fun k => laws_toIntS.f k x0) x0 := by
  have key : ∀ (d : Nat) (x3 : List Int) (i : Nat), x0.length - i = d → i ≤ x0.length → x3.length = x0.length → x3.take i = x0.take i → Ev (fun k => laws_toIntS.l0 k x0 x3 (i : Int)) x0 := by
    intro d
    induction d with
    | zero =>
      intro x3 i hd hi hl ht
      have e : x3 = x0 := by
        have h : i = x0.length := by omega
        rw [h, List.take_length, ← hl, List.take_length] at ht
        exact ht
      subst e
      refine ev_unroll ?_
      simp (disch := omega) only [laws_toIntS.l0, ↓if_neg]
      exact Ev.now _
    | succ d ih =>
      intro x3 i hd hi hl ht
      refine ev_unroll ?_
      simp (disch := omega) only [laws_toIntS.l0, ↓if_pos, w64]
      have h := ih (x3.set i (rd x0 i)) (i + 1) (by omega) (by omega) (by simp [hl]) (by rw [rd_nat]; exact take_set_succ 0 hl ht (by omega))
      simpa using h
  have h := key _ (List.replicate x0.length 0) 0 rfl (by omega) (by simp) (by simp)
  simp (disch := omega) only [laws_toIntS.f, ↓if_pos]
  simpa using h
theorem eqIntS_ev (x0 : List Int) (hn : x0.length ≤ 1048576) : Ev (fun k => laws_eqIntS.f k x0 x0) true := by
  have key : ∀ (d : Nat) (i : Nat), x0.length - i = d → i ≤ x0.length → Ev (fun k => laws_eqIntS.l0 k x0 x0 (i : Int)) true := by
    intro d
    induction d with
    | zero =>
      intro i hd hi
      refine ev_unroll ?_
      simp (disch := omega) only [laws_eqIntS.l0, ↓if_neg]
      exact Ev.now _
    | succ d ih =>
      intro i hd hi
      refine ev_unroll ?_
      simp (disch := omega) only [laws_eqIntS.l0, ↓if_pos, w64]
      have h := ih (i + 1) (by omega) (by omega)
      simpa using h
  have h := key _ 0 rfl (by omega)
  simp (disch := omega) only [laws_eqIntS.f, ↓if_pos]
  simpa using h
/-- What a marked list holds. -/
def marks (m : Int) (n : Nat) : List Int := (List.range n).map fun (j : Nat) => m + (j : Int)
theorem marks_length (m : Int) (n : Nat) : (marks m n).length = n := by simp [marks]
theorem rd_marks (m : Int) (n i : Nat) (h : i < n) : rd (marks m n) (i : Int) = m + i := by simp [rd, marks, h]
theorem markIntS_ev (x0 : List Int) (m : Int) (hm : 0 ≤ m) (hm2 : m ≤ 1000000000) (hn : x0.length ≤ 1048576) : Ev (fun k => laws_markIntS.f k x0 m) ((m + x0.length : Int), marks m x0.length) := by
  have key : ∀ (d : Nat) (y : List Int) (i : Nat), x0.length - i = d → i ≤ x0.length → y.length = x0.length → y.take i = (marks m x0.length).take i → Ev (fun k => laws_markIntS.l0 k y (m + (i : Int)) (i : Int)) ((m + x0.length : Int), marks m x0.length) := by
    intro d
    induction d with
    | zero =>
      intro y i hd hi hl ht
      have h : i = x0.length := by omega
      have e : y = marks m x0.length := by
        have h2 := ht
        rw [List.take_of_length_le (by omega), List.take_of_length_le (by rw [marks_length]; omega)] at h2
        exact h2
      refine ev_unroll ?_
      simp (disch := omega) only [laws_markIntS.l0, ↓if_neg]
      rw [h, e]
      exact Ev.now _
    | succ d ih =>
      intro y i hd hi hl ht
      refine ev_unroll ?_
      simp (disch := omega) only [laws_markIntS.l0, ↓if_pos, w64]
      have h := ih (y.set i (m + (i : Int))) (i + 1) (by omega) (by omega) (by simp [hl]) (by
        have h2 := take_set_succ (l := y) (m := marks m x0.length) 0 (by rw [marks_length]; exact hl) ht (by rw [marks_length]; omega)
        rw [show (marks m x0.length).getD i 0 = m + (i : Int) from by rw [← rd_nat, rd_marks _ _ _ (by omega)]] at h2
        exact h2)
      rw [show (m + (i : Int) + 1) = m + ((i + 1 : Nat) : Int) from by omega, show ((i : Int) + 1) = ((i + 1 : Nat) : Int) from by omega]
      simpa using h
  have h := key _ x0 0 rfl (by omega) rfl (by simp)
  simp only [laws_markIntS.f]
  simpa using h
theorem heldIntS_ev (n : Nat) (m : Int) (hm : 0 ≤ m) (hm2 : m ≤ 1000000000) (hn : n ≤ 1048576) : Ev (fun k => laws_heldIntS.f k (marks m n) m) (m + n : Int) := by
  have key : ∀ (d : Nat) (i : Nat), n - i = d → i ≤ n → Ev (fun k => laws_heldIntS.l0 k (marks m n) (m + (i : Int)) (i : Int)) (m + n : Int) := by
    intro d
    induction d with
    | zero =>
      intro i hd hi
      have h : i = n := by omega
      have hl := marks_length m n
      refine ev_unroll ?_
      simp (disch := omega) only [laws_heldIntS.l0, ↓if_neg]
      rw [h]
      exact Ev.now _
    | succ d ih =>
      intro i hd hi
      have hl := marks_length m n
      have hr := rd_marks m n i (by omega)
      refine ev_unroll ?_
      simp (disch := omega) only [laws_heldIntS.l0, ↓if_pos, w64]
      have h := ih (i + 1) (by omega) (by omega)
      rw [show (m + (i : Int) + 1) = m + ((i + 1 : Nat) : Int) from by omega, show ((i : Int) + 1) = ((i + 1 : Nat) : Int) from by omega]
      exact h
  have h := key _ 0 rfl (by omega)
  simp only [laws_heldIntS.f]
  simpa using h
theorem in_t {a b c : Int} (h : b ≤ a) (h2 : a ≤ c) : impl_in.f a b c = some true := by
  unfold impl_in.f
  rw [if_pos (by omega)]; simp [h2]
theorem in_f {a b c : Int} (h : ¬ (b ≤ a ∧ a ≤ c)) : impl_in.f a b c = some false := by
  unfold impl_in.f
  by_cases g : a ≥ b
  · rw [if_pos g]; simp; omega
  · rw [if_neg g]
theorem l1In_t {a b c : Int} (h : b ≤ a) (h2 : a ≤ c) : spec_l1In.f a b c = some true := by
  unfold spec_l1In.f
  rw [if_pos (by omega)]; simp [h2]
theorem l1In_f {a b c : Int} (h : ¬ (b ≤ a ∧ a ≤ c)) : spec_l1In.f a b c = some false := by
  unfold spec_l1In.f
  by_cases g : a ≥ b
  · rw [if_pos g]; simp; omega
  · rw [if_neg g]
/-- Are all of a list's elements 0 or 1, and are there not too many? -/
def bitsVal (l : List Int) (n : Int) : Bool := l.all (fun x => decide (0 ≤ x ∧ x ≤ 1)) && decide ((l.length : Int) ≤ n)
theorem l1Bits_ev (x0 : List Int) (n : Int) (hn : x0.length ≤ 1048576) : Ev (fun k => spec_l1Bits.f k x0 n) (bitsVal x0 n) := by
  have key : ∀ (d i : Nat), x0.length - i = d → i ≤ x0.length → Ev (fun k => spec_l1Bits.l0 k x0 n (i : Int)) ((x0.drop i).all (fun x => decide (0 ≤ x ∧ x ≤ 1)) && decide ((x0.length : Int) ≤ n)) := by
    intro d
    induction d with
    | zero =>
      intro i hd hi
      refine ev_unroll ?_
      rw [List.drop_eq_nil_of_le (by omega)]
      simp (disch := omega) only [spec_l1Bits.l0, List.all_nil, Bool.true_and, ↓if_pos, ↓if_neg, if_pos, if_neg, ↓reduceIte, w64, in_t, in_f, l1In_t, l1In_f, Option.bind_some, Bool.not_true, Bool.not_false, Bool.false_eq_true, tmod_nonneg, tdiv_nonneg]
      exact Ev.now _
    | succ d ih =>
      intro i hd hi
      refine ev_unroll ?_
      rw [drop_rd (by omega)]
      have h := ih (i + 1) (by omega) (by omega)
      by_cases hb : 0 ≤ rd x0 (i : Int) ∧ rd x0 (i : Int) ≤ 1
      · simp (disch := omega) only [spec_l1Bits.l0, ↓if_pos, ↓if_neg, if_pos, if_neg, ↓reduceIte, w64, in_t, in_f, l1In_t, l1In_f, Option.bind_some, Bool.not_true, Bool.not_false, Bool.false_eq_true, tmod_nonneg, tdiv_nonneg]
        simpa [hb] using h
      · simp (disch := omega) only [spec_l1Bits.l0, ↓if_pos, ↓if_neg, if_pos, if_neg, ↓reduceIte, w64, in_t, in_f, l1In_t, l1In_f, Option.bind_some, Bool.not_true, Bool.not_false, Bool.false_eq_true, tmod_nonneg, tdiv_nonneg]
        simp only [List.all_cons, hb, decide_false, Bool.false_and]
        exact Ev.now _
  have h := key _ 0 rfl (by omega)
  simp only [spec_l1Bits.f, bitsVal]
  simpa using h
theorem bitsOk_ev (x0 : List Int) (n : Int) (hn : x0.length ≤ 1048576) : Ev (fun k => impl_bitsOk.f k x0 n) (bitsVal x0 n) := by
  have key : ∀ (d i : Nat), x0.length - i = d → i ≤ x0.length → Ev (fun k => impl_bitsOk.l0 k x0 n x0 (x0.length : Int) (i : Int)) ((x0.drop i).all (fun x => decide (0 ≤ x ∧ x ≤ 1)) && decide ((x0.length : Int) ≤ n)) := by
    intro d
    induction d with
    | zero =>
      intro i hd hi
      refine ev_unroll ?_
      rw [List.drop_eq_nil_of_le (by omega)]
      simp (disch := omega) only [impl_bitsOk.l0, List.all_nil, Bool.true_and, ↓if_pos, ↓if_neg, if_pos, if_neg, ↓reduceIte, w64, in_t, in_f, l1In_t, l1In_f, Option.bind_some, Bool.not_true, Bool.not_false, Bool.false_eq_true, tmod_nonneg, tdiv_nonneg]
      exact Ev.now _
    | succ d ih =>
      intro i hd hi
      refine ev_unroll ?_
      rw [drop_rd (by omega)]
      have h := ih (i + 1) (by omega) (by omega)
      by_cases h0 : rd x0 (i : Int) = 0
      · simp (disch := omega) only [impl_bitsOk.l0, ↓if_pos, ↓if_neg, if_pos, if_neg, ↓reduceIte, w64, in_t, in_f, l1In_t, l1In_f, Option.bind_some, Bool.not_true, Bool.not_false, Bool.false_eq_true, tmod_nonneg, tdiv_nonneg]
        simpa [h0] using h
      by_cases h1 : rd x0 (i : Int) = 1
      · simp (disch := omega) only [impl_bitsOk.l0, ↓if_pos, ↓if_neg, if_pos, if_neg, ↓reduceIte, w64, in_t, in_f, l1In_t, l1In_f, Option.bind_some, Bool.not_true, Bool.not_false, Bool.false_eq_true, tmod_nonneg, tdiv_nonneg]
        simpa [h1] using h
      · have hb : ¬ (0 ≤ rd x0 (i : Int) ∧ rd x0 (i : Int) ≤ 1) := by omega
        simp (disch := omega) only [impl_bitsOk.l0, ↓if_pos, ↓if_neg, if_pos, if_neg, ↓reduceIte, w64, in_t, in_f, l1In_t, l1In_f, Option.bind_some, Bool.not_true, Bool.not_false, Bool.false_eq_true, tmod_nonneg, tdiv_nonneg]
        simp only [List.all_cons, hb, decide_false, Bool.false_and]
        exact Ev.now _
  have h := key _ 0 rfl (by omega)
  simp only [impl_bitsOk.f, bitsVal]
  simpa using h
theorem bitsVal_le {l : List Int} {n : Int} (h : bitsVal l n = true) : (l.length : Int) ≤ n := by
  simp [bitsVal] at h; exact h.2
theorem bitsVal_mem {l : List Int} {n : Int} (h : bitsVal l n = true) : ∀ x ∈ l, 0 ≤ x ∧ x ≤ 1 := by
  simp only [bitsVal, Bool.and_eq_true, List.all_eq_true, decide_eq_true_eq] at h
  exact h.1
/-- What stands in a list of m times n elements, read row by row, when it is told column by column. -/
def scat (m n : Nat) (x0 : List Int) : List Int := (List.range (m * n)).map fun (j : Nat) => rd x0 (((j % m) * n + j / m : Nat) : Int)
theorem scat_length (m n : Nat) (x0 : List Int) : (scat m n x0).length = m * n := by simp [scat]
theorem idx_lt {m n r c : Nat} (hr : r < m) (hc : c < n) : c * m + r < m * n := by
  have h1 : (c + 1) * m ≤ n * m := Nat.mul_le_mul_right m hc
  rw [Nat.add_mul, Nat.one_mul, Nat.mul_comm n m] at h1
  omega
theorem idx_mod {m r c : Nat} (hr : r < m) : (c * m + r) % m = r := by
  rw [Nat.mul_comm, Nat.mul_add_mod, Nat.mod_eq_of_lt hr]
theorem idx_div {m r c : Nat} (hr : r < m) : (c * m + r) / m = c := by
  rw [Nat.mul_comm, Nat.mul_add_div (by omega), Nat.div_eq_of_lt hr, Nat.add_zero]
theorem idx_of {m j : Nat} : (j / m) * m + j % m = j := by
  rw [Nat.mul_comm]; exact Nat.div_add_mod j m
theorem scat_get {m n : Nat} (x0 : List Int) {r c : Nat} (hr : r < m) (hc : c < n) : (scat m n x0).getD (c * m + r) 0 = rd x0 ((r * n + c : Nat) : Int) := by
  have h := idx_lt hr hc
  simp only [scat, List.getD_eq_getElem?_getD, List.getElem?_map, List.getElem?_range h, Option.map_some, Option.getD_some]
  rw [idx_mod hr, idx_div hr]
theorem scat_take {m n : Nat} (x0 : List Int) {r c : Nat} (hr : r < m) (hc : c < n) : (scat m n x0).take (c * m + r + 1) = (scat m n x0).take (c * m + r) ++ [rd x0 ((r * n + c : Nat) : Int)] := by
  rw [take_getD 0 (by rw [scat_length]; exact idx_lt hr hc), scat_get x0 hr hc]
/-- Up to which place the list is right, the places taken row by row. -/
def Upto (m n : Nat) (x0 : List Int) (r c : Nat) (y : List Int) : Prop :=
  y.length = m * n ∧ ∀ j, j < m * n → (j % m < r ∨ (j % m = r ∧ j / m < c)) → y.getD j 0 = (scat m n x0).getD j 0
theorem upto_start {m n : Nat} (x0 y : List Int) (h : y.length = m * n) : Upto m n x0 0 0 y := ⟨h, fun j _ hj => by
  rcases hj with hj | ⟨_, hj⟩
  · exact absurd hj (Nat.not_lt_zero _)
  · exact absurd hj (Nat.not_lt_zero _)⟩
theorem upto_step {m n : Nat} {x0 y : List Int} {r c : Nat} (hr : r < m) (hc : c < n) (h : Upto m n x0 r c y) : Upto m n x0 r (c + 1) (y.set (c * m + r) (rd x0 ((r * n + c : Nat) : Int))) := by
  refine ⟨by simp [h.1], fun j hj hw => ?_⟩
  by_cases e : j = c * m + r
  · subst e
    rw [scat_get x0 hr hc]
    have hl : c * m + r < y.length := by rw [h.1]; exact hj
    simp [hl]
  · have h2 := h.2 j hj (by
      rcases hw with hw | ⟨h3, h4⟩
      · exact Or.inl hw
      · by_cases h5 : j / m = c
        · exfalso
          apply e
          rw [← idx_of (m := m) (j := j), h3, h5]
        · exact Or.inr ⟨h3, by omega⟩)
    rw [← h2]
    have e2 : ¬ c * m + r = j := fun h3 => e h3.symm
    simp [List.getElem?_set, e2]
theorem upto_next {m n : Nat} {x0 y : List Int} {r : Nat} (hm : 0 < m) (h : Upto m n x0 r n y) : Upto m n x0 (r + 1) 0 y := by
  refine ⟨h.1, fun j hj hw => h.2 j hj ?_⟩
  have h1 : j / m < n := Nat.div_lt_of_lt_mul hj
  rcases hw with hw | ⟨_, hw⟩
  · rcases Nat.lt_or_ge (j % m) r with h2 | h2
    · exact Or.inl h2
    · exact Or.inr ⟨Nat.le_antisymm (Nat.le_of_lt_succ hw) h2, h1⟩
  · exact absurd hw (Nat.not_lt_zero _)
theorem upto_end {m n : Nat} {x0 y : List Int} (h : Upto m n x0 m 0 y) : y = scat m n x0 := by
  have hl : y.length = (scat m n x0).length := by rw [h.1, scat_length]
  refine List.ext_getElem hl fun j h1 h2 => ?_
  have h4 : j < m * n := by rw [← h.1]; exact h1
  have hm : 0 < m := by
    rcases Nat.eq_zero_or_pos m with h5 | h5
    · subst h5; simp at h4
    · exact h5
  have h3 := h.2 j h4 (Or.inl (Nat.mod_lt j hm))
  simpa [h1, h2] using h3
/-- May so many bits be woven in so many rows? -/
def WOk (x0 : List Int) (a1 : Int) : Prop := bitsVal x0 320 = true ∧ (1 ≤ a1 ∧ a1 ≤ 16) ∧ (x0.length : Int) % a1 = 0
theorem wok_parts {x0 : List Int} {a1 : Int} (h : WOk x0 a1) : ∃ m : Nat, a1 = (m : Int) ∧ 0 < m ∧ m ≤ 16 ∧ x0.length ≤ 320 ∧ x0.length = m * (x0.length / m) ∧ x0.length = (x0.length / m) * m ∧ (x0.length : Int) / (m : Int) = ((x0.length / m : Nat) : Int) ∧ x0.length / m ≤ x0.length := by
  obtain ⟨h1, h2, h3⟩ := h
  have hle := bitsVal_le h1
  obtain ⟨m, rfl⟩ := Int.eq_ofNat_of_zero_le (show 0 ≤ a1 by omega)
  have hdv : x0.length % m = 0 := by omega
  have hl : x0.length = m * (x0.length / m) := by
    have := Nat.div_add_mod x0.length m
    omega
  exact ⟨m, rfl, by omega, by omega, by omega, hl, by rw [Nat.mul_comm]; exact hl, by simp, Nat.div_le_self _ _⟩
theorem rows_t (x0 : List Int) (a1 : Int) (hn : x0.length ≤ 1048576) (h : WOk x0 a1) : Ev (fun k => spec_l15Rows.f k x0 a1) true := by
  have hs := l1Bits_ev x0 320 hn
  obtain ⟨h1, h2, h3⟩ := h
  rw [h1] at hs
  simp only [spec_l15Rows.f]
  refine Ev.bind hs ?_
  simp (disch := omega) only [↓if_pos, ↓if_neg, if_pos, if_neg, ↓reduceIte, w64, in_t, in_f, l1In_t, l1In_f, Option.bind_some, Bool.not_true, Bool.not_false, Bool.false_eq_true, tmod_nonneg, tdiv_nonneg]
  rw [h3]
  exact Ev.now _
theorem rows_f (x0 : List Int) (a1 : Int) (hn : x0.length ≤ 1048576) (h : ¬ WOk x0 a1) : Ev (fun k => spec_l15Rows.f k x0 a1) false := by
  have hs := l1Bits_ev x0 320 hn
  simp only [spec_l15Rows.f]
  refine Ev.bind hs ?_
  cases hb : bitsVal x0 320 with
  | false =>
    simp (disch := omega) only [↓if_pos, ↓if_neg, if_pos, if_neg, ↓reduceIte, w64, in_t, in_f, l1In_t, l1In_f, Option.bind_some, Bool.not_true, Bool.not_false, Bool.false_eq_true, tmod_nonneg, tdiv_nonneg]
    exact Ev.now _
  | true =>
    by_cases h2 : 1 ≤ a1 ∧ a1 ≤ 16
    · have hz : ((x0.length : Int) % a1 == 0) = false := by
        simp only [beq_eq_false_iff_ne, ne_eq]
        exact fun h3 => h ⟨hb, h2, h3⟩
      simp (disch := omega) only [↓if_pos, ↓if_neg, if_pos, if_neg, ↓reduceIte, w64, in_t, in_f, l1In_t, l1In_f, Option.bind_some, Bool.not_true, Bool.not_false, Bool.false_eq_true, tmod_nonneg, tdiv_nonneg]
      rw [hz]
      exact Ev.now _
    · simp (disch := omega) only [↓if_pos, ↓if_neg, if_pos, if_neg, ↓reduceIte, w64, in_t, in_f, l1In_t, l1In_f, Option.bind_some, Bool.not_true, Bool.not_false, Bool.false_eq_true, tmod_nonneg, tdiv_nonneg]
      exact Ev.now _
theorem specU_loop (x0 : List Int) (m n : Nat) (hm : 0 < m) (hm2 : m ≤ 16) (hl : x0.length = n * m) (hn : x0.length ≤ 320) : ∀ (d k : Nat) (y : List Int), n - k = d → k ≤ n → Upto n m x0 k 0 y → Ev (fun q => spec_Unweave15.l0 q x0 (m : Int) y (n : Int) (k : Int)) (scat n m x0, true) := by
  have hln : n ≤ n * m := Nat.le_mul_of_pos_right n hm
  intro d
  induction d with
  | zero =>
    intro k y hd hk hy
    have e : k = n := by omega
    subst e
    refine ev_unroll ?_
    simp (disch := omega) only [spec_Unweave15.l0, ↓if_pos, ↓if_neg, if_pos, if_neg, ↓reduceIte, w64, in_t, in_f, l1In_t, l1In_f, Option.bind_some, Bool.not_true, Bool.not_false, Bool.false_eq_true, tmod_nonneg, tdiv_nonneg]
    rw [upto_end hy]
    exact Ev.now _
  | succ d ih =>
    intro k y hd hk hy
    refine ev_unroll ?_
    simp (disch := omega) only [spec_Unweave15.l0, ↓if_pos, ↓if_neg, if_pos, if_neg, ↓reduceIte, w64, in_t, in_f, l1In_t, l1In_f, Option.bind_some, Bool.not_true, Bool.not_false, Bool.false_eq_true, tmod_nonneg, tdiv_nonneg]
    have inner : ∀ (e i : Nat) (y : List Int), m - i = e → i ≤ m → Upto n m x0 k i y → Ev (fun q => spec_Unweave15.l1 q x0 (m : Int) y (n : Int) (k : Int) (i : Int)) (scat n m x0, true) := by
      intro e
      induction e with
      | zero =>
        intro i y he hi hy
        have e2 : i = m := by omega
        subst e2
        refine ev_unroll ?_
        simp (disch := omega) only [spec_Unweave15.l1, ↓if_pos, ↓if_neg, if_pos, if_neg, ↓reduceIte, w64, in_t, in_f, l1In_t, l1In_f, Option.bind_some, Bool.not_true, Bool.not_false, Bool.false_eq_true, tmod_nonneg, tdiv_nonneg]
        have h := ih (k + 1) y (by omega) (by omega) (upto_next (by omega) hy)
        simpa using h
      | succ e ih2 =>
        intro i y he hi hy
        have h1 : i * n + k < n * m := idx_lt (m := n) (n := m) (r := k) (c := i) (by omega) (by omega)
        have h2 : (0 : Int) ≤ (i : Int) * (n : Int) := by rw [← Int.natCast_mul]; omega
        have h3 : (i : Int) * (n : Int) + (k : Int) < (y.length : Int) := by rw [← Int.natCast_mul, hy.1]; omega
        have h4 : k * m + i < m * n := idx_lt (m := m) (n := n) (r := i) (c := k) (by omega) (by omega)
        have h5 : (0 : Int) ≤ (k : Int) * (m : Int) := by rw [← Int.natCast_mul]; omega
        have h6 : (k : Int) * (m : Int) + (i : Int) < (x0.length : Int) := by rw [← Int.natCast_mul, hl, Nat.mul_comm n m]; omega
        have h7 : (y.length : Int) ≤ 320 := by rw [hy.1]; omega
        refine ev_unroll ?_
        simp (disch := omega) only [spec_Unweave15.l1, ↓if_pos, ↓if_neg, if_pos, if_neg, ↓reduceIte, w64, in_t, in_f, l1In_t, l1In_f, Option.bind_some, Bool.not_true, Bool.not_false, Bool.false_eq_true, tmod_nonneg, tdiv_nonneg]
        have h := ih2 (i + 1) _ (by omega) (by omega) (upto_step (by omega) (by omega) hy)
        have e3 : ((i : Int) * (n : Int) + (k : Int)).toNat = i * n + k := by rw [← Int.natCast_mul]; omega
        rw [e3]
        simpa using h
    have h := inner m 0 y (by omega) (by omega) hy
    simpa using h
theorem specU_t (x0 : List Int) (a1 : Int) (hn : x0.length ≤ 1048576) (h : WOk x0 a1) : Ev (fun k => spec_Unweave15.f k x0 a1) (scat (x0.length / a1.toNat) a1.toNat x0, true) := by
  have hr := rows_t x0 a1 hn h
  obtain ⟨m, rfl, hm, hm2, hl, hl1, hl2, hq, hq2⟩ := wok_parts h
  rw [Int.toNat_natCast]
  generalize x0.length / m = n at *
  simp only [spec_Unweave15.f]
  refine Ev.bind hr ?_
  simp only [hq]
  simp (disch := omega) only [↓if_pos, ↓if_neg, if_pos, if_neg, ↓reduceIte, w64, in_t, in_f, l1In_t, l1In_f, Option.bind_some, Bool.not_true, Bool.not_false, Bool.false_eq_true, tmod_nonneg, tdiv_nonneg]
  have h := specU_loop x0 m n hm hm2 hl2 hl _ 0 _ rfl (by omega) (upto_start x0 (List.replicate x0.length 0) (by simpa using hl2))
  simpa using h
theorem specU_f (x0 : List Int) (a1 : Int) (hn : x0.length ≤ 1048576) (h : ¬ WOk x0 a1) : Ev (fun k => spec_Unweave15.f k x0 a1) ([], false) := by
  simp only [spec_Unweave15.f]
  refine Ev.bind (rows_f x0 a1 hn h) ?_
  simp (disch := omega) only [↓if_pos, ↓if_neg, if_pos, if_neg, ↓reduceIte, w64, in_t, in_f, l1In_t, l1In_f, Option.bind_some, Bool.not_true, Bool.not_false, Bool.false_eq_true, tmod_nonneg, tdiv_nonneg]
  exact Ev.now _
theorem implU_loop (x0 : List Int) (m n : Nat) (hm : 0 < m) (hm2 : m ≤ 16) (hl : x0.length = n * m) (hn : x0.length ≤ 320) : ∀ (d r : Nat) (y : List Int), m - r = d → r ≤ m → y.length = n * m → y.take (r * n) = (scat n m x0).take (r * n) → Ev (fun q => impl_weave.l0 q x0 (m : Int) true y (n : Int) (m : Int) (r : Int)) (scat n m x0, true) := by
  have hln : n ≤ n * m := Nat.le_mul_of_pos_right n hm
  intro d
  induction d with
  | zero =>
    intro r y hd hr hy hy2
    have e : r = m := by omega
    subst e
    refine ev_unroll ?_
    simp (disch := omega) only [impl_weave.l0, ↓if_pos, ↓if_neg, if_pos, if_neg, ↓reduceIte, w64, in_t, in_f, l1In_t, l1In_f, Option.bind_some, Bool.not_true, Bool.not_false, Bool.false_eq_true, tmod_nonneg, tdiv_nonneg]
    rw [List.take_of_length_le (by rw [hy, Nat.mul_comm]; exact Nat.le_refl _), List.take_of_length_le (by rw [scat_length, Nat.mul_comm]; exact Nat.le_refl _)] at hy2
    rw [hy2]
    exact Ev.now _
  | succ d ih =>
    intro r y hd hr hy hy2
    refine ev_unroll ?_
    simp (disch := omega) only [impl_weave.l0, ↓if_pos, ↓if_neg, if_pos, if_neg, ↓reduceIte, w64, in_t, in_f, l1In_t, l1In_f, Option.bind_some, Bool.not_true, Bool.not_false, Bool.false_eq_true, tmod_nonneg, tdiv_nonneg]
    have inner : ∀ (e c : Nat) (y : List Int), n - c = e → c ≤ n → y.length = n * m → y.take (r * n + c) = (scat n m x0).take (r * n + c) → Ev (fun q => impl_weave.l1 q x0 (m : Int) true y (n : Int) (r : Int) (m : Int) (r : Int) (n : Int) (c : Int)) (scat n m x0, true) := by
      intro e
      induction e with
      | zero =>
        intro c y he hc hy hy2
        have e2 : c = n := by omega
        subst e2
        refine ev_unroll ?_
        simp (disch := omega) only [impl_weave.l1, ↓if_pos, ↓if_neg, if_pos, if_neg, ↓reduceIte, w64, in_t, in_f, l1In_t, l1In_f, Option.bind_some, Bool.not_true, Bool.not_false, Bool.false_eq_true, tmod_nonneg, tdiv_nonneg]
        have h := ih (r + 1) y (by omega) (by omega) hy (by rw [Nat.add_mul, Nat.one_mul]; exact hy2)
        simpa using h
      | succ e ih2 =>
        intro c y he hc hy hy2
        have h1 : r * n + c < n * m := idx_lt (m := n) (n := m) (r := c) (c := r) (by omega) (by omega)
        have h2 : (0 : Int) ≤ (r : Int) * (n : Int) := by rw [← Int.natCast_mul]; omega
        have h3 : (r : Int) * (n : Int) + (c : Int) < (y.length : Int) := by rw [← Int.natCast_mul, hy]; omega
        have h4 : c * m + r < m * n := idx_lt (by omega) (by omega)
        have h5 : (0 : Int) ≤ (c : Int) * (m : Int) := by rw [← Int.natCast_mul]; omega
        have h6 : (c : Int) * (m : Int) + (r : Int) < (x0.length : Int) := by rw [← Int.natCast_mul, hl, Nat.mul_comm n m]; omega
        have h7 : (y.length : Int) ≤ 320 := by rw [hy]; omega
        refine ev_unroll ?_
        simp (disch := omega) only [impl_weave.l1, ↓if_pos, ↓if_neg, if_pos, if_neg, ↓reduceIte, w64, in_t, in_f, l1In_t, l1In_f, Option.bind_some, Bool.not_true, Bool.not_false, Bool.false_eq_true, tmod_nonneg, tdiv_nonneg]
        have h8 := take_set_succ (l := y) (m := scat n m x0) 0 (by rw [hy, scat_length]) hy2 (by rw [scat_length]; exact h1)
        rw [scat_get x0 (by omega) (by omega)] at h8
        have h := ih2 (c + 1) _ (by omega) (by omega) (by simp [hy]) h8
        have e3 : ((r : Int) * (n : Int) + (c : Int)).toNat = r * n + c := by rw [← Int.natCast_mul]; omega
        rw [e3]
        simpa using h
    have h := inner n 0 y (by omega) (by omega) hy hy2
    simpa using h
theorem unweave_t (x0 : List Int) (a1 : Int) (hn : x0.length ≤ 1048576) (h : WOk x0 a1) : Ev (fun k => impl_weave.f k x0 a1 true) (scat (x0.length / a1.toNat) a1.toNat x0, true) := by
  have hi := bitsOk_ev x0 320 hn
  have hz := h.2.2
  rw [h.1] at hi
  obtain ⟨m, rfl, hm, hm2, hl, hl1, hl2, hq, hq2⟩ := wok_parts h
  rw [Int.toNat_natCast]
  generalize x0.length / m = n at *
  simp only [impl_weave.f]
  refine Ev.bind hi ?_
  simp (disch := omega) only [↓if_pos, ↓if_neg, if_pos, if_neg, ↓reduceIte, w64, in_t, in_f, l1In_t, l1In_f, Option.bind_some, Bool.not_true, Bool.not_false, Bool.false_eq_true, tmod_nonneg, tdiv_nonneg]
  refine ev_unroll ?_
  simp only [hz, bne_self_eq_false, impl_weave.j0, hq]
  simp (disch := omega) only [↓if_pos, ↓if_neg, if_pos, if_neg, ↓reduceIte, w64, in_t, in_f, l1In_t, l1In_f, Option.bind_some, Bool.not_true, Bool.not_false, Bool.false_eq_true, tmod_nonneg, tdiv_nonneg]
  have h := implU_loop x0 m n hm hm2 hl2 hl _ 0 (List.replicate x0.length 0) rfl (by omega) (by simpa using hl2) (by simp)
  simpa using h
theorem weave_f (x0 : List Int) (a1 : Int) (back : Bool) (hn : x0.length ≤ 1048576) (h : ¬ WOk x0 a1) : Ev (fun k => impl_weave.f k x0 a1 back) ([], false) := by
  have hi := bitsOk_ev x0 320 hn
  simp only [impl_weave.f]
  refine Ev.bind hi ?_
  cases hb : bitsVal x0 320 with
  | false =>
    simp (disch := omega) only [↓if_pos, ↓if_neg, if_pos, if_neg, ↓reduceIte, w64, in_t, in_f, l1In_t, l1In_f, Option.bind_some, Bool.not_true, Bool.not_false, Bool.false_eq_true, tmod_nonneg, tdiv_nonneg]
    refine ev_unroll ?_
    simp (disch := omega) only [impl_weave.j0, ↓if_pos, ↓if_neg, if_pos, if_neg, ↓reduceIte, w64, in_t, in_f, l1In_t, l1In_f, Option.bind_some, Bool.not_true, Bool.not_false, Bool.false_eq_true, tmod_nonneg, tdiv_nonneg]
    exact Ev.now _
  | true =>
    by_cases h2 : 1 ≤ a1 ∧ a1 ≤ 16
    · have hz2 : ((x0.length : Int) % a1 != 0) = true := by
        simp only [bne_iff_ne, ne_eq]
        exact fun h3 => h ⟨hb, h2, h3⟩
      simp (disch := omega) only [↓if_pos, ↓if_neg, if_pos, if_neg, ↓reduceIte, w64, in_t, in_f, l1In_t, l1In_f, Option.bind_some, Bool.not_true, Bool.not_false, Bool.false_eq_true, tmod_nonneg, tdiv_nonneg]
      refine ev_unroll ?_
      simp only [hz2, impl_weave.j0]
      simp (disch := omega) only [↓if_pos, ↓if_neg, if_pos, if_neg, ↓reduceIte, w64, in_t, in_f, l1In_t, l1In_f, Option.bind_some, Bool.not_true, Bool.not_false, Bool.false_eq_true, tmod_nonneg, tdiv_nonneg]
      exact Ev.now _
    · simp (disch := omega) only [↓if_pos, ↓if_neg, if_pos, if_neg, ↓reduceIte, w64, in_t, in_f, l1In_t, l1In_f, Option.bind_some, Bool.not_true, Bool.not_false, Bool.false_eq_true, tmod_nonneg, tdiv_nonneg]
      refine ev_unroll ?_
      simp (disch := omega) only [impl_weave.j0, ↓if_pos, ↓if_neg, if_pos, if_neg, ↓reduceIte, w64, in_t, in_f, l1In_t, l1In_f, Option.bind_some, Bool.not_true, Bool.not_false, Bool.false_eq_true, tmod_nonneg, tdiv_nonneg]
      exact Ev.now _
theorem both (x0 : List Int) (a1 : Int) (hn : x0.length ≤ 1048576) : ∃ r : List Int × Bool, r.1.length ≤ 1048576 ∧ Ev (fun k => spec_Unweave15.f k x0 a1) r ∧ Ev (fun k => impl_Unweave15.f k x0 a1) r := by
  by_cases h : WOk x0 a1
  · obtain ⟨m, e, hm, hm2, hl, hl1, hl2, hq, hq2⟩ := wok_parts h
    exact ⟨_, by rw [e, Int.toNat_natCast, scat_length, ← hl2]; exact hn, specU_t x0 a1 hn h, Ev.bind (unweave_t x0 a1 hn h) (Ev.now _)⟩
  · exact ⟨_, by simp, specU_f x0 a1 hn h, Ev.bind (weave_f x0 a1 true hn h) (Ev.now _)⟩
theorem FnExactUnweave15 : laws_FnExactUnweave15.Pure := by
  intro l0 a1 _ _ _ _
  refine Ev.rounds (g := fun k => laws_FnExactUnweave15.f k l0 a1) ?_
  by_cases hb : (l0.length : Int) > 1048576
  · simp only [laws_FnExactUnweave15.f, if_pos hb]
    exact Ev.now _
  simp only [laws_FnExactUnweave15.f, if_neg hb]
  have hn : l0.length ≤ 1048576 := by omega
  have ht := toIntS_ev l0 hn
  obtain ⟨⟨l, b⟩, hl, hs, hi⟩ := both l0 a1 hn
  simp only at hl
  refine Ev.bind ht (Ev.bind hs (Ev.bind ht (Ev.bind hi (Ev.bind (eqIntS_ev l hl) ?_))))
  simp only [↓reduceIte, bne_self_eq_false]
  refine ev_unroll ?_
  simp only [laws_FnExactUnweave15.j0, Bool.false_eq_true, ↓reduceIte]
  refine Ev.bind ht (Ev.bind (eqIntS_ev l0 hn) ?_)
  simp only [↓reduceIte]
  refine Ev.bind (markIntS_ev l0 1 (by omega) (by omega) hn) ?_
  simp (disch := omega) only [↓if_neg]
  refine Ev.bind (eqIntS_ev l hl) ?_
  simp only [↓reduceIte, bne_self_eq_false]
  refine ev_unroll ?_
  simp only [laws_FnExactUnweave15.j1, Bool.false_eq_true, ↓reduceIte]
  refine Ev.bind (markIntS_ev l 1 (by omega) (by omega) hl) (Ev.bind (heldIntS_ev l.length 1 (by omega) (by omega) hl) ?_)
  simp (disch := omega) only [↓if_neg, ↓reduceIte]
  refine Ev.bind ht (Ev.bind hi (Ev.bind (eqIntS_ev l hl) ?_))
  simp only [↓reduceIte, bne_self_eq_false]
  refine ev_unroll ?_
  simp only [laws_FnExactUnweave15.j2, Bool.false_eq_true, ↓reduceIte]
  refine Ev.bind (heldIntS_ev l.length 1 (by omega) (by omega) hl) ?_
  simp (disch := omega) only [↓if_neg, ↓reduceIte]
  exact Ev.now _

end Go.Proofs.Ytcmcnpildccdeaa.Pure
