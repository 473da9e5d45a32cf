/- The law FnExactStir15: for every list of numbers and every key the program's Stir15 and the reference's tell the same, the list stays as it was, and what is told is a list of its own. -/
import Derived.Test.YtcmcnpildccdeaaPFnExactStir15x3
import Derived.Test.YtcmcnpildccdeaaKit
namespace Go.Proofs.Ytcmcnpildccdeaa.Pure
set_option linter.unusedSimpArgs false
set_option linter.unusedVariables false
open Go Go.RowKit Go.Proofs.Ytcmcnpildccdeaa.PFnExactStir15 Go.Proofs.YtcmcnpildccdeaaW.PrintWords Go.Proofs.YtcmcnpildccdeaaW.PrintLast Go.Proofs.Ytcmcnpildccdeaa.Mine

theorem toIntS_ev (x0 : List Int) (hn : x0.length ≤ 1048576) : Ev (fun k => laws_toIntS.f k x0) x0 := by
  have key : ∀ (d : Nat) (x3 : List Int) (i : Nat), x0.length - i = d → i ≤ x0.length → x3.length = x0.length → x3.take i = x0.take i → Ev (fun k => laws_toIntS.l0 k x0 x3 (i : Int)) x0 := by
    intro d
    induction d with
    | zero =>
      intro x3 i hd hi hl ht
      have e : x3 = x0 := by
        have h : i = x0.length := by omega
        rw [h, List.take_length, ← hl, List.take_length] at ht
        exact ht
      subst e
      refine ev_unroll ?_
      simp (disch := omega) only [laws_toIntS.l0, ↓if_neg]
      exact Ev.now _
    | succ d ih =>
      intro x3 i hd hi hl ht
      refine ev_unroll ?_
      simp (disch := omega) only [laws_toIntS.l0, ↓if_pos, w64]
      have h := ih (x3.set i (rd x0 i)) (i + 1) (by omega) (by omega) (by simp [hl]) (by rw [rd_nat]; exact take_set_succ 0 hl ht (by omega))
      simpa using h
  have h := key _ (List.replicate x0.length 0) 0 rfl (by omega) (by simp) (by simp)
  simp (disch := omega) only [laws_toIntS.f, ↓if_pos]
  simpa using h
theorem eqIntS_ev (x0 : List Int) (hn : x0.length ≤ 1048576) : Ev (fun k => laws_eqIntS.f k x0 x0) true := by
  have key : ∀ (d : Nat) (i : Nat), x0.length - i = d → i ≤ x0.length → Ev (fun k => laws_eqIntS.l0 k x0 x0 (i : Int)) true := by
    intro d
    induction d with
    | zero =>
      intro i hd hi
      refine ev_unroll ?_
      simp (disch := omega) only [laws_eqIntS.l0, ↓if_neg]
      exact Ev.now _
    | succ d ih =>
      intro i hd hi
      refine ev_unroll ?_
      simp (disch := omega) only [laws_eqIntS.l0, ↓if_pos, w64]
      have h := ih (i + 1) (by omega) (by omega)
      simpa using h
  have h := key _ 0 rfl (by omega)
  simp (disch := omega) only [laws_eqIntS.f, ↓if_pos]
  simpa using h
/-- What a marked list holds. -/
def marks (m : Int) (n : Nat) : List Int := (List.range n).map fun (j : Nat) => m + (j : Int)
theorem marks_length (m : Int) (n : Nat) : (marks m n).length = n := by simp [marks]
theorem rd_marks (m : Int) (n i : Nat) (h : i < n) : rd (marks m n) (i : Int) = m + i := by simp [rd, marks, h]
theorem markIntS_ev (x0 : List Int) (m : Int) (hm : 0 ≤ m) (hm2 : m ≤ 1000000000) (hn : x0.length ≤ 1048576) : Ev (fun k => laws_markIntS.f k x0 m) ((m + x0.length : Int), marks m x0.length) := by
  have key : ∀ (d : Nat) (y : List Int) (i : Nat), x0.length - i = d → i ≤ x0.length → y.length = x0.length → y.take i = (marks m x0.length).take i → Ev (fun k => laws_markIntS.l0 k y (m + (i : Int)) (i : Int)) ((m + x0.length : Int), marks m x0.length) := by
    intro d
    induction d with
    | zero =>
      intro y i hd hi hl ht
      have h : i = x0.length := by omega
      have e : y = marks m x0.length := by
        have h2 := ht
        rw [List.take_of_length_le (by omega), List.take_of_length_le (by rw [marks_length]; omega)] at h2
        exact h2
      refine ev_unroll ?_
      simp (disch := omega) only [laws_markIntS.l0, ↓if_neg]
      rw [h, e]
      exact Ev.now _
    | succ d ih =>
      intro y i hd hi hl ht
      refine ev_unroll ?_
      simp (disch := omega) only [laws_markIntS.l0, ↓if_pos, w64]
      have h := ih (y.set i (m + (i : Int))) (i + 1) (by omega) (by omega) (by simp [hl]) (by
        have h2 := take_set_succ (l := y) (m := marks m x0.length) 0 (by rw [marks_length]; exact hl) ht (by rw [marks_length]; omega)
        rw [show (marks m x0.length).getD i 0 = m + (i : Int) from by rw [← rd_nat, rd_marks _ _ _ (by omega)]] at h2
        exact h2)
      rw [show (m + (i : Int) + 1) = m + ((i + 1 : Nat) : Int) from by omega, show ((i : Int) + 1) = ((i + 1 : Nat) : Int) from by omega]
      simpa using h
  have h := key _ x0 0 rfl (by omega) rfl (by simp)
  simp only [laws_markIntS.f]
  simpa using h
theorem heldIntS_ev (n : Nat) (m : Int) (hm : 0 ≤ m) (hm2 : m ≤ 1000000000) (hn : n ≤ 1048576) : Ev (fun k => laws_heldIntS.f k (marks m n) m) (m + n : Int) := by
  have key : ∀ (d : Nat) (i : Nat), n - i = d → i ≤ n → Ev (fun k => laws_heldIntS.l0 k (marks m n) (m + (i : Int)) (i : Int)) (m + n : Int) := by
    intro d
    induction d with
    | zero =>
      intro i hd hi
      have h : i = n := by omega
      have hl := marks_length m n
      refine ev_unroll ?_
      simp (disch := omega) only [laws_heldIntS.l0, ↓if_neg]
      rw [h]
      exact Ev.now _
    | succ d ih =>
      intro i hd hi
      have hl := marks_length m n
      have hr := rd_marks m n i (by omega)
      refine ev_unroll ?_
      simp (disch := omega) only [laws_heldIntS.l0, ↓if_pos, w64]
      have h := ih (i + 1) (by omega) (by omega)
      rw [show (m + (i : Int) + 1) = m + ((i + 1 : Nat) : Int) from by omega, show ((i : Int) + 1) = ((i + 1 : Nat) : Int) from by omega]
      exact h
  have h := key _ 0 rfl (by omega)
  simp only [laws_heldIntS.f]
  simpa using h
theorem in_t {a b c : Int} (h : b ≤ a) (h2 : a ≤ c) : impl_in.f a b c = some true := by
  unfold impl_in.f
  rw [if_pos (by omega)]; simp [h2]
theorem in_f {a b c : Int} (h : ¬ (b ≤ a ∧ a ≤ c)) : impl_in.f a b c = some false := by
  unfold impl_in.f
  by_cases g : a ≥ b
  · rw [if_pos g]; simp; omega
  · rw [if_neg g]
theorem l1In_t {a b c : Int} (h : b ≤ a) (h2 : a ≤ c) : spec_l1In.f a b c = some true := by
  unfold spec_l1In.f
  rw [if_pos (by omega)]; simp [h2]
theorem l1In_f {a b c : Int} (h : ¬ (b ≤ a ∧ a ≤ c)) : spec_l1In.f a b c = some false := by
  unfold spec_l1In.f
  by_cases g : a ≥ b
  · rw [if_pos g]; simp; omega
  · rw [if_neg g]
/-- Are all of a list's elements 0 or 1, and are there not too many? -/
def bitsVal (l : List Int) (n : Int) : Bool := l.all (fun x => decide (0 ≤ x ∧ x ≤ 1)) && decide ((l.length : Int) ≤ n)
theorem l1Bits_ev (x0 : List Int) (n : Int) (hn : x0.length ≤ 1048576) : Ev (fun k => spec_l1Bits.f k x0 n) (bitsVal x0 n) := by
  have key : ∀ (d i : Nat), x0.length - i = d → i ≤ x0.length → Ev (fun k => spec_l1Bits.l0 k x0 n (i : Int)) ((x0.drop i).all (fun x => decide (0 ≤ x ∧ x ≤ 1)) && decide ((x0.length : Int) ≤ n)) := by
    intro d
    induction d with
    | zero =>
      intro i hd hi
      refine ev_unroll ?_
      rw [List.drop_eq_nil_of_le (by omega)]
      simp (disch := omega) only [spec_l1Bits.l0, List.all_nil, Bool.true_and, ↓if_pos, ↓if_neg, if_pos, if_neg, ↓reduceIte, w64, in_t, in_f, l1In_t, l1In_f, Option.bind_some, Bool.not_true, Bool.not_false, Bool.false_eq_true, tmod_nonneg, tdiv_nonneg]
      exact Ev.now _
    | succ d ih =>
      intro i hd hi
      refine ev_unroll ?_
      rw [drop_rd (by omega)]
      have h := ih (i + 1) (by omega) (by omega)
      by_cases hb : 0 ≤ rd x0 (i : Int) ∧ rd x0 (i : Int) ≤ 1
      · simp (disch := omega) only [spec_l1Bits.l0, ↓if_pos, ↓if_neg, if_pos, if_neg, ↓reduceIte, w64, in_t, in_f, l1In_t, l1In_f, Option.bind_some, Bool.not_true, Bool.not_false, Bool.false_eq_true, tmod_nonneg, tdiv_nonneg]
        simpa [hb] using h
      · simp (disch := omega) only [spec_l1Bits.l0, ↓if_pos, ↓if_neg, if_pos, if_neg, ↓reduceIte, w64, in_t, in_f, l1In_t, l1In_f, Option.bind_some, Bool.not_true, Bool.not_false, Bool.false_eq_true, tmod_nonneg, tdiv_nonneg]
        simp only [List.all_cons, hb, decide_false, Bool.false_and]
        exact Ev.now _
  have h := key _ 0 rfl (by omega)
  simp only [spec_l1Bits.f, bitsVal]
  simpa using h
theorem bitsOk_ev (x0 : List Int) (n : Int) (hn : x0.length ≤ 1048576) : Ev (fun k => impl_bitsOk.f k x0 n) (bitsVal x0 n) := by
  have key : ∀ (d i : Nat), x0.length - i = d → i ≤ x0.length → Ev (fun k => impl_bitsOk.l0 k x0 n x0 (x0.length : Int) (i : Int)) ((x0.drop i).all (fun x => decide (0 ≤ x ∧ x ≤ 1)) && decide ((x0.length : Int) ≤ n)) := by
    intro d
    induction d with
    | zero =>
      intro i hd hi
      refine ev_unroll ?_
      rw [List.drop_eq_nil_of_le (by omega)]
      simp (disch := omega) only [impl_bitsOk.l0, List.all_nil, Bool.true_and, ↓if_pos, ↓if_neg, if_pos, if_neg, ↓reduceIte, w64, in_t, in_f, l1In_t, l1In_f, Option.bind_some, Bool.not_true, Bool.not_false, Bool.false_eq_true, tmod_nonneg, tdiv_nonneg]
      exact Ev.now _
    | succ d ih =>
      intro i hd hi
      refine ev_unroll ?_
      rw [drop_rd (by omega)]
      have h := ih (i + 1) (by omega) (by omega)
      by_cases h0 : rd x0 (i : Int) = 0
      · simp (disch := omega) only [impl_bitsOk.l0, ↓if_pos, ↓if_neg, if_pos, if_neg, ↓reduceIte, w64, in_t, in_f, l1In_t, l1In_f, Option.bind_some, Bool.not_true, Bool.not_false, Bool.false_eq_true, tmod_nonneg, tdiv_nonneg]
        simpa [h0] using h
      by_cases h1 : rd x0 (i : Int) = 1
      · simp (disch := omega) only [impl_bitsOk.l0, ↓if_pos, ↓if_neg, if_pos, if_neg, ↓reduceIte, w64, in_t, in_f, l1In_t, l1In_f, Option.bind_some, Bool.not_true, Bool.not_false, Bool.false_eq_true, tmod_nonneg, tdiv_nonneg]
        simpa [h1] using h
      · have hb : ¬ (0 ≤ rd x0 (i : Int) ∧ rd x0 (i : Int) ≤ 1) := by omega
        simp (disch := omega) only [impl_bitsOk.l0, ↓if_pos, ↓if_neg, if_pos, if_neg, ↓reduceIte, w64, in_t, in_f, l1In_t, l1In_f, Option.bind_some, Bool.not_true, Bool.not_false, Bool.false_eq_true, tmod_nonneg, tdiv_nonneg]
        simp only [List.all_cons, hb, decide_false, Bool.false_and]
        exact Ev.now _
  have h := key _ 0 rfl (by omega)
  simp only [impl_bitsOk.f, bitsVal]
  simpa using h
theorem bitsVal_le {l : List Int} {n : Int} (h : bitsVal l n = true) : (l.length : Int) ≤ n := by
  simp [bitsVal] at h; exact h.2
theorem bitsVal_mem {l : List Int} {n : Int} (h : bitsVal l n = true) : ∀ x ∈ l, 0 ≤ x ∧ x ≤ 1 := by
  simp only [bitsVal, Bool.and_eq_true, List.all_eq_true, decide_eq_true_eq] at h
  exact h.1
/-- The shifted key of the next bit. -/
def nextKey (K : Nat) : Nat := if K % 2 = 1 then K / 2 ^^^ 46080 else K / 2
theorem nextKey_lt {K : Nat} (h : K < 65536) : nextKey K < 65536 := by
  unfold nextKey
  split
  · exact Nat.xor_lt_two_pow (n := 16) (by omega) (by omega)
  · omega
/-- Bits stirred with a key. -/
def stir : Nat → List Int → List Int
  | _, [] => []
  | K, b :: l => Go.bits .xor .i64 b ((K % 2 : Nat) : Int) :: stir (nextKey K) l
theorem stir_length : ∀ (l : List Int) (K : Nat), (stir K l).length = l.length := by
  intro l
  induction l with
  | nil => intro K; rfl
  | cons b l ih => intro K; simp [stir, ih]
theorem implS_loop (x0 : List Int) (hn : x0.length ≤ 1048576) : ∀ (d : Nat) (i : Nat) (K : Nat) (out : List Int), x0.length - i = d → i ≤ x0.length → K < 65536 → out.length = i →
    Ev (fun k => impl_Stir15.l0 k (K : Int) out x0 (x0.length : Int) (i : Int)) (out ++ stir K (x0.drop i), true) := by
  intro d
  induction d with
  | zero =>
    intro i K out hd hi h1 ho
    rw [List.drop_eq_nil_of_le (by omega)]
    simp only [stir, List.append_nil]
    refine ev_unroll ?_
    simp (disch := omega) only [impl_Stir15.l0, ↓if_pos, ↓if_neg, if_pos, if_neg, ↓reduceIte, w64, in_t, in_f, l1In_t, l1In_f, Option.bind_some, Bool.not_true, Bool.not_false, Bool.false_eq_true, tmod_nonneg, tdiv_nonneg]
    exact Ev.now _
  | succ d ih =>
    intro i K out hd hi h1 ho
    have q := ih (i + 1) (nextKey K) (out ++ [Go.bits .xor .i64 (rd x0 i) ((K % 2 : Nat) : Int)]) (by omega) (by omega) (nextKey_lt h1) (by simp [ho])
    rw [drop_rd (by omega), stir]
    rw [List.append_assoc] at q
    have e1 : ((K : Int) % 2) = ((K % 2 : Nat) : Int) := by omega
    have e2 : ((K : Int) / 2) = ((K / 2 : Nat) : Int) := by omega
    by_cases hb : K % 2 = 1
    · have hx := xor64_nat (K / 2) 46080 (by omega) (by omega)
      have e3 : (nextKey K : Int) = Go.bits .xor .i64 ((K / 2 : Nat) : Int) 46080 := by
        unfold nextKey
        rw [if_pos hb]
        exact hx.symm
      rw [e3] at q
      refine ev_unroll ?_
      simp (disch := omega) only [impl_Stir15.l0, and1_64, ↓if_pos, ↓if_neg, if_pos, if_neg, ↓reduceIte, w64, in_t, in_f, l1In_t, l1In_f, Option.bind_some, Bool.not_true, Bool.not_false, Bool.false_eq_true, tmod_nonneg, tdiv_nonneg]
      rw [e1, e2]
      exact q
    · have e3 : nextKey K = K / 2 := by
        unfold nextKey
        rw [if_neg hb]
      rw [e3] at q ⊢
      refine ev_unroll ?_
      simp (disch := omega) only [impl_Stir15.l0, and1_64, ↓if_pos, ↓if_neg, if_pos, if_neg, ↓reduceIte, w64, in_t, in_f, l1In_t, l1In_f, Option.bind_some, Bool.not_true, Bool.not_false, Bool.false_eq_true, tmod_nonneg, tdiv_nonneg]
      rw [e1, e2]
      exact q
/-- May bits be stirred with a key? -/
def SOk (x0 : List Int) (a1 : Int) : Prop := bitsVal x0 320 = true ∧ 1 ≤ a1 ∧ a1 ≤ 65535
theorem implS_t (x0 : List Int) (a1 : Int) (hn : x0.length ≤ 1048576) (h : SOk x0 a1) : Ev (fun k => impl_Stir15.f k x0 a1) (stir a1.toNat x0, true) := by
  have hi := bitsOk_ev x0 320 hn
  obtain ⟨h1, h2, h3⟩ := h
  rw [h1] at hi
  have q := implS_loop x0 hn _ 0 a1.toNat [] rfl (by omega) (by omega) rfl
  rw [Int.toNat_of_nonneg (by omega)] at q
  simp only [impl_Stir15.f]
  refine Ev.bind hi ?_
  simp (disch := omega) only [↓if_pos, ↓if_neg, if_pos, if_neg, ↓reduceIte, w64, in_t, in_f, l1In_t, l1In_f, Option.bind_some, Bool.not_true, Bool.not_false, Bool.false_eq_true, tmod_nonneg, tdiv_nonneg]
  refine ev_unroll ?_
  simp (disch := omega) only [impl_Stir15.j0, ↓if_pos, ↓if_neg, if_pos, if_neg, ↓reduceIte, w64, in_t, in_f, l1In_t, l1In_f, Option.bind_some, Bool.not_true, Bool.not_false, Bool.false_eq_true, tmod_nonneg, tdiv_nonneg]
  simpa using q
theorem implS_f (x0 : List Int) (a1 : Int) (hn : x0.length ≤ 1048576) (h : ¬ SOk x0 a1) : Ev (fun k => impl_Stir15.f k x0 a1) ([], false) := by
  have hi := bitsOk_ev x0 320 hn
  simp only [impl_Stir15.f]
  refine Ev.bind hi ?_
  cases hb : bitsVal x0 320 with
  | false =>
    simp (disch := omega) only [↓if_pos, ↓if_neg, if_pos, if_neg, ↓reduceIte, w64, in_t, in_f, l1In_t, l1In_f, Option.bind_some, Bool.not_true, Bool.not_false, Bool.false_eq_true, tmod_nonneg, tdiv_nonneg]
    refine ev_unroll ?_
    simp (disch := omega) only [impl_Stir15.j0, ↓if_pos, ↓if_neg, if_pos, if_neg, ↓reduceIte, w64, in_t, in_f, l1In_t, l1In_f, Option.bind_some, Bool.not_true, Bool.not_false, Bool.false_eq_true, tmod_nonneg, tdiv_nonneg]
    exact Ev.now _
  | true =>
    have h2 : ¬ (1 ≤ a1 ∧ a1 ≤ 65535) := fun h2 => h ⟨hb, h2⟩
    simp (disch := omega) only [↓if_pos, ↓if_neg, if_pos, if_neg, ↓reduceIte, w64, in_t, in_f, l1In_t, l1In_f, Option.bind_some, Bool.not_true, Bool.not_false, Bool.false_eq_true, tmod_nonneg, tdiv_nonneg]
    refine ev_unroll ?_
    simp (disch := omega) only [impl_Stir15.j0, ↓if_pos, ↓if_neg, if_pos, if_neg, ↓reduceIte, w64, in_t, in_f, l1In_t, l1In_f, Option.bind_some, Bool.not_true, Bool.not_false, Bool.false_eq_true, tmod_nonneg, tdiv_nonneg]
    exact Ev.now _
theorem specS_loop (x0 : List Int) (hn : x0.length ≤ 1048576) : ∀ (d : Nat) (i : Nat) (K : Nat) (out : List Int), x0.length - i = d → i ≤ x0.length → K < 65536 → out.length = i →
    Ev (fun k => spec_Stir15.l0 k x0 (K : Int) out (i : Int)) (out ++ stir K (x0.drop i), true) := by
  intro d
  induction d with
  | zero =>
    intro i K out hd hi h1 ho
    rw [List.drop_eq_nil_of_le (by omega)]
    simp only [stir, List.append_nil]
    refine ev_unroll ?_
    simp (disch := omega) only [spec_Stir15.l0, ↓if_pos, ↓if_neg, if_pos, if_neg, ↓reduceIte, w64, in_t, in_f, l1In_t, l1In_f, Option.bind_some, Bool.not_true, Bool.not_false, Bool.false_eq_true, tmod_nonneg, tdiv_nonneg]
    exact Ev.now _
  | succ d ih =>
    intro i K out hd hi h1 ho
    have q := ih (i + 1) (nextKey K) (out ++ [Go.bits .xor .i64 (rd x0 i) ((K % 2 : Nat) : Int)]) (by omega) (by omega) (nextKey_lt h1) (by simp [ho])
    rw [drop_rd (by omega), stir]
    rw [List.append_assoc] at q
    have e1 : ((K : Int) % 2) = ((K % 2 : Nat) : Int) := by omega
    have e2 : ((K : Int) / 2) = ((K / 2 : Nat) : Int) := by omega
    by_cases hb : K % 2 = 1
    · have hx := xor64_nat (K / 2) 46080 (by omega) (by omega)
      have e3 : (nextKey K : Int) = Go.bits .xor .i64 ((K / 2 : Nat) : Int) 46080 := by
        unfold nextKey
        rw [if_pos hb]
        exact hx.symm
      rw [e3] at q
      refine ev_unroll ?_
      simp (disch := omega) only [spec_Stir15.l0, ↓if_pos, ↓if_neg, if_pos, if_neg, ↓reduceIte, w64, in_t, in_f, l1In_t, l1In_f, Option.bind_some, Bool.not_true, Bool.not_false, Bool.false_eq_true, tmod_nonneg, tdiv_nonneg]
      rw [e1, e2]
      exact q
    · have e3 : nextKey K = K / 2 := by
        unfold nextKey
        rw [if_neg hb]
      rw [e3] at q ⊢
      refine ev_unroll ?_
      simp (disch := omega) only [spec_Stir15.l0, ↓if_pos, ↓if_neg, if_pos, if_neg, ↓reduceIte, w64, in_t, in_f, l1In_t, l1In_f, Option.bind_some, Bool.not_true, Bool.not_false, Bool.false_eq_true, tmod_nonneg, tdiv_nonneg]
      rw [e1, e2]
      exact q
theorem specS_t (x0 : List Int) (a1 : Int) (hn : x0.length ≤ 1048576) (h : SOk x0 a1) : Ev (fun k => spec_Stir15.f k x0 a1) (stir a1.toNat x0, true) := by
  have hi := l1Bits_ev x0 320 hn
  obtain ⟨h1, h2, h3⟩ := h
  rw [h1] at hi
  have q := specS_loop x0 hn _ 0 a1.toNat [] rfl (by omega) (by omega) rfl
  rw [Int.toNat_of_nonneg (by omega)] at q
  simp only [spec_Stir15.f, Option.bind_some]
  refine Ev.bind hi ?_
  simp (disch := omega) only [↓if_pos, ↓if_neg, if_pos, if_neg, ↓reduceIte, w64, in_t, in_f, l1In_t, l1In_f, Option.bind_some, Bool.not_true, Bool.not_false, Bool.false_eq_true, tmod_nonneg, tdiv_nonneg]
  refine ev_unroll ?_
  simp (disch := omega) only [spec_Stir15.j0, ↓if_pos, ↓if_neg, if_pos, if_neg, ↓reduceIte, w64, in_t, in_f, l1In_t, l1In_f, Option.bind_some, Bool.not_true, Bool.not_false, Bool.false_eq_true, tmod_nonneg, tdiv_nonneg]
  simpa using q
theorem specS_f (x0 : List Int) (a1 : Int) (hn : x0.length ≤ 1048576) (h : ¬ SOk x0 a1) : Ev (fun k => spec_Stir15.f k x0 a1) ([], false) := by
  have hi := l1Bits_ev x0 320 hn
  simp only [spec_Stir15.f, Option.bind_some]
  refine Ev.bind hi ?_
  cases hb : bitsVal x0 320 with
  | false =>
    simp (disch := omega) only [↓if_pos, ↓if_neg, if_pos, if_neg, ↓reduceIte, w64, in_t, in_f, l1In_t, l1In_f, Option.bind_some, Bool.not_true, Bool.not_false, Bool.false_eq_true, tmod_nonneg, tdiv_nonneg]
    refine ev_unroll ?_
    simp (disch := omega) only [spec_Stir15.j0, ↓if_pos, ↓if_neg, if_pos, if_neg, ↓reduceIte, w64, in_t, in_f, l1In_t, l1In_f, Option.bind_some, Bool.not_true, Bool.not_false, Bool.false_eq_true, tmod_nonneg, tdiv_nonneg]
    exact Ev.now _
  | true =>
    have h2 : ¬ (1 ≤ a1 ∧ a1 ≤ 65535) := fun h2 => h ⟨hb, h2⟩
    simp (disch := omega) only [↓if_pos, ↓if_neg, if_pos, if_neg, ↓reduceIte, w64, in_t, in_f, l1In_t, l1In_f, Option.bind_some, Bool.not_true, Bool.not_false, Bool.false_eq_true, tmod_nonneg, tdiv_nonneg]
    refine ev_unroll ?_
    simp (disch := omega) only [spec_Stir15.j0, ↓if_pos, ↓if_neg, if_pos, if_neg, ↓reduceIte, w64, in_t, in_f, l1In_t, l1In_f, Option.bind_some, Bool.not_true, Bool.not_false, Bool.false_eq_true, tmod_nonneg, tdiv_nonneg]
    exact Ev.now _
theorem both (x0 : List Int) (a1 : Int) (hn : x0.length ≤ 1048576) : ∃ r : List Int × Bool, r.1.length ≤ 1048576 ∧ Ev (fun k => spec_Stir15.f k x0 a1) r ∧ Ev (fun k => impl_Stir15.f k x0 a1) r := by
  by_cases h : SOk x0 a1
  · exact ⟨_, by rw [stir_length]; exact hn, specS_t x0 a1 hn h, implS_t x0 a1 hn h⟩
  · exact ⟨_, by simp, specS_f x0 a1 hn h, implS_f x0 a1 hn h⟩
theorem FnExactStir15 : laws_FnExactStir15.Pure := by
  intro l0 a1 _ _ _ _
  refine Ev.rounds (g := fun k => laws_FnExactStir15.f k l0 a1) ?_
  by_cases hb : (l0.length : Int) > 1048576
  · simp only [laws_FnExactStir15.f, if_pos hb]
    exact Ev.now _
  simp only [laws_FnExactStir15.f, if_neg hb]
  have hn : l0.length ≤ 1048576 := by omega
  have ht := toIntS_ev l0 hn
  obtain ⟨⟨l, b⟩, hl, hs, hi⟩ := both l0 a1 hn
  simp only at hl
  refine Ev.bind ht (Ev.bind hs (Ev.bind ht (Ev.bind hi (Ev.bind (eqIntS_ev l hl) ?_))))
  simp only [↓reduceIte, bne_self_eq_false]
  refine ev_unroll ?_
  simp only [laws_FnExactStir15.j0, Bool.false_eq_true, ↓reduceIte]
  refine Ev.bind ht (Ev.bind (eqIntS_ev l0 hn) ?_)
  simp only [↓reduceIte]
  refine Ev.bind (markIntS_ev l0 1 (by omega) (by omega) hn) ?_
  simp (disch := omega) only [↓if_neg]
  refine Ev.bind (eqIntS_ev l hl) ?_
  simp only [↓reduceIte, bne_self_eq_false]
  refine ev_unroll ?_
  simp only [laws_FnExactStir15.j1, Bool.false_eq_true, ↓reduceIte]
  refine Ev.bind (markIntS_ev l 1 (by omega) (by omega) hl) (Ev.bind (heldIntS_ev l.length 1 (by omega) (by omega) hl) ?_)
  simp (disch := omega) only [↓if_neg, ↓reduceIte]
  refine Ev.bind ht (Ev.bind hi (Ev.bind (eqIntS_ev l hl) ?_))
  simp only [↓reduceIte, bne_self_eq_false]
  refine ev_unroll ?_
  simp only [laws_FnExactStir15.j2, Bool.false_eq_true, ↓reduceIte]
  refine Ev.bind (heldIntS_ev l.length 1 (by omega) (by omega) hl) ?_
  simp (disch := omega) only [↓if_neg, ↓reduceIte]
  exact Ev.now _

end Go.Proofs.Ytcmcnpildccdeaa.Pure
