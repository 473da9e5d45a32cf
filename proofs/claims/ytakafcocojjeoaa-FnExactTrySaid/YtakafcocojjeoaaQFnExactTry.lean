/- For every number of circuits, every list of spare ones and every list of arrivals the program's Try answers as the reference's, its lists stay as they were, and what is told are lists of their own. -/
import Derived.Test.YtakafcocojjeoaaMFnExactTryx9
import Derived.Test.YtakafcocojjeoaaKit
namespace Go.Proofs.Ytakafcocojjeoaa.Pure
set_option linter.unusedSimpArgs false
set_option linter.unusedVariables false
set_option linter.unusedSectionVars false
open Go Go.RowKit Go.Proofs.Ytakafcocojjeoaa.MFnExactTry Go.Proofs.YtakafcocojjeoaaW.PrintWords Go.Proofs.YtakafcocojjeoaaW.PrintLast Go.Proofs.Ytakafcocojjeoaa.Mine

theorem toIntS_ev (x0 : List Int) (hn : x0.length ≤ 1048576) : Ev (fun k => laws_toIntS.f k x0) x0 := by
  have key : ∀ (d : Nat) (x3 : List Int) (i : Nat), x0.length - i = d → i ≤ x0.length → x3.length = x0.length → x3.take i = x0.take i → Ev (fun k => laws_toIntS.l0 k x0 x3 (i : Int)) x0 := by
    intro d
    induction d with
    | zero =>
      intro x3 i hd hi hl ht
      have e : x3 = x0 := by
        have h : i = x0.length := by omega
        rw [h, List.take_length, ← hl, List.take_length] at ht
        exact ht
      subst e
      refine ev_unroll ?_
      simp (disch := omega) only [laws_toIntS.l0, ↓if_neg]
      exact Ev.now _
    | succ d ih =>
      intro x3 i hd hi hl ht
      refine ev_unroll ?_
      simp (disch := omega) only [laws_toIntS.l0, ↓if_pos, w64]
      have h := ih (x3.set i (rd x0 i)) (i + 1) (by omega) (by omega) (by simp [hl]) (by rw [rd_nat]; exact take_set_succ 0 hl ht (by omega))
      simpa using h
  have h := key _ (List.replicate x0.length 0) 0 rfl (by omega) (by simp) (by simp)
  simp (disch := omega) only [laws_toIntS.f, ↓if_pos]
  simpa using h
theorem eqIntS_ev (x0 : List Int) (hn : x0.length ≤ 1048576) : Ev (fun k => laws_eqIntS.f k x0 x0) true := by
  have key : ∀ (d : Nat) (i : Nat), x0.length - i = d → i ≤ x0.length → Ev (fun k => laws_eqIntS.l0 k x0 x0 (i : Int)) true := by
    intro d
    induction d with
    | zero =>
      intro i hd hi
      refine ev_unroll ?_
      simp (disch := omega) only [laws_eqIntS.l0, ↓if_neg]
      exact Ev.now _
    | succ d ih =>
      intro i hd hi
      refine ev_unroll ?_
      simp (disch := omega) only [laws_eqIntS.l0, ↓if_pos, w64]
      have h := ih (i + 1) (by omega) (by omega)
      simpa using h
  have h := key _ 0 rfl (by omega)
  simp (disch := omega) only [laws_eqIntS.f, ↓if_pos]
  simpa using h
/-- What a marked list holds. -/
def marks (m : Int) (n : Nat) : List Int := (List.range n).map fun (j : Nat) => m + (j : Int)
theorem marks_length (m : Int) (n : Nat) : (marks m n).length = n := by simp [marks]
theorem rd_marks (m : Int) (n i : Nat) (h : i < n) : rd (marks m n) (i : Int) = m + i := by simp [rd, marks, h]
theorem markIntS_ev (x0 : List Int) (m : Int) (hm : 0 ≤ m) (hm2 : m ≤ 1000000000) (hn : x0.length ≤ 1048576) : Ev (fun k => laws_markIntS.f k x0 m) ((m + x0.length : Int), marks m x0.length) := by
  have key : ∀ (d : Nat) (y : List Int) (i : Nat), x0.length - i = d → i ≤ x0.length → y.length = x0.length → y.take i = (marks m x0.length).take i → Ev (fun k => laws_markIntS.l0 k y (m + (i : Int)) (i : Int)) ((m + x0.length : Int), marks m x0.length) := by
    intro d
    induction d with
    | zero =>
      intro y i hd hi hl ht
      have h : i = x0.length := by omega
      have e : y = marks m x0.length := by
        have h2 := ht
        rw [List.take_of_length_le (by omega), List.take_of_length_le (by rw [marks_length]; omega)] at h2
        exact h2
      refine ev_unroll ?_
      simp (disch := omega) only [laws_markIntS.l0, ↓if_neg]
      rw [h, e]
      exact Ev.now _
    | succ d ih =>
      intro y i hd hi hl ht
      refine ev_unroll ?_
      simp (disch := omega) only [laws_markIntS.l0, ↓if_pos, w64]
      have h := ih (y.set i (m + (i : Int))) (i + 1) (by omega) (by omega) (by simp [hl]) (by
        have h2 := take_set_succ (l := y) (m := marks m x0.length) 0 (by rw [marks_length]; exact hl) ht (by rw [marks_length]; omega)
        rw [show (marks m x0.length).getD i 0 = m + (i : Int) from by rw [← rd_nat, rd_marks _ _ _ (by omega)]] at h2
        exact h2)
      rw [show (m + (i : Int) + 1) = m + ((i + 1 : Nat) : Int) from by omega, show ((i : Int) + 1) = ((i + 1 : Nat) : Int) from by omega]
      simpa using h
  have h := key _ x0 0 rfl (by omega) rfl (by simp)
  simp only [laws_markIntS.f]
  simpa using h
theorem heldIntS_ev (n : Nat) (m : Int) (hm : 0 ≤ m) (hm2 : m ≤ 1000000000) (hn : n ≤ 1048576) : Ev (fun k => laws_heldIntS.f k (marks m n) m) (m + n : Int) := by
  have key : ∀ (d : Nat) (i : Nat), n - i = d → i ≤ n → Ev (fun k => laws_heldIntS.l0 k (marks m n) (m + (i : Int)) (i : Int)) (m + n : Int) := by
    intro d
    induction d with
    | zero =>
      intro i hd hi
      have h : i = n := by omega
      have hl := marks_length m n
      refine ev_unroll ?_
      simp (disch := omega) only [laws_heldIntS.l0, ↓if_neg]
      rw [h]
      exact Ev.now _
    | succ d ih =>
      intro i hd hi
      have hl := marks_length m n
      have hr := rd_marks m n i (by omega)
      refine ev_unroll ?_
      simp (disch := omega) only [laws_heldIntS.l0, ↓if_pos, w64]
      have h := ih (i + 1) (by omega) (by omega)
      rw [show (m + (i : Int) + 1) = m + ((i + 1 : Nat) : Int) from by omega, show ((i : Int) + 1) = ((i + 1 : Nat) : Int) from by omega]
      exact h
  have h := key _ 0 rfl (by omega)
  simp only [laws_heldIntS.f]
  simpa using h
theorem eqBoolS_ev (x0 : List Bool) (hn : x0.length ≤ 1048576) : Ev (fun k => laws_eqBoolS.f k x0 x0) true := by
  have key : ∀ (d : Nat) (i : Nat), x0.length - i = d → i ≤ x0.length → Ev (fun k => laws_eqBoolS.l0 k x0 x0 (i : Int)) true := by
    intro d
    induction d with
    | zero =>
      intro i hd hi
      refine ev_unroll ?_
      simp (disch := omega) only [laws_eqBoolS.l0, ↓if_neg]
      exact Ev.now _
    | succ d ih =>
      intro i hd hi
      refine ev_unroll ?_
      simp (disch := omega) only [laws_eqBoolS.l0, ↓if_pos, w64, bne_self_eq_false, Bool.false_eq_true, ↓reduceIte]
      have h := ih (i + 1) (by omega) (by omega)
      simpa using h
  have h := key _ 0 rfl (by omega)
  simp (disch := omega) only [laws_eqBoolS.f, ↓if_pos]
  simpa using h
/-- What a marked list of bools holds. -/
def marksB (m : Int) (n : Nat) : List Bool := (List.range n).map fun (j : Nat) => ((m + (j : Int)) % 3 == 0)
theorem marksB_length (m : Int) (n : Nat) : (marksB m n).length = n := by simp [marksB]
theorem rd_marksB (m : Int) (n i : Nat) (h : i < n) : rdOf false (marksB m n) (i : Int) = ((m + i) % 3 == 0) := by simp [rdOf, marksB, h]
theorem getD_marksB (m : Int) (n i : Nat) (h : i < n) : (marksB m n).getD i false = ((m + i) % 3 == 0) := by simp [marksB, h]
theorem markBoolS_ev (x0 : List Bool) (m : Int) (hm : 0 ≤ m) (hm2 : m ≤ 1000000000) (hn : x0.length ≤ 1048576) : Ev (fun k => laws_markBoolS.f k x0 m) ((m + x0.length : Int), marksB m x0.length) := by
  have key : ∀ (d : Nat) (y : List Bool) (i : Nat), x0.length - i = d → i ≤ x0.length → y.length = x0.length → y.take i = (marksB m x0.length).take i → Ev (fun k => laws_markBoolS.l0 k y (m + (i : Int)) (i : Int)) ((m + x0.length : Int), marksB m x0.length) := by
    intro d
    induction d with
    | zero =>
      intro y i hd hi hl ht
      have h : i = x0.length := by omega
      have e : y = marksB m x0.length := by
        have h2 := ht
        rw [List.take_of_length_le (by omega), List.take_of_length_le (by rw [marksB_length]; omega)] at h2
        exact h2
      refine ev_unroll ?_
      simp (disch := omega) only [laws_markBoolS.l0, ↓if_neg]
      rw [h, e]
      exact Ev.now _
    | succ d ih =>
      intro y i hd hi hl ht
      refine ev_unroll ?_
      simp (disch := omega) only [laws_markBoolS.l0, ↓if_pos, w64, tmod_nonneg]
      have h := ih (y.set i ((m + (i : Int)) % 3 == 0)) (i + 1) (by omega) (by omega) (by simp [hl]) (by
        have h2 := take_set_succ (l := y) (m := marksB m x0.length) false (by rw [marksB_length]; exact hl) ht (by rw [marksB_length]; omega)
        rw [getD_marksB _ _ _ (by omega)] at h2
        exact h2)
      rw [show (m + (i : Int) + 1) = m + ((i + 1 : Nat) : Int) from by omega, show ((i : Int) + 1) = ((i + 1 : Nat) : Int) from by omega]
      simpa using h
  have h := key _ x0 0 rfl (by omega) rfl (by simp)
  simp only [laws_markBoolS.f]
  simpa using h
theorem heldBoolS_ev (n : Nat) (m : Int) (hm : 0 ≤ m) (hm2 : m ≤ 1000000000) (hn : n ≤ 1048576) : Ev (fun k => laws_heldBoolS.f k (marksB m n) m) (m + n : Int) := by
  have key : ∀ (d : Nat) (i : Nat), n - i = d → i ≤ n → Ev (fun k => laws_heldBoolS.l0 k (marksB m n) (m + (i : Int)) (i : Int)) (m + n : Int) := by
    intro d
    induction d with
    | zero =>
      intro i hd hi
      have h : i = n := by omega
      have hl := marksB_length m n
      refine ev_unroll ?_
      simp (disch := omega) only [laws_heldBoolS.l0, ↓if_neg]
      rw [h]
      exact Ev.now _
    | succ d ih =>
      intro i hd hi
      have hl := marksB_length m n
      have hr := rd_marksB m n i (by omega)
      refine ev_unroll ?_
      simp (disch := omega) only [laws_heldBoolS.l0, ↓if_pos, w64, tmod_nonneg, hr, bne_self_eq_false, Bool.false_eq_true, ↓reduceIte]
      have h := ih (i + 1) (by omega) (by omega)
      rw [show (m + (i : Int) + 1) = m + ((i + 1 : Nat) : Int) from by omega, show ((i : Int) + 1) = ((i + 1 : Nat) : Int) from by omega]
      exact h
  have h := key _ 0 rfl (by omega)
  simp only [laws_heldBoolS.f]
  simpa using h
theorem in_t {a b c : Int} (h : b ≤ a) (h2 : a ≤ c) : impl_in.f a b c = some true := by
  unfold impl_in.f
  rw [if_pos (by omega)]; simp [h2]
theorem in_f {a b c : Int} (h : ¬ (b ≤ a ∧ a ≤ c)) : impl_in.f a b c = some false := by
  unfold impl_in.f
  by_cases g : a ≥ b
  · rw [if_pos g]; simp; omega
  · rw [if_neg g]
theorem l1In_t {a b c : Int} (h : b ≤ a) (h2 : a ≤ c) : spec_l1In.f a b c = some true := by
  unfold spec_l1In.f
  rw [if_pos (by omega)]; simp [h2]
theorem l1In_f {a b c : Int} (h : ¬ (b ≤ a ∧ a ≤ c)) : spec_l1In.f a b c = some false := by
  unfold spec_l1In.f
  by_cases g : a ≥ b
  · rw [if_pos g]; simp; omega
  · rw [if_neg g]
def asArr (a : S53) : S43 := ⟨a.f0, a.f1, a.f2⟩
theorem toArrivalS_ev (x0 : List S53) (hn : x0.length ≤ 1048576) : Ev (fun k => laws_toArrivalS.f k x0) (x0.map asArr) := by
  have key : ∀ (d : Nat) (x3 : List S43) (i : Nat), x0.length - i = d → i ≤ x0.length → x3.length = x0.length → x3.take i = (x0.map asArr).take i → Ev (fun k => laws_toArrivalS.l0 k x0 x3 (i : Int)) (x0.map asArr) := by
    intro d
    induction d with
    | zero =>
      intro x3 i hd hi hl ht
      have e : x3 = x0.map asArr := by
        rw [List.take_of_length_le (by omega), List.take_of_length_le (by simp; omega)] at ht
        exact ht
      subst e
      refine ev_unroll ?_
      simp (disch := omega) only [laws_toArrivalS.l0, ↓if_neg]
      exact Ev.now _
    | succ d ih =>
      intro x3 i hd hi hl ht
      have e : (x0.map asArr).getD i z43 = (⟨(rd_T53 x0 (i : Int)).f0, (rd_T53 x0 (i : Int)).f1, (rd_T53 x0 (i : Int)).f2⟩ : S43) := by
        have hi2 : i < x0.length := by omega
        simp [rd_T53, asArr, hi2]
      have hs := take_set_succ (l := x3) (m := x0.map asArr) z43 (by simpa using hl) ht (by simp; omega)
      rw [e] at hs
      have h := ih _ (i + 1) (by omega) (by omega) (by simp [hl]) hs
      refine ev_unroll ?_
      simp (disch := omega) only [laws_toArrivalS.l0, laws_toArrival.f, Option.bind_some, ↓if_pos, w64]
      simpa using h
  have h := key _ (List.replicate x0.length z43) 0 rfl (by omega) (by simp) (by simp)
  simp (disch := omega) only [laws_toArrivalS.f, ↓if_pos]
  simpa using h
theorem eqArrivalS_ev (x0 : List S43) (hn : x0.length ≤ 1048576) : Ev (fun k => laws_eqArrivalS.f k x0 x0) true := by
  have key : ∀ (d : Nat) (i : Nat), x0.length - i = d → i ≤ x0.length → Ev (fun k => laws_eqArrivalS.l0 k x0 x0 (i : Int)) true := by
    intro d
    induction d with
    | zero =>
      intro i hd hi
      refine ev_unroll ?_
      simp (disch := omega) only [laws_eqArrivalS.l0, ↓if_neg]
      exact Ev.now _
    | succ d ih =>
      intro i hd hi
      have h := ih (i + 1) (by omega) (by omega)
      refine ev_unroll ?_
      simp (disch := omega) only [laws_eqArrivalS.l0, laws_eqArrival.f, Option.bind_some, ↓if_pos, ↓reduceIte, w64]
      simpa using h
  have h := key _ 0 rfl (by omega)
  simp (disch := omega) only [laws_eqArrivalS.f, ↓if_pos]
  simpa using h
theorem rd43_set (l : List S43) (i : Nat) (v : S43) (h : i < l.length) : rd_T43 (l.set i v) (i : Int) = v := by simp [rd_T43, h]
theorem markArrivalS_ex : ∀ (n : Nat) (x : List S43) (m : Int), x.length = n → n ≤ 1048576 → 0 ≤ m → m ≤ 100000000 → ∃ l', Ev (fun k => laws_markArrivalS.f k x m) (m + 3 * (n : Int), l') := by
  intro n x m hx hn h0 h1
  have key : ∀ (d i : Nat) (y : List S43), n - i ≤ d → i ≤ n → y.length = n → ∃ l', Ev (fun k => laws_markArrivalS.l0 k y (m + 3 * (i : Int)) (i : Int)) (m + 3 * (n : Int), l') := by
    intro d
    have last : ∀ (i : Nat) (y : List S43), i = n → y.length = n → ∃ l', Ev (fun k => laws_markArrivalS.l0 k y (m + 3 * (i : Int)) (i : Int)) (m + 3 * (n : Int), l') := by
      intro i y hi hy
      subst hi
      refine ⟨y, ev_unroll ?_⟩
      simp only [laws_markArrivalS.l0, if_neg (show ¬ (i : Int) < (y.length : Int) by omega)]
      exact Ev.now _
    induction d with
    | zero => exact fun i y hd hi hy => last i y (by omega) hy
    | succ d ih =>
      intro i y hd hi hy
      by_cases hlt : i < n
      · obtain ⟨l', h⟩ := ih (i + 1) (((y.set i (⟨m + 3 * (i : Int), (rd_T43 y (i : Int)).f1, (rd_T43 y (i : Int)).f2⟩ : S43)).set i (⟨m + 3 * (i : Int), m + 3 * (i : Int) + 1, (rd_T43 y (i : Int)).f2⟩ : S43)).set i (⟨m + 3 * (i : Int), m + 3 * (i : Int) + 1, m + 3 * (i : Int) + 1 + 1⟩ : S43)) (by omega) (by omega) (by simp [hy])
        have w1 := Aside0.mk (show wrap64 (m + 3 * (i : Int) + 1) = m + 3 * (i : Int) + 1 from w64 (by omega) (by omega))
        have w2 := Aside0.mk (show wrap64 (m + 3 * (i : Int) + 1 + 1) = m + 3 * (i : Int) + 1 + 1 from w64 (by omega) (by omega))
        have w3 := Aside0.mk (show wrap64 (m + 3 * (i : Int) + 1 + 1 + 1) = m + 3 * ((i + 1 : Nat) : Int) from (w64 (by omega) (by omega)).trans (by omega))
        have hw := Aside0.mk (show wrap64 ((i : Int) + 1) = ((i + 1 : Nat) : Int) from (w64 (by omega) (by omega)).trans (by omega))
        refine ⟨l', ev_unroll ?_⟩
        simp only [laws_markArrivalS.l0, if_pos (show (i : Int) < (y.length : Int) by omega), if_pos (show (0 : Int) ≤ (i : Int) by omega), Option.bind_some, Int.toNat_natCast, w1.out, w2.out, w3.out, hw.out]
        rw [rd43_set y i _ (by omega), rd43_set _ i _ (by rw [List.length_set]; omega)]
        exact h
      · exact last i y (by omega) hy
  have h := key n 0 x (by omega) (by omega) hx
  simp only [laws_markArrivalS.f]
  simpa using h
/-- What is asked of the spare circuits, of an arrival. -/
def SpOk (s : List Int) : Prop := (s.length : Int) = 4 ∧ rd s 0 = 0 ∧ rd s 0 ≤ rd s 1 ∧ rd s 1 ≤ rd s 2 ∧ rd s 2 ≤ rd s 3 ∧ rd s 3 ≤ 64
def ArOk (a : S43) : Prop := (0 ≤ a.f0 ∧ a.f0 ≤ 1000000000) ∧ (0 ≤ a.f1 ∧ a.f1 ≤ 10000) ∧ (0 ≤ a.f2 ∧ a.f2 ≤ 3)
def Sorted (l : List S43) : Prop := ∀ j : Int, 1 ≤ j → j < (l.length : Int) → (rd_T43 l (j - 1)).f0 ≤ (rd_T43 l j).f0
theorem rd43_get (l : List S43) (i : Nat) (h : i < l.length) : rd_T43 l (i : Int) = l[i] := by simp [rd_T43, h]
theorem rd43_mem {l : List S43} {i : Int} (h0 : 0 ≤ i) (h1 : i < (l.length : Int)) : rd_T43 l i ∈ l := by
  have h : i.toNat < l.length := by omega
  have e : rd_T43 l i = l[i.toNat] := by simp [rd_T43, h]
  rw [e]; exact List.getElem_mem h
theorem drop43 (l : List S43) (i : Nat) (h : i < l.length) : l.drop i = rd_T43 l (i : Int) :: l.drop (i + 1) := by
  rw [rd43_get l i h, List.drop_eq_getElem_cons h]
/-- The reference's test of the spare circuits. -/
theorem spare_s (s : List Int) (hs : s.length ≤ 1048576) : ∀ (d i : Nat), s.length - i = d → i ≤ s.length →
    ∃ b, Ev (fun k => spec_l17Spare.l0 k s (i : Int)) b ∧ (b = true ↔ (s.length : Int) = 4 ∧ ∀ j : Nat, i ≤ j → j < s.length → (0 ≤ rd s (j : Int) ∧ rd s (j : Int) ≤ 64) ∧ (j = 0 → rd s (j : Int) = 0) ∧ (0 < j → rd s ((j : Int) - 1) ≤ rd s (j : Int))) := by
  intro d
  induction d with
  | zero =>
    intro i hd hi
    refine ⟨(s.length : Int) == 4, ev_unroll ?_, ?_⟩
    · simp only [spec_l17Spare.l0, if_neg (show ¬ (i : Int) < (s.length : Int) by omega)]
      exact Ev.now _
    · rw [beq_iff_eq]
      exact ⟨fun h => ⟨h, fun j h1 h2 => by omega⟩, fun h => h.1⟩
  | succ d ih =>
    intro i hd hi
    have hi2 : i < s.length := by omega
    obtain ⟨b, p, q⟩ := ih (i + 1) (by omega) (by omega)
    have e : ((i + 1 : Nat) : Int) = wrap64 ((i : Int) + 1) := by rw [w64 (by omega) (by omega)]; omega
    rw [e] at p
    by_cases c1 : 0 ≤ rd s (i : Int) ∧ rd s (i : Int) ≤ 64
    · by_cases c2 : i = 0
      · subst c2
        by_cases c3 : rd s ((0 : Nat) : Int) = 0
        · refine ⟨b, ev_unroll ?_, ?_⟩
          · simp only [spec_l17Spare.l0, if_pos (show ((0 : Nat) : Int) < (s.length : Int) by omega), if_pos (show (0 : Int) ≤ ((0 : Nat) : Int) by omega), l1In_t c1.1 c1.2, Option.bind_some, ↓reduceIte, if_pos (show ((0 : Nat) : Int) = 0 from rfl), if_pos c3, if_neg (show ¬ ((0 : Nat) : Int) > 0 by omega)]
            exact p
          · rw [q]
            refine ⟨fun h => ⟨h.1, fun j h1 h2 => ?_⟩, fun h => ⟨h.1, fun j h1 h2 => h.2 j (by omega) h2⟩⟩
            by_cases cj : j = 0
            · subst cj; exact ⟨c1, fun _ => c3, fun h => by omega⟩
            · exact h.2 j (by omega) h2
        · refine ⟨false, ev_unroll ?_, ?_⟩
          · simp only [spec_l17Spare.l0, if_pos (show ((0 : Nat) : Int) < (s.length : Int) by omega), if_pos (show (0 : Int) ≤ ((0 : Nat) : Int) by omega), l1In_t c1.1 c1.2, Option.bind_some, ↓reduceIte, if_pos (show ((0 : Nat) : Int) = 0 from rfl), if_neg c3]
            exact Ev.now _
          · exact ⟨(fun h => by cases h), fun h => absurd ((h.2 0 (Nat.le_refl _) hi2).2.1 rfl) c3⟩
      · have hw : wrap64 ((i : Int) - 1) = (i : Int) - 1 := w64 (by omega) (by omega)
        by_cases c3 : rd s ((i : Int) - 1) > rd s (i : Int)
        · refine ⟨false, ev_unroll ?_, ?_⟩
          · simp only [spec_l17Spare.l0, if_pos (show (i : Int) < (s.length : Int) by omega), if_pos (show (0 : Int) ≤ (i : Int) by omega), l1In_t c1.1 c1.2, Option.bind_some, ↓reduceIte, if_neg (show ¬ (i : Int) = 0 by omega), if_pos (show (i : Int) > 0 by omega), hw, if_pos (show 0 ≤ (i : Int) - 1 by omega), if_pos (show (i : Int) - 1 < (s.length : Int) by omega), if_pos c3]
            exact Ev.now _
          · refine ⟨(fun h => by cases h), fun h => ?_⟩
            have := (h.2 i (Nat.le_refl _) hi2).2.2 (by omega)
            omega
        · refine ⟨b, ev_unroll ?_, ?_⟩
          · simp only [spec_l17Spare.l0, if_pos (show (i : Int) < (s.length : Int) by omega), if_pos (show (0 : Int) ≤ (i : Int) by omega), l1In_t c1.1 c1.2, Option.bind_some, ↓reduceIte, if_neg (show ¬ (i : Int) = 0 by omega), if_pos (show (i : Int) > 0 by omega), hw, if_pos (show 0 ≤ (i : Int) - 1 by omega), if_pos (show (i : Int) - 1 < (s.length : Int) by omega), if_neg c3]
            exact p
          · rw [q]
            refine ⟨fun h => ⟨h.1, fun j h1 h2 => ?_⟩, fun h => ⟨h.1, fun j h1 h2 => h.2 j (by omega) h2⟩⟩
            by_cases cj : j = i
            · subst cj; exact ⟨c1, fun h => by omega, fun _ => by omega⟩
            · exact h.2 j (by omega) h2
    · refine ⟨false, ev_unroll ?_, ?_⟩
      · simp only [spec_l17Spare.l0, if_pos (show (i : Int) < (s.length : Int) by omega), if_pos (show (0 : Int) ≤ (i : Int) by omega), l1In_f c1, Option.bind_some, Bool.false_eq_true, ↓reduceIte]
        exact Ev.now _
      · exact ⟨(fun h => by cases h), fun h => absurd (h.2 i (Nat.le_refl _) hi2).1 c1⟩
theorem spare_spec (s : List Int) (hs : s.length ≤ 1048576) : ∃ b, Ev (fun k => spec_l17Spare.f k s) b ∧ (b = true ↔ SpOk s) := by
  obtain ⟨b, p, q⟩ := spare_s s hs s.length 0 rfl (Nat.zero_le _)
  refine ⟨b, p, q.trans ?_⟩
  unfold SpOk
  constructor
  · rintro ⟨h4, h⟩
    have a0 := h 0 (by omega) (by omega)
    have a1 := h 1 (by omega) (by omega)
    have a2 := h 2 (by omega) (by omega)
    have a3 := h 3 (by omega) (by omega)
    exact ⟨h4, a0.2.1 rfl, a1.2.2 (by omega), a2.2.2 (by omega), a3.2.2 (by omega), a3.1.2⟩
  · rintro ⟨h4, h0, h1, h2, h3, h5⟩
    refine ⟨h4, fun j _ hj => ?_⟩
    have hj4 : j = 0 ∨ j = 1 ∨ j = 2 ∨ j = 3 := by omega
    rcases hj4 with rfl | rfl | rfl | rfl
    · exact ⟨⟨by rw [show ((0 : Nat) : Int) = 0 from rfl, h0]; decide, by rw [show ((0 : Nat) : Int) = 0 from rfl, h0]; decide⟩, fun _ => h0, fun h => by omega⟩
    · exact ⟨⟨by rw [show ((1 : Nat) : Int) = 1 from rfl]; omega, by rw [show ((1 : Nat) : Int) = 1 from rfl]; omega⟩, fun h => by omega, fun _ => h1⟩
    · exact ⟨⟨by rw [show ((2 : Nat) : Int) = 2 from rfl]; omega, by rw [show ((2 : Nat) : Int) = 2 from rfl]; omega⟩, fun h => by omega, fun _ => h2⟩
    · exact ⟨⟨by rw [show ((3 : Nat) : Int) = 3 from rfl]; omega, by rw [show ((3 : Nat) : Int) = 3 from rfl]; omega⟩, fun h => by omega, fun _ => h3⟩
theorem less_ev (a b : Int) : cmp_Less_int.f a b = some (decide (a < b)) := by simp [cmp_Less_int.f, cmp_isNaN_int.f]
theorem sorted_i (s : List Int) (hs : s.length ≤ 1048576) : ∀ (d : Nat) (i : Int), i ≤ d → i < (s.length : Int) → -1 ≤ i →
    ∃ b, Ev (fun k => slices_IsSorted_int_int.l0 k s i) b ∧ (b = true ↔ ∀ j : Int, 1 ≤ j → j ≤ i → rd s (j - 1) ≤ rd s j) := by
  have last : ∀ i : Int, ¬ i > 0 → ∃ b, Ev (fun k => slices_IsSorted_int_int.l0 k s i) b ∧ (b = true ↔ ∀ j : Int, 1 ≤ j → j ≤ i → rd s (j - 1) ≤ rd s j) := by
    intro i hi
    refine ⟨true, ev_unroll ?_, ⟨fun _ j h1 h2 => by omega, fun _ => rfl⟩⟩
    simp only [slices_IsSorted_int_int.l0, if_neg hi]
    exact Ev.now _
  intro d
  induction d with
  | zero => exact fun i hd _ _ => last i (by omega)
  | succ d ih =>
    intro i hd hl h1
    by_cases hp : i > 0
    · obtain ⟨b, p, q⟩ := ih (i - 1) (by omega) (by omega) (by omega)
      have hw : wrap64 (i - 1) = i - 1 := w64 (by omega) (by omega)
      by_cases c : rd s i < rd s (i - 1)
      · refine ⟨false, ev_unroll ?_, ⟨(fun h => by cases h), fun h => absurd (h i (by omega) (Int.le_refl _)) (by omega)⟩⟩
        simp only [slices_IsSorted_int_int.l0, if_pos hp, if_pos (show 0 ≤ i by omega), if_pos hl, hw, if_pos (show 0 ≤ i - 1 by omega), if_pos (show i - 1 < (s.length : Int) by omega), less_ev, decide_eq_true c, Option.bind_some, ↓reduceIte]
        exact Ev.now _
      · refine ⟨b, ev_unroll ?_, ?_⟩
        · simp only [slices_IsSorted_int_int.l0, if_pos hp, if_pos (show 0 ≤ i by omega), if_pos hl, hw, if_pos (show 0 ≤ i - 1 by omega), if_pos (show i - 1 < (s.length : Int) by omega), less_ev, decide_eq_false c, Option.bind_some, Bool.false_eq_true, ↓reduceIte]
          exact p
        · rw [q]
          refine ⟨fun h j h1 h2 => ?_, fun h j h1 h2 => h j h1 (by omega)⟩
          by_cases e : j = i
          · subst e; omega
          · exact h j h1 (by omega)
    · exact last i hp
theorem sorted_a (l : List S43) (hs : l.length ≤ 1048576) : ∃ b, Ev (fun k => impl_Arrival.f k l) b ∧ (b = true ↔ Sorted l) := by
  have key : ∀ (d : Nat) (i : Int), i ≤ d → i < (l.length : Int) → -1 ≤ i →
      ∃ b, Ev (fun k => impl_Arrival.l0 k l i) b ∧ (b = true ↔ ∀ j : Int, 1 ≤ j → j ≤ i → (rd_T43 l (j - 1)).f0 ≤ (rd_T43 l j).f0) := by
    have last : ∀ i : Int, ¬ i > 0 → ∃ b, Ev (fun k => impl_Arrival.l0 k l i) b ∧ (b = true ↔ ∀ j : Int, 1 ≤ j → j ≤ i → (rd_T43 l (j - 1)).f0 ≤ (rd_T43 l j).f0) := by
      intro i hi
      refine ⟨true, ev_unroll ?_, ⟨fun _ j h1 h2 => by omega, fun _ => rfl⟩⟩
      simp only [impl_Arrival.l0, if_neg hi]
      exact Ev.now _
    intro d
    induction d with
    | zero => exact fun i hd _ _ => last i (by omega)
    | succ d ih =>
      intro i hd hl h1
      by_cases hp : i > 0
      · obtain ⟨b, p, q⟩ := ih (i - 1) (by omega) (by omega) (by omega)
        have hw : wrap64 (i - 1) = i - 1 := w64 (by omega) (by omega)
        by_cases c : (rd_T43 l i).f0 < (rd_T43 l (i - 1)).f0
        · refine ⟨false, ev_unroll ?_, ⟨(fun h => by cases h), fun h => absurd (h i (by omega) (Int.le_refl _)) (by omega)⟩⟩
          simp only [impl_Arrival.l0, if_pos hp, if_pos (show 0 ≤ i by omega), if_pos hl, hw, if_pos (show 0 ≤ i - 1 by omega), if_pos (show i - 1 < (l.length : Int) by omega), if_pos c]
          exact Ev.now _
        · refine ⟨b, ev_unroll ?_, ?_⟩
          · simp only [impl_Arrival.l0, if_pos hp, if_pos (show 0 ≤ i by omega), if_pos hl, hw, if_pos (show 0 ≤ i - 1 by omega), if_pos (show i - 1 < (l.length : Int) by omega), if_neg c]
            exact p
          · rw [q]
            refine ⟨fun h j h1 h2 => ?_, fun h j h1 h2 => h j h1 (by omega)⟩
            by_cases e : j = i
            · subst e; omega
            · exact h j h1 (by omega)
      · exact last i hp
  obtain ⟨b, p, q⟩ := key l.length ((l.length : Int) - 1) (by omega) (by omega) (by omega)
  refine ⟨b, ?_, q.trans ⟨fun h j h1 h2 => h j h1 (by omega), fun h j h1 h2 => h j h1 (by omega)⟩⟩
  simp only [impl_Arrival.f]
  rw [w64 (x := (l.length : Int) - 1) (by omega) (by omega)]
  exact p
/-- The tests of the arrivals. -/
theorem arr_spec (l : List S43) (hs : l.length ≤ 1048576) : ∃ b, Ev (fun k => spec_l17Arrivals.f k l) b ∧ Ev (fun k => impl_arrivalsOk.f k l) b ∧ (b = true ↔ (∀ x ∈ l, ArOk x) ∧ l.length ≤ 200) := by
  have key : ∀ (d i : Nat), l.length - i = d → i ≤ l.length →
      ∃ b, Ev (fun k => spec_l17Arrivals.l0 k l (i : Int)) b ∧ Ev (fun k => impl_arrivalsOk.l0 k l l (l.length : Int) (i : Int)) b ∧ (b = true ↔ (∀ x ∈ l.drop i, ArOk x) ∧ l.length ≤ 200) := by
    intro d
    induction d with
    | zero =>
      intro i hd hi
      refine ⟨decide ((l.length : Int) ≤ 200), ev_unroll ?_, ev_unroll ?_, ?_⟩
      · simp only [spec_l17Arrivals.l0, if_neg (show ¬ (i : Int) < (l.length : Int) by omega)]
        exact Ev.now _
      · simp only [impl_arrivalsOk.l0, if_neg (show ¬ (i : Int) < (l.length : Int) by omega)]
        exact Ev.now _
      · rw [List.drop_eq_nil_of_le (by omega), decide_eq_true_eq]
        exact ⟨fun h => ⟨(fun x hx => by cases hx), by omega⟩, fun h => by omega⟩
    | succ d ih =>
      intro i hd hi
      have hi2 : i < l.length := by omega
      obtain ⟨b, p, p2, q⟩ := ih (i + 1) (by omega) (by omega)
      have e : ((i + 1 : Nat) : Int) = wrap64 ((i : Int) + 1) := by rw [w64 (by omega) (by omega)]; omega
      rw [e] at p p2
      rw [drop43 l i hi2]
      have n1 : (i : Int) < (l.length : Int) := by omega
      have n2 : (0 : Int) ≤ (i : Int) := by omega
      have bad : ¬ ArOk (rd_T43 l (i : Int)) → (false = true ↔ (∀ x ∈ rd_T43 l (i : Int) :: l.drop (i + 1), ArOk x) ∧ l.length ≤ 200) := fun h => ⟨(fun h2 => by cases h2), fun h2 => absurd (h2.1 _ (List.mem_cons_self ..)) h⟩
      by_cases c1 : 0 ≤ (rd_T43 l (i : Int)).f0 ∧ (rd_T43 l (i : Int)).f0 ≤ 1000000000
      · by_cases c2 : 0 ≤ (rd_T43 l (i : Int)).f1 ∧ (rd_T43 l (i : Int)).f1 ≤ 10000
        · by_cases c3 : 0 ≤ (rd_T43 l (i : Int)).f2 ∧ (rd_T43 l (i : Int)).f2 ≤ 3
          · refine ⟨b, ev_unroll ?_, ev_unroll ?_, ?_⟩
            · simp only [spec_l17Arrivals.l0, if_pos n1, if_pos n2, spec_l17Arrival.f, spec_l4Tick.f, l1In_t c1.1 c1.2, l1In_t c2.1 c2.2, l1In_t c3.1 c3.2, Option.bind_some, ↓reduceIte]
              exact p
            · simp only [impl_arrivalsOk.l0, if_pos n1, if_pos n2, in_t c1.1 c1.2, in_t c2.1 c2.2, in_t c3.1 c3.2, Option.bind_some, ↓reduceIte]
              exact p2
            · rw [q]
              exact ⟨fun h => ⟨fun x hx => by
                rcases List.mem_cons.mp hx with rfl | hx
                · exact ⟨c1, c2, c3⟩
                · exact h.1 x hx, h.2⟩, fun h => ⟨fun x hx => h.1 x (List.mem_cons_of_mem _ hx), h.2⟩⟩
          · refine ⟨false, ev_unroll ?_, ev_unroll ?_, bad (fun h => c3 h.2.2)⟩
            · simp only [spec_l17Arrivals.l0, if_pos n1, if_pos n2, spec_l17Arrival.f, spec_l4Tick.f, l1In_t c1.1 c1.2, l1In_t c2.1 c2.2, l1In_f c3, Option.bind_some, ↓reduceIte, Bool.false_eq_true]
              exact Ev.now _
            · simp only [impl_arrivalsOk.l0, if_pos n1, if_pos n2, in_t c1.1 c1.2, in_t c2.1 c2.2, in_f c3, Option.bind_some, ↓reduceIte, Bool.false_eq_true]
              exact Ev.now _
        · refine ⟨false, ev_unroll ?_, ev_unroll ?_, bad (fun h => c2 h.2.1)⟩
          · simp only [spec_l17Arrivals.l0, if_pos n1, if_pos n2, spec_l17Arrival.f, spec_l4Tick.f, l1In_t c1.1 c1.2, l1In_f c2, Option.bind_some, ↓reduceIte, Bool.false_eq_true]
            exact Ev.now _
          · simp only [impl_arrivalsOk.l0, if_pos n1, if_pos n2, in_t c1.1 c1.2, in_f c2, Option.bind_some, ↓reduceIte, Bool.false_eq_true]
            exact Ev.now _
      · refine ⟨false, ev_unroll ?_, ev_unroll ?_, bad (fun h => c1 h.1)⟩
        · simp only [spec_l17Arrivals.l0, if_pos n1, if_pos n2, spec_l17Arrival.f, spec_l4Tick.f, l1In_f c1, Option.bind_some, ↓reduceIte, Bool.false_eq_true]
          exact Ev.now _
        · simp only [impl_arrivalsOk.l0, if_pos n1, if_pos n2, in_f c1, Option.bind_some, ↓reduceIte, Bool.false_eq_true]
          exact Ev.now _
  obtain ⟨b, p, p2, q⟩ := key l.length 0 rfl (Nat.zero_le _)
  exact ⟨b, p, p2, q⟩
/-- Who goes on at a tick; a round; all of it. -/
def going (t : Int) (ends : List Int) : List Int := ends.filter (fun e => !decide (e ≤ t))
def stepT (c : Int) (sp : List Int) (a : S43) (ends : List Int) : Bool × List Int := if c - ((going a.f0 ends).length : Int) > rd sp a.f2 then (true, going a.f0 ends ++ [a.f0 + a.f1]) else (false, going a.f0 ends)
def goT (c : Int) (sp : List Int) : List S43 → List Int → List Bool × List Int
  | [], _ => ([], [])
  | a :: l, ends => ((stepT c sp a ends).1 :: (goT c sp l (stepT c sp a ends).2).1, ((stepT c sp a ends).2.length : Int) :: (goT c sp l (stepT c sp a ends).2).2)
theorem going_le (t : Int) (ends : List Int) : (going t ends).length ≤ ends.length := List.length_filter_le _ _
theorem goT_length (c : Int) (sp : List Int) : ∀ (l : List S43) (ends : List Int), (goT c sp l ends).1.length = l.length ∧ (goT c sp l ends).2.length = l.length
  | [], _ => ⟨rfl, rfl⟩
  | a :: l, ends => by
    obtain ⟨h1, h2⟩ := goT_length c sp l (stepT c sp a ends).2
    exact ⟨by simp only [goT, List.length_cons, h1], by simp only [goT, List.length_cons, h2]⟩
theorem del_ev (ends : List Int) (t : Int) (hs : ends.length ≤ 1048576) : Ev (fun k => slices_DeleteFunc_int_int.f k ends t) (going t ends) := by
  have key : ∀ (d i : Nat) (acc : List Int), ends.length - i = d → i ≤ ends.length → acc.length ≤ i → Ev (fun k => slices_DeleteFunc_int_int.l0 k ends t acc (i : Int)) (acc ++ going t (ends.drop i)) := by
    intro d
    induction d with
    | zero =>
      intro i acc hd hi ha
      rw [List.drop_eq_nil_of_le (by omega)]
      refine ev_unroll ?_
      simp only [slices_DeleteFunc_int_int.l0, if_neg (show ¬ (i : Int) < (ends.length : Int) by omega), going, List.filter_nil, List.append_nil]
      exact Ev.now _
    | succ d ih =>
      intro i acc hd hi ha
      have hi2 : i < ends.length := by omega
      have e : ((i + 1 : Nat) : Int) = wrap64 ((i : Int) + 1) := by rw [w64 (by omega) (by omega)]; omega
      rw [drop_rd hi2]
      by_cases c : rd ends (i : Int) > t
      · have p := ih (i + 1) (acc ++ [rd ends (i : Int)]) (by omega) (by omega) (by simp; omega)
        rw [e] at p
        refine ev_unroll ?_
        simp only [slices_DeleteFunc_int_int.l0, if_pos (show (i : Int) < (ends.length : Int) by omega), if_pos (show (0 : Int) ≤ (i : Int) by omega), if_pos c, if_pos (show acc.length < 17592186044416 by omega), going, List.filter_cons, decide_eq_false (show ¬ rd ends (i : Int) ≤ t by omega), Bool.not_false, ↓reduceIte]
        simpa [going] using p
      · have p := ih (i + 1) acc (by omega) (by omega) (by omega)
        rw [e] at p
        refine ev_unroll ?_
        simp only [slices_DeleteFunc_int_int.l0, if_pos (show (i : Int) < (ends.length : Int) by omega), if_pos (show (0 : Int) ≤ (i : Int) by omega), if_neg c, going, List.filter_cons, decide_eq_true (show rd ends (i : Int) ≤ t by omega), Bool.not_true, Bool.false_eq_true, ↓reduceIte]
        simpa [going] using p
  have h := key ends.length 0 [] rfl (Nat.zero_le _) (by simp)
  simp only [slices_DeleteFunc_int_int.f]
  simpa using h
section
variable (c : Int) (sp : List Int) (l : List S43) (hc : 0 ≤ c ∧ c ≤ 64) (hsp : SpOk sp) (hl : (∀ x ∈ l, ArOk x) ∧ l.length ≤ 200)
include hc hsp hl
theorem impl_go : ∀ (d i : Nat) (inn : List Bool) (busy ends : List Int), l.length - i = d → i ≤ l.length → inn.length ≤ 1000 → busy.length ≤ 1000 → inn.length + d ≤ 1000 → busy.length + d ≤ 1000 → ends.length ≤ i →
    Ev (fun k => impl_Try.l0 k c sp inn busy ends l (l.length : Int) (i : Int)) (inn ++ (goT c sp (l.drop i) ends).1, busy ++ (goT c sp (l.drop i) ends).2, true) := by
  intro d
  induction d with
  | zero =>
    intro i inn busy ends hd hi h1 h2 h3 h4 h5
    rw [List.drop_eq_nil_of_le (by omega)]
    refine ev_unroll ?_
    simp only [impl_Try.l0, if_neg (show ¬ (i : Int) < (l.length : Int) by omega), goT, List.append_nil]
    exact Ev.now _
  | succ d ih =>
    intro i inn busy ends hd hi h1 h2 h3 h4 h5
    have hi2 : i < l.length := by omega
    have n1 : (i : Int) < (l.length : Int) := by omega
    have n2 : (0 : Int) ≤ (i : Int) := by omega
    have ha := hl.1 _ (rd43_mem n2 n1)
    rw [drop43 l i hi2]
    obtain ⟨q1, q2, q3⟩ := ha
    have hlen := hl.2
    have hs4 := hsp.1
    have gl := going_le (rd_T43 l (i : Int)).f0 ends
    have p := fun (inn' : List Bool) (busy' ends' : List Int) (e1 : inn'.length = inn.length + 1) (e2 : busy'.length = busy.length + 1) (e3 : ends'.length ≤ i + 1) => ih (i + 1) inn' busy' ends' (by omega) (by omega) (by omega) (by omega) (by omega) (by omega) (by omega)
    have e := Aside0.mk (show ((i + 1 : Nat) : Int) = wrap64 ((i : Int) + 1) by rw [w64 (by omega) (by omega)]; omega)
    have wc := Aside0.mk (show wrap64 (c - ((going (rd_T43 l (i : Int)).f0 ends).length : Int)) = c - ((going (rd_T43 l (i : Int)).f0 ends).length : Int) from w64 (by omega) (by omega))
    have we := Aside0.mk (show wrap64 ((rd_T43 l (i : Int)).f0 + (rd_T43 l (i : Int)).f1) = (rd_T43 l (i : Int)).f0 + (rd_T43 l (i : Int)).f1 from w64 (by omega) (by omega))
    have m1 : (rd_T43 l (i : Int)).f2 < (sp.length : Int) := by omega
    have m2 : (going (rd_T43 l (i : Int)).f0 ends).length < 17592186044416 := by omega
    have m3 : inn.length < 140737488355328 := by omega
    have m4 : busy.length < 17592186044416 := by omega
    by_cases ct : c - ((going (rd_T43 l (i : Int)).f0 ends).length : Int) > rd sp (rd_T43 l (i : Int)).f2
    · have h := p (inn ++ [true]) (busy ++ [((going (rd_T43 l (i : Int)).f0 ends ++ [(rd_T43 l (i : Int)).f0 + (rd_T43 l (i : Int)).f1]).length : Int)]) (going (rd_T43 l (i : Int)).f0 ends ++ [(rd_T43 l (i : Int)).f0 + (rd_T43 l (i : Int)).f1]) (by simp) (by simp) (by simp; omega)
      rw [e.out, List.append_assoc, List.append_assoc] at h
      refine ev_unroll ?_
      simp only [impl_Try.l0, if_pos n1, if_pos n2]
      refine Ev.bind (del_ev ends _ (by omega)) ?_
      simp only [wc.out, we.out, if_pos q3.1, if_pos m1, if_pos ct, if_pos m2, if_pos m3, if_pos m4, Option.bind_some, decide_eq_true ct]
      simpa [goT, stepT, if_pos ct] using h
    · have h := p (inn ++ [false]) (busy ++ [((going (rd_T43 l (i : Int)).f0 ends).length : Int)]) (going (rd_T43 l (i : Int)).f0 ends) (by simp) (by simp) (by omega)
      rw [e.out, List.append_assoc, List.append_assoc] at h
      refine ev_unroll ?_
      simp only [impl_Try.l0, if_pos n1, if_pos n2]
      refine Ev.bind (del_ev ends _ (by omega)) ?_
      simp only [wc.out, if_pos q3.1, if_pos m1, if_neg ct, if_pos m3, if_pos m4, decide_eq_false ct]
      simpa [goT, stepT, if_neg ct] using h
/-- The reference's inner round: who goes on. -/
theorem spec_left (i : Nat) (hi : i < l.length) (inn : List Bool) (busy ends : List Int) (r : List Bool × List Int × Bool) (he : ends.length ≤ 1000) (a : S43) (H : Ev (fun k => spec_Try.l1 k c sp l inn busy ends (i : Int) (going a.f0 ends) (ends.length : Int) a.f0 a.f1 a.f2) r) :
    ∀ (d j : Nat), ends.length - j = d → j ≤ ends.length → Ev (fun k => spec_Try.l1 k c sp l inn busy ends (i : Int) (going a.f0 (ends.take j)) (j : Int) a.f0 a.f1 a.f2) r := by
  intro d
  induction d with
  | zero =>
    intro j hd hj
    have e : j = ends.length := by omega
    subst e
    rw [List.take_length]
    exact H
  | succ d ih =>
    intro j hd hj
    have hj2 : j < ends.length := by omega
    have p := ih (j + 1) (by omega) (by omega)
    have e := Aside0.mk (show ((j + 1 : Nat) : Int) = wrap64 ((j : Int) + 1) by rw [w64 (by omega) (by omega)]; omega)
    have gl := going_le a.f0 (ends.take j)
    have tl : (ends.take j).length ≤ j := List.length_take_le _ _
    rw [e.out, take_rd hj2] at p
    refine ev_unroll ?_
    by_cases ct : rd ends (j : Int) > a.f0
    · simp only [spec_Try.l1, if_pos (show (j : Int) < (ends.length : Int) by omega), if_pos (show (0 : Int) ≤ (j : Int) by omega), if_pos ct, if_pos (show (going a.f0 (ends.take j)).length < 17592186044416 by omega)]
      have hd2 : decide (rd ends (j : Int) ≤ a.f0) = false := decide_eq_false (by omega)
      simpa [going, List.filter_append, hd2] using p
    · simp only [spec_Try.l1, if_pos (show (j : Int) < (ends.length : Int) by omega), if_pos (show (0 : Int) ≤ (j : Int) by omega), if_neg ct]
      have hd2 : decide (rd ends (j : Int) ≤ a.f0) = true := decide_eq_true (by omega)
      simpa [going, List.filter_append, hd2] using p
/-- The reference: where the ticks are in order as ours, else nothing. -/
theorem spec_go : ∀ (d i : Nat) (inn : List Bool) (busy ends : List Int), l.length - i = d → i ≤ l.length → inn.length + d ≤ 1000 → busy.length + d ≤ 1000 → ends.length ≤ i →
    ((∀ j : Int, 1 ≤ j → (i : Int) ≤ j → j < (l.length : Int) → (rd_T43 l (j - 1)).f0 ≤ (rd_T43 l j).f0) → Ev (fun k => spec_Try.l0 k c sp l inn busy ends (i : Int)) (inn ++ (goT c sp (l.drop i) ends).1, busy ++ (goT c sp (l.drop i) ends).2, true)) ∧
    (¬ (∀ j : Int, 1 ≤ j → (i : Int) ≤ j → j < (l.length : Int) → (rd_T43 l (j - 1)).f0 ≤ (rd_T43 l j).f0) → Ev (fun k => spec_Try.l0 k c sp l inn busy ends (i : Int)) ([], [], false)) := by
  intro d
  induction d with
  | zero =>
    intro i inn busy ends hd hi h3 h4 h5
    refine ⟨fun _ => ?_, fun h => absurd (fun j h1 h2 h3 => by omega) h⟩
    rw [List.drop_eq_nil_of_le (by omega)]
    refine ev_unroll ?_
    simp only [spec_Try.l0, if_neg (show ¬ (i : Int) < (l.length : Int) by omega), goT, List.append_nil]
    exact Ev.now _
  | succ d ih =>
    intro i inn busy ends hd hi h3 h4 h5
    have hi2 : i < l.length := by omega
    have n1 : (i : Int) < (l.length : Int) := by omega
    have n2 : (0 : Int) ≤ (i : Int) := by omega
    have ha := hl.1 _ (rd43_mem n2 n1)
    obtain ⟨q1, q2, q3⟩ := ha
    have hlen := hl.2
    have hs4 := hsp.1
    have gl := going_le (rd_T43 l (i : Int)).f0 ends
    have e := Aside0.mk (show ((i + 1 : Nat) : Int) = wrap64 ((i : Int) + 1) by rw [w64 (by omega) (by omega)]; omega)
    have wc := Aside0.mk (show wrap64 (c - ((going (rd_T43 l (i : Int)).f0 ends).length : Int)) = c - ((going (rd_T43 l (i : Int)).f0 ends).length : Int) from w64 (by omega) (by omega))
    have we := Aside0.mk (show wrap64 ((rd_T43 l (i : Int)).f0 + (rd_T43 l (i : Int)).f1) = (rd_T43 l (i : Int)).f0 + (rd_T43 l (i : Int)).f1 from w64 (by omega) (by omega))
    have m1 : (rd_T43 l (i : Int)).f2 < (sp.length : Int) := by omega
    have m2 : (going (rd_T43 l (i : Int)).f0 ends).length < 17592186044416 := by omega
    have m3 : inn.length < 140737488355328 := by omega
    have m4 : busy.length < 17592186044416 := by omega
    have nl : ¬ (ends.length : Int) < (ends.length : Int) := by omega
    -- behind the test of the order
    have inner : ∀ r, (c - ((going (rd_T43 l (i : Int)).f0 ends).length : Int) > rd sp (rd_T43 l (i : Int)).f2 → Ev (fun k => spec_Try.l0 k c sp l (inn ++ [true]) (busy ++ [((going (rd_T43 l (i : Int)).f0 ends ++ [(rd_T43 l (i : Int)).f0 + (rd_T43 l (i : Int)).f1]).length : Int)]) (going (rd_T43 l (i : Int)).f0 ends ++ [(rd_T43 l (i : Int)).f0 + (rd_T43 l (i : Int)).f1]) ((i + 1 : Nat) : Int)) r) →
        (¬ c - ((going (rd_T43 l (i : Int)).f0 ends).length : Int) > rd sp (rd_T43 l (i : Int)).f2 → Ev (fun k => spec_Try.l0 k c sp l (inn ++ [false]) (busy ++ [((going (rd_T43 l (i : Int)).f0 ends).length : Int)]) (going (rd_T43 l (i : Int)).f0 ends) ((i + 1 : Nat) : Int)) r) →
        Ev (fun k => spec_Try.j2 k c sp l inn busy ends (i : Int) false (rd_T43 l (i : Int)).f0 (rd_T43 l (i : Int)).f1 (rd_T43 l (i : Int)).f2) r := by
      intro r g1 g2
      refine ev_unroll ?_
      simp only [spec_Try.j2, Bool.false_eq_true, ↓reduceIte]
      refine spec_left c sp l hc hsp hl i hi2 inn busy ends r (by omega) (rd_T43 l (i : Int)) (ev_unroll ?_) ends.length 0 (by omega) (Nat.zero_le _)
      by_cases ct : c - ((going (rd_T43 l (i : Int)).f0 ends).length : Int) > rd sp (rd_T43 l (i : Int)).f2
      · have h := g1 ct
        rw [e.out] at h
        simp only [spec_Try.l1, if_neg nl, wc.out, we.out, if_pos q3.1, if_pos m1, if_pos ct, if_pos m2, if_pos m3, if_pos m4, Option.bind_some, decide_eq_true ct]
        exact h
      · have h := g2 ct
        rw [e.out] at h
        simp only [spec_Try.l1, if_neg nl, wc.out, if_pos q3.1, if_pos m1, if_neg ct, if_pos m3, if_pos m4, decide_eq_false ct]
        exact h
    have o1 := ih (i + 1) (inn ++ [true]) (busy ++ [((going (rd_T43 l (i : Int)).f0 ends ++ [(rd_T43 l (i : Int)).f0 + (rd_T43 l (i : Int)).f1]).length : Int)]) (going (rd_T43 l (i : Int)).f0 ends ++ [(rd_T43 l (i : Int)).f0 + (rd_T43 l (i : Int)).f1]) (by omega) (by omega) (by simp; omega) (by simp; omega) (by simp; omega)
    have o2 := ih (i + 1) (inn ++ [false]) (busy ++ [((going (rd_T43 l (i : Int)).f0 ends).length : Int)]) (going (rd_T43 l (i : Int)).f0 ends) (by omega) (by omega) (by simp; omega) (by simp; omega) (by omega)
    by_cases cz : 1 ≤ i ∧ (rd_T43 l ((i : Int) - 1)).f0 > (rd_T43 l (i : Int)).f0
    · refine ⟨fun h => absurd (h i (by omega) (Int.le_refl _) n1) (by omega), fun _ => ev_unroll ?_⟩
      have hw : wrap64 ((i : Int) - 1) = (i : Int) - 1 := w64 (by omega) (by omega)
      simp only [spec_Try.l0, if_pos n1, if_pos n2, if_pos (show (i : Int) > 0 by omega), hw, if_pos (show 0 ≤ (i : Int) - 1 by omega), if_pos (show (i : Int) - 1 < (l.length : Int) by omega), decide_eq_true cz.2]
      refine ev_unroll ?_
      simp only [spec_Try.j2, ↓reduceIte]
      exact Ev.now _
    · have start : ∀ r, Ev (fun k => spec_Try.j2 k c sp l inn busy ends (i : Int) false (rd_T43 l (i : Int)).f0 (rd_T43 l (i : Int)).f1 (rd_T43 l (i : Int)).f2) r → Ev (fun k => spec_Try.l0 k c sp l inn busy ends (i : Int)) r := by
        intro r h
        refine ev_unroll ?_
        by_cases c1 : 1 ≤ i
        · have hw : wrap64 ((i : Int) - 1) = (i : Int) - 1 := w64 (by omega) (by omega)
          simp only [spec_Try.l0, if_pos n1, if_pos n2, if_pos (show (i : Int) > 0 by omega), hw, if_pos (show 0 ≤ (i : Int) - 1 by omega), if_pos (show (i : Int) - 1 < (l.length : Int) by omega), decide_eq_false (show ¬ (rd_T43 l ((i : Int) - 1)).f0 > (rd_T43 l (i : Int)).f0 from fun h => cz ⟨c1, h⟩)]
          exact h
        · simp only [spec_Try.l0, if_pos n1, if_pos n2, if_neg (show ¬ (i : Int) > 0 by omega)]
          exact h
      refine ⟨fun h => ?_, fun h => ?_⟩
      · have hh : ∀ j : Int, 1 ≤ j → ((i + 1 : Nat) : Int) ≤ j → j < (l.length : Int) → (rd_T43 l (j - 1)).f0 ≤ (rd_T43 l j).f0 := fun j a b d => h j a (by omega) d
        rw [drop43 l i hi2]
        refine start _ (inner _ (fun ct => ?_) (fun ct => ?_))
        · have := o1.1 hh
          simpa [goT, stepT, if_pos ct] using this
        · have := o2.1 hh
          simpa [goT, stepT, if_neg ct] using this
      · have hh : ¬ ∀ j : Int, 1 ≤ j → ((i + 1 : Nat) : Int) ≤ j → j < (l.length : Int) → (rd_T43 l (j - 1)).f0 ≤ (rd_T43 l j).f0 := fun g => h (fun j a b d => by
          by_cases ej : j = (i : Int)
          · subst ej
            have := fun hh => cz ⟨by omega, hh⟩
            omega
          · exact g j a (by omega) d)
        exact start _ (inner _ (fun _ => o1.2 hh) (fun _ => o2.2 hh))
end
open Classical in
/-- What Try tells. -/
noncomputable def tryR (c : Int) (sp : List Int) (l : List S43) : List Bool × List Int × Bool :=
  if (0 ≤ c ∧ c ≤ 64) ∧ SpOk sp ∧ ((∀ x ∈ l, ArOk x) ∧ l.length ≤ 200) ∧ Sorted l then ((goT c sp l []).1, (goT c sp l []).2, true) else ([], [], false)
theorem try_both (c : Int) (sp : List Int) (l : List S43) (hs : sp.length ≤ 1048576) (hn : l.length ≤ 1048576) : Ev (fun k => spec_Try.f k c sp l) (tryR c sp l) ∧ Ev (fun k => impl_Try.f k c sp l) (tryR c sp l) := by
  obtain ⟨r, er⟩ : ∃ r, r = tryR c sp l := ⟨_, rfl⟩
  rw [← er]
  unfold tryR at er
  obtain ⟨b1, p1, q1⟩ := spare_spec sp hs
  obtain ⟨b2, p2, p3, q2⟩ := arr_spec l hn
  obtain ⟨b3, p4, q3⟩ := sorted_a l hn
  obtain ⟨b4, p5, q4⟩ := sorted_i sp hs sp.length ((sp.length : Int) - 1) (by omega) (by omega) (by omega)
  have ws : wrap64 ((sp.length : Int) - 1) = (sp.length : Int) - 1 := w64 (by omega) (by omega)
  have p5' : Ev (fun k => slices_IsSorted_int_int.f k sp) b4 := by simp only [slices_IsSorted_int_int.f, ws]; exact p5
  by_cases h1 : 0 ≤ c ∧ c ≤ 64
  · constructor
    · simp only [spec_Try.f, l1In_t h1.1 h1.2, Option.bind_some, ↓reduceIte]
      refine Ev.bind p1 ?_
      by_cases h2 : SpOk sp
      · rw [q1.mpr h2]
        simp only [↓reduceIte]
        refine Ev.bind p2 ?_
        by_cases h3 : (∀ x ∈ l, ArOk x) ∧ l.length ≤ 200
        · rw [q2.mpr h3]
          simp only [Bool.not_true]
          refine ev_unroll ?_
          simp only [spec_Try.j0, Bool.false_eq_true, ↓reduceIte]
          obtain ⟨g1, g2⟩ := spec_go c sp l h1 h2 h3 l.length 0 [] [] [] rfl (Nat.zero_le _) (by simp; omega) (by simp; omega) (Nat.le_refl _)
          by_cases h4 : Sorted l
          · rw [if_pos ⟨h1, h2, h3, h4⟩] at er
            rw [er]
            simpa using g1 (fun j a _ b => h4 j a b)
          · rw [if_neg (fun h => h4 h.2.2.2)] at er
            rw [er]
            exact g2 (fun h => h4 (fun j a b => h j a (by omega) b))
        · rw [if_neg (fun h => h3 h.2.2.1)] at er
          rw [er, Bool.eq_false_iff.mpr (fun h => h3 (q2.mp h))]
          simp only [Bool.not_false]
          refine ev_unroll ?_
          simp only [spec_Try.j0, ↓reduceIte]
          exact Ev.now _
      · rw [if_neg (fun h => h2 h.2.1)] at er
        rw [er, Bool.eq_false_iff.mpr (fun h => h2 (q1.mp h))]
        simp only [Bool.false_eq_true, ↓reduceIte]
        refine ev_unroll ?_
        simp only [spec_Try.j0, ↓reduceIte]
        exact Ev.now _
    · have out : ∀ (h : ¬ ((0 ≤ c ∧ c ≤ 64) ∧ SpOk sp ∧ ((∀ x ∈ l, ArOk x) ∧ l.length ≤ 200) ∧ Sorted l)), Ev (fun k => impl_Try.j0 k c sp l true) r := by
        intro h
        rw [if_neg h] at er
        rw [er]
        refine ev_unroll ?_
        simp only [impl_Try.j0, ↓reduceIte]
        exact Ev.now _
      simp only [impl_Try.f, in_t h1.1 h1.2, Option.bind_some, ↓reduceIte]
      by_cases a1 : (sp.length : Int) = 4
      · simp only [if_pos a1, if_pos (show (0 : Int) < (sp.length : Int) by omega)]
        by_cases a2 : rd sp 0 = 0
        · simp only [if_pos a2]
          refine Ev.bind p5' ?_
          by_cases a3 : b4 = true
          · subst a3
            have a3' := q4.mp rfl
            have s1 := a3' 1 (by omega) (by omega)
            have s2 := a3' 2 (by omega) (by omega)
            have s3 := a3' 3 (by omega) (by omega)
            simp only [↓reduceIte, if_pos (show (3 : Int) < (sp.length : Int) by omega)]
            by_cases a4 : rd sp 3 > 64
            · simp only [if_pos a4]
              exact out (fun h => by have := h.2.1.2.2.2.2.2; omega)
            · simp only [if_neg a4]
              have h2 : SpOk sp := ⟨a1, a2, s1, s2, s3, by omega⟩
              refine Ev.bind p3 ?_
              by_cases h3 : (∀ x ∈ l, ArOk x) ∧ l.length ≤ 200
              · rw [q2.mpr h3]
                simp only [↓reduceIte]
                refine Ev.bind p4 ?_
                by_cases h4 : Sorted l
                · rw [if_pos ⟨h1, h2, h3, h4⟩] at er
                  rw [er, q3.mpr h4]
                  simp only [Bool.not_true]
                  refine ev_unroll ?_
                  simp only [impl_Try.j0, Bool.false_eq_true, ↓reduceIte]
                  have := impl_go c sp l h1 h2 h3 l.length 0 [] [] [] rfl (Nat.zero_le _) (by simp) (by simp) (by simp; omega) (by simp; omega) (Nat.le_refl _)
                  simpa using this
                · rw [Bool.eq_false_iff.mpr (fun h => h4 (q3.mp h))]
                  exact out (fun h => h4 h.2.2.2)
              · rw [Bool.eq_false_iff.mpr (fun h => h3 (q2.mp h))]
                simp only [Bool.false_eq_true, ↓reduceIte]
                exact out (fun h => h3 h.2.2.1)
          · rw [Bool.eq_false_iff.mpr a3]
            simp only [Bool.false_eq_true, ↓reduceIte]
            refine out (fun h => a3 (q4.mpr (fun j j1 j2 => ?_)))
            obtain ⟨g1, g2, g3, g4, g5, g6⟩ := h.2.1
            have hj : j = 1 ∨ j = 2 ∨ j = 3 := by omega
            rcases hj with rfl | rfl | rfl
            · exact g3
            · exact g4
            · exact g5
        · simp only [if_neg a2]
          exact out (fun h => a2 h.2.1.2.1)
      · simp only [if_neg a1]
        exact out (fun h => a1 h.2.1.1)
  · rw [if_neg (fun h => h1 h.1)] at er
    rw [er]
    constructor
    · simp only [spec_Try.f, l1In_f h1, Option.bind_some, Bool.false_eq_true, ↓reduceIte]
      refine ev_unroll ?_
      simp only [spec_Try.j0, ↓reduceIte]
      exact Ev.now _
    · simp only [impl_Try.f, in_f h1, Option.bind_some, Bool.false_eq_true, ↓reduceIte]
      refine ev_unroll ?_
      simp only [impl_Try.j0, ↓reduceIte]
      exact Ev.now _
theorem tryR_length (c : Int) (sp : List Int) (l : List S43) (hn : l.length ≤ 1048576) : (tryR c sp l).1.length ≤ 1048576 ∧ (tryR c sp l).2.1.length ≤ 1048576 := by
  unfold tryR
  split
  · obtain ⟨h1, h2⟩ := goT_length c sp l []
    exact ⟨by rw [h1]; omega, by rw [h2]; omega⟩
  · exact ⟨by simp, by simp⟩
def laws_FnExactTry.Pure : Prop := ∀ (a0 : Int) (l1 : List Int) (l2 : List S53), (Lit.int .i64 a0).wf = true → l1.length ≤ maxLen → l2.length ≤ maxLen → ∃ k, laws_FnExactTry.f k a0 l1 l2 = some true
theorem FnExactTry : laws_FnExactTry.Pure := by
  intro a0 l1 l2 _ _ hm2
  refine Ev.rounds (g := fun k => laws_FnExactTry.f k a0 l1 l2) ?_
  by_cases hb : (l1.length : Int) > 1048576
  · simp only [laws_FnExactTry.f, if_pos hb]
    exact Ev.now _
  have hn1 : l1.length ≤ 1048576 := by omega
  unfold maxLen at hm2
  have hw : wrap64 (1048576 - (l2.length : Int)) = 1048576 - (l2.length : Int) := w64 (by omega) (by omega)
  by_cases hb2 : 1048576 - (l2.length : Int) < 0
  · simp only [laws_FnExactTry.f, if_neg hb, laws_szArrivalS.f, hw, if_pos hb2, Option.bind_some, if_pos (show (-1 : Int) < 0 by omega)]
    exact Ev.now _
  have hn2 : l2.length ≤ 1048576 := by omega
  simp only [laws_FnExactTry.f, if_neg hb, laws_szArrivalS.f, hw, if_neg hb2, Option.bind_some]
  have ht1 := toIntS_ev l1 hn1
  have ht2 := toArrivalS_ev l2 hn2
  have hnm : (l2.map asArr).length ≤ 1048576 := by simpa using hn2
  obtain ⟨hs, hi⟩ := try_both a0 l1 (l2.map asArr) hn1 hnm
  obtain ⟨z1, z2⟩ := tryR_length a0 l1 (l2.map asArr) hnm
  generalize tryR a0 l1 (l2.map asArr) = r at hs hi z1 z2
  obtain ⟨F, B, ok⟩ := r
  simp only at z1 z2
  refine Ev.bind ht1 (Ev.bind ht2 (Ev.bind hs (Ev.bind ht1 (Ev.bind ht2 (Ev.bind hi (Ev.bind (eqBoolS_ev F z1) ?_))))))
  simp only [↓reduceIte, bne_self_eq_false]
  refine Ev.bind (eqIntS_ev B z2) ?_
  simp only [↓reduceIte]
  refine ev_unroll ?_
  simp only [laws_FnExactTry.j0, Bool.false_eq_true, ↓reduceIte]
  refine Ev.bind ht1 (Ev.bind (eqIntS_ev l1 hn1) ?_)
  simp only [↓reduceIte]
  refine Ev.bind ht2 (Ev.bind (eqArrivalS_ev _ hnm) ?_)
  simp only [↓reduceIte]
  obtain ⟨l', hmk⟩ := markArrivalS_ex (l2.map asArr).length (l2.map asArr) (1 + (l1.length : Int)) rfl hnm (by omega) (by omega)
  refine Ev.bind (markIntS_ev l1 1 (by omega) (by omega) hn1) (Ev.bind hmk ?_)
  simp (disch := omega) only [↓if_neg]
  refine Ev.bind (eqBoolS_ev F z1) ?_
  simp only [↓reduceIte, bne_self_eq_false]
  refine Ev.bind (eqIntS_ev B z2) ?_
  simp only [↓reduceIte]
  refine ev_unroll ?_
  simp only [laws_FnExactTry.j1, Bool.false_eq_true, ↓reduceIte]
  refine Ev.bind (markBoolS_ev F 1 (by omega) (by omega) z1) (Ev.bind (markIntS_ev B _ (by simp only; omega) (by simp only; omega) z2) (Ev.bind (heldBoolS_ev F.length 1 (by omega) (by omega) z1) ?_))
  simp (disch := omega) only [↓if_neg]
  refine Ev.bind (heldIntS_ev B.length _ (by omega) (by omega) z2) ?_
  simp (disch := omega) only [↓if_neg, ↓reduceIte]
  refine Ev.bind ht1 (Ev.bind ht2 (Ev.bind hi (Ev.bind (eqBoolS_ev F z1) ?_)))
  simp only [↓reduceIte, bne_self_eq_false]
  refine Ev.bind (eqIntS_ev B z2) ?_
  simp only [↓reduceIte]
  refine ev_unroll ?_
  simp only [laws_FnExactTry.j2, Bool.false_eq_true, ↓reduceIte]
  refine Ev.bind (heldBoolS_ev F.length 1 (by omega) (by omega) z1) ?_
  simp (disch := omega) only [↓if_neg]
  refine Ev.bind (heldIntS_ev B.length _ (by omega) (by omega) z2) ?_
  simp (disch := omega) only [↓if_neg, ↓reduceIte]
  exact Ev.now _

end Go.Proofs.Ytakafcocojjeoaa.Pure
