/- The law FnExactServing: for all measures the program's Serving and the reference's tell the same, the measures stay as they were, and what is told is a list of its own. -/
import Derived.Test.YthhbeekokbcnfaaMFnExactServingx7
import Derived.Test.YthhbeekokbcnfaaKit
namespace Go.Proofs.Ythhbeekokbcnfaa.Pure
set_option linter.unusedSimpArgs false
set_option linter.unusedVariables false
set_option linter.unusedSectionVars false
open Go Go.RowKit Go.Proofs.Ythhbeekokbcnfaa.MFnExactServing Go.Proofs.YthhbeekokbcnfaaW.PrintWords Go.Proofs.YthhbeekokbcnfaaW.PrintLast Go.Proofs.Ythhbeekokbcnfaa.Mine

theorem toIntS_ev (x0 : List Int) (hn : x0.length ≤ 1048576) : Ev (fun k => laws_toIntS.f k x0) x0 := by
  have key : ∀ (d : Nat) (x3 : List Int) (i : Nat), x0.length - i = d → i ≤ x0.length → x3.length = x0.length → x3.take i = x0.take i → Ev (fun k => laws_toIntS.l0 k x0 x3 (i : Int)) x0 := by
    intro d
    induction d with
    | zero =>
      intro x3 i hd hi hl ht
      have e : x3 = x0 := by
        have h : i = x0.length := by omega
        rw [h, List.take_length, ← hl, List.take_length] at ht
        exact ht
      subst e
      refine ev_unroll ?_
      simp (disch := omega) only [laws_toIntS.l0, ↓if_neg]
      exact Ev.now _
    | succ d ih =>
      intro x3 i hd hi hl ht
      refine ev_unroll ?_
      simp (disch := omega) only [laws_toIntS.l0, ↓if_pos, w64]
      have h := ih (x3.set i (rd x0 i)) (i + 1) (by omega) (by omega) (by simp [hl]) (by rw [rd_nat]; exact take_set_succ 0 hl ht (by omega))
      simpa using h
  have h := key _ (List.replicate x0.length 0) 0 rfl (by omega) (by simp) (by simp)
  simp (disch := omega) only [laws_toIntS.f, ↓if_pos]
  simpa using h
theorem eqIntS_ev (x0 : List Int) (hn : x0.length ≤ 1048576) : Ev (fun k => laws_eqIntS.f k x0 x0) true := by
  have key : ∀ (d : Nat) (i : Nat), x0.length - i = d → i ≤ x0.length → Ev (fun k => laws_eqIntS.l0 k x0 x0 (i : Int)) true := by
    intro d
    induction d with
    | zero =>
      intro i hd hi
      refine ev_unroll ?_
      simp (disch := omega) only [laws_eqIntS.l0, ↓if_neg]
      exact Ev.now _
    | succ d ih =>
      intro i hd hi
      refine ev_unroll ?_
      simp (disch := omega) only [laws_eqIntS.l0, ↓if_pos, w64]
      have h := ih (i + 1) (by omega) (by omega)
      simpa using h
  have h := key _ 0 rfl (by omega)
  simp (disch := omega) only [laws_eqIntS.f, ↓if_pos]
  simpa using h
/-- What a marked list holds. -/
def marks (m : Int) (n : Nat) : List Int := (List.range n).map fun (j : Nat) => m + (j : Int)
theorem marks_length (m : Int) (n : Nat) : (marks m n).length = n := by simp [marks]
theorem rd_marks (m : Int) (n i : Nat) (h : i < n) : rd (marks m n) (i : Int) = m + i := by simp [rd, marks, h]
theorem markIntS_ev (x0 : List Int) (m : Int) (hm : 0 ≤ m) (hm2 : m ≤ 1000000000) (hn : x0.length ≤ 1048576) : Ev (fun k => laws_markIntS.f k x0 m) ((m + x0.length : Int), marks m x0.length) := by
  have key : ∀ (d : Nat) (y : List Int) (i : Nat), x0.length - i = d → i ≤ x0.length → y.length = x0.length → y.take i = (marks m x0.length).take i → Ev (fun k => laws_markIntS.l0 k y (m + (i : Int)) (i : Int)) ((m + x0.length : Int), marks m x0.length) := by
    intro d
    induction d with
    | zero =>
      intro y i hd hi hl ht
      have h : i = x0.length := by omega
      have e : y = marks m x0.length := by
        have h2 := ht
        rw [List.take_of_length_le (by omega), List.take_of_length_le (by rw [marks_length]; omega)] at h2
        exact h2
      refine ev_unroll ?_
      simp (disch := omega) only [laws_markIntS.l0, ↓if_neg]
      rw [h, e]
      exact Ev.now _
    | succ d ih =>
      intro y i hd hi hl ht
      refine ev_unroll ?_
      simp (disch := omega) only [laws_markIntS.l0, ↓if_pos, w64]
      have h := ih (y.set i (m + (i : Int))) (i + 1) (by omega) (by omega) (by simp [hl]) (by
        have h2 := take_set_succ (l := y) (m := marks m x0.length) 0 (by rw [marks_length]; exact hl) ht (by rw [marks_length]; omega)
        rw [show (marks m x0.length).getD i 0 = m + (i : Int) from by rw [← rd_nat, rd_marks _ _ _ (by omega)]] at h2
        exact h2)
      rw [show (m + (i : Int) + 1) = m + ((i + 1 : Nat) : Int) from by omega, show ((i : Int) + 1) = ((i + 1 : Nat) : Int) from by omega]
      simpa using h
  have h := key _ x0 0 rfl (by omega) rfl (by simp)
  simp only [laws_markIntS.f]
  simpa using h
theorem heldIntS_ev (n : Nat) (m : Int) (hm : 0 ≤ m) (hm2 : m ≤ 1000000000) (hn : n ≤ 1048576) : Ev (fun k => laws_heldIntS.f k (marks m n) m) (m + n : Int) := by
  have key : ∀ (d : Nat) (i : Nat), n - i = d → i ≤ n → Ev (fun k => laws_heldIntS.l0 k (marks m n) (m + (i : Int)) (i : Int)) (m + n : Int) := by
    intro d
    induction d with
    | zero =>
      intro i hd hi
      have h : i = n := by omega
      have hl := marks_length m n
      refine ev_unroll ?_
      simp (disch := omega) only [laws_heldIntS.l0, ↓if_neg]
      rw [h]
      exact Ev.now _
    | succ d ih =>
      intro i hd hi
      have hl := marks_length m n
      have hr := rd_marks m n i (by omega)
      refine ev_unroll ?_
      simp (disch := omega) only [laws_heldIntS.l0, ↓if_pos, w64]
      have h := ih (i + 1) (by omega) (by omega)
      rw [show (m + (i : Int) + 1) = m + ((i + 1 : Nat) : Int) from by omega, show ((i : Int) + 1) = ((i + 1 : Nat) : Int) from by omega]
      exact h
  have h := key _ 0 rfl (by omega)
  simp only [laws_heldIntS.f]
  simpa using h
theorem in_t {a b c : Int} (h : b ≤ a) (h2 : a ≤ c) : impl_in.f a b c = some true := by
  unfold impl_in.f
  rw [if_pos (by omega)]; simp [h2]
theorem in_f {a b c : Int} (h : ¬ (b ≤ a ∧ a ≤ c)) : impl_in.f a b c = some false := by
  unfold impl_in.f
  by_cases g : a ≥ b
  · rw [if_pos g]; simp; omega
  · rw [if_neg g]
theorem l1In_t {a b c : Int} (h : b ≤ a) (h2 : a ≤ c) : spec_l1In.f a b c = some true := by
  unfold spec_l1In.f
  rw [if_pos (by omega)]; simp [h2]
theorem l1In_f {a b c : Int} (h : ¬ (b ≤ a ∧ a ≤ c)) : spec_l1In.f a b c = some false := by
  unfold spec_l1In.f
  by_cases g : a ≥ b
  · rw [if_pos g]; simp; omega
  · rw [if_neg g]
theorem rdL_mem {xs : List (List Int)} {i : Int} (h0 : 0 ≤ i) (h1 : i < (xs.length : Int)) : rd_L1 xs i ∈ xs := by
  have h : i.toNat < xs.length := by omega
  have e : rd_L1 xs i = xs[i.toNat] := by simp [rd_L1, h]
  rw [e]; exact List.getElem_mem h
theorem rdL_nil {xs : List (List Int)} {i : Int} (h1 : (xs.length : Int) ≤ i) : rd_L1 xs i = [] := by
  simp only [rd_L1, List.getD_eq_getElem?_getD]
  rw [List.getElem?_eq_none (by omega)]
  rfl
theorem rdL_le {xs : List (List Int)} {n : Nat} (h : ∀ x ∈ xs, x.length ≤ n) (i : Int) (h0 : 0 ≤ i) : (rd_L1 xs i).length ≤ n := by
  by_cases h1 : i < (xs.length : Int)
  · exact h _ (rdL_mem h0 h1)
  · rw [rdL_nil (by omega)]; exact Nat.zero_le _
theorem rd_snoc_lt {xs : List Int} {x i : Int} (h0 : 0 ≤ i) (h1 : i < (xs.length : Int)) : rd (xs ++ [x]) i = rd xs i := rd_map h1 h0
theorem rd_snoc_eq {xs : List Int} {x i : Int} (h1 : i = (xs.length : Int)) : rd (xs ++ [x]) i = x := by
  subst h1
  simp [rd]

/-- A row of measures is as it may be. -/
def RowOk (m : List (List Int)) (x : List Int) : Prop := ((x.length : Int) = ((rd_L1 m 0).length : Int) ∧ 1 ≤ (x.length : Int) ∧ (x.length : Int) ≤ 12) ∧ ∀ j : Int, 0 ≤ j → j < (x.length : Int) → -120 ≤ rd x j ∧ rd x j ≤ 0
def RowsOk (m : List (List Int)) : Prop := ∀ t : Int, 0 ≤ t → t < (m.length : Int) → RowOk m (rd_L1 m t)

section
variable (m : List (List Int)) (hn : m.length ≤ 1048576) (hr : ∀ x ∈ m, x.length ≤ 1048576)
include hn hr
theorem meas_row (t : Int) (t0 : 0 ≤ t) (t1 : t < (m.length : Int)) (b : Bool) (hb : Ev (fun k => spec_l16Measures.l0 k m (t + 1)) b) : ∀ (d : Nat) (j : Int), ((rd_L1 m t).length : Int) - j ≤ d → 0 ≤ j →
    ((∀ i : Int, j ≤ i → i < ((rd_L1 m t).length : Int) → -120 ≤ rd (rd_L1 m t) i ∧ rd (rd_L1 m t) i ≤ 0) → Ev (fun k => spec_l16Measures.l1 k m t j) b) ∧
    ((∃ i : Int, j ≤ i ∧ i < ((rd_L1 m t).length : Int) ∧ ¬ (-120 ≤ rd (rd_L1 m t) i ∧ rd (rd_L1 m t) i ≤ 0)) → Ev (fun k => spec_l16Measures.l1 k m t j) false) := by
  have hlen := rdL_le hr t t0
  intro d
  induction d with
  | zero =>
    intro j hd h0
    refine ⟨fun _ => ev_unroll ?_, fun ⟨i, i0, i1, _⟩ => by omega⟩
    simp (disch := omega) only [spec_l16Measures.l1, ↓if_pos, ↓if_neg, if_pos, if_neg, ↓reduceIte, w64, in_t, in_f, l1In_t, l1In_f, Option.bind_some, Bool.not_true, Bool.not_false, Bool.false_eq_true, tmod_nonneg, tdiv_nonneg]
    exact hb
  | succ d ih =>
    intro j hd h0
    by_cases hj : j < ((rd_L1 m t).length : Int)
    · obtain ⟨ih1, ih2⟩ := ih (j + 1) (by omega) (by omega)
      by_cases hv : -120 ≤ rd (rd_L1 m t) j ∧ rd (rd_L1 m t) j ≤ 0
      · refine ⟨fun h => ev_unroll ?_, fun ⟨i, i0, i1, i2⟩ => ev_unroll ?_⟩
        · simp (disch := omega) only [spec_l16Measures.l1, ↓if_pos, ↓if_neg, if_pos, if_neg, ↓reduceIte, w64, in_t, in_f, l1In_t, l1In_f, Option.bind_some, Bool.not_true, Bool.not_false, Bool.false_eq_true, tmod_nonneg, tdiv_nonneg]
          exact ih1 fun i i0 i1 => h i (by omega) i1
        · simp (disch := omega) only [spec_l16Measures.l1, ↓if_pos, ↓if_neg, if_pos, if_neg, ↓reduceIte, w64, in_t, in_f, l1In_t, l1In_f, Option.bind_some, Bool.not_true, Bool.not_false, Bool.false_eq_true, tmod_nonneg, tdiv_nonneg]
          refine ih2 ⟨i, ?_, i1, i2⟩
          have : i ≠ j := fun e => i2 (e ▸ hv)
          omega
      · refine ⟨fun h => absurd (h j (by omega) hj) hv, fun _ => ev_unroll ?_⟩
        simp (disch := omega) only [spec_l16Measures.l1, ↓if_pos, ↓if_neg, if_pos, if_neg, ↓reduceIte, w64, in_t, in_f, l1In_t, l1In_f, Option.bind_some, Bool.not_true, Bool.not_false, Bool.false_eq_true, tmod_nonneg, tdiv_nonneg]
        exact Ev.now _
    · refine ⟨fun _ => ev_unroll ?_, fun ⟨i, i0, i1, _⟩ => by omega⟩
      simp (disch := omega) only [spec_l16Measures.l1, ↓if_pos, ↓if_neg, if_pos, if_neg, ↓reduceIte, w64, in_t, in_f, l1In_t, l1In_f, Option.bind_some, Bool.not_true, Bool.not_false, Bool.false_eq_true, tmod_nonneg, tdiv_nonneg]
      exact hb
theorem meas_ev : ∃ b : Bool, (b = true ↔ RowsOk m ∧ (m.length : Int) ≤ 200) ∧ Ev (fun k => spec_l16Measures.f k m) b := by
  have key : ∀ (d : Nat) (t : Int), (m.length : Int) - t ≤ d → 0 ≤ t → t ≤ (m.length : Int) → (∀ j : Int, 0 ≤ j → j < t → RowOk m (rd_L1 m j)) → ∃ b : Bool, (b = true ↔ RowsOk m ∧ (m.length : Int) ≤ 200) ∧ Ev (fun k => spec_l16Measures.l0 k m t) b := by
    have last : ∀ t : Int, t = (m.length : Int) → (∀ j : Int, 0 ≤ j → j < t → RowOk m (rd_L1 m j)) → ∃ b : Bool, (b = true ↔ RowsOk m ∧ (m.length : Int) ≤ 200) ∧ Ev (fun k => spec_l16Measures.l0 k m t) b := by
      intro t ht hv
      refine ⟨decide ((m.length : Int) ≤ 200), ?_, ev_unroll ?_⟩
      · simp only [decide_eq_true_eq]
        exact ⟨fun h => ⟨fun j j0 j1 => hv j j0 (by omega), h⟩, fun h => h.2⟩
      · simp (disch := omega) only [spec_l16Measures.l0, ↓if_pos, ↓if_neg, if_pos, if_neg, ↓reduceIte, w64, in_t, in_f, l1In_t, l1In_f, Option.bind_some, Bool.not_true, Bool.not_false, Bool.false_eq_true, tmod_nonneg, tdiv_nonneg]
        exact Ev.now _
    intro d
    induction d with
    | zero => exact fun t hd h0 h1 hv => last t (by omega) hv
    | succ d ih =>
      intro t hd h0 h1 hv
      by_cases ht : t < (m.length : Int)
      · by_cases hw : ((rd_L1 m t).length : Int) = ((rd_L1 m 0).length : Int) ∧ 1 ≤ ((rd_L1 m t).length : Int) ∧ ((rd_L1 m t).length : Int) ≤ 12
        · by_cases he : ∀ i : Int, 0 ≤ i → i < ((rd_L1 m t).length : Int) → -120 ≤ rd (rd_L1 m t) i ∧ rd (rd_L1 m t) i ≤ 0
          · obtain ⟨b, o, p⟩ := ih (t + 1) (by omega) (by omega) (by omega) (fun j j0 j1 => by
              by_cases e : j = t
              · rw [e]; exact ⟨hw, he⟩
              · exact hv j j0 (by omega))
            refine ⟨b, o, ev_unroll ?_⟩
            simp (disch := omega) only [spec_l16Measures.l0, ↓if_pos, ↓if_neg, if_pos, if_neg, ↓reduceIte, w64, in_t, in_f, l1In_t, l1In_f, Option.bind_some, Bool.not_true, Bool.not_false, Bool.false_eq_true, tmod_nonneg, tdiv_nonneg]
            refine ev_unroll ?_
            simp (disch := omega) only [spec_l16Measures.j1, ↓if_pos, ↓if_neg, if_pos, if_neg, ↓reduceIte, w64, in_t, in_f, l1In_t, l1In_f, Option.bind_some, Bool.not_true, Bool.not_false, Bool.false_eq_true, tmod_nonneg, tdiv_nonneg]
            exact (meas_row m hn hr t h0 ht b p _ 0 (Int.le_refl _) (by omega)).1 he
          · have hx : ∃ i : Int, 0 ≤ i ∧ i < ((rd_L1 m t).length : Int) ∧ ¬ (-120 ≤ rd (rd_L1 m t) i ∧ rd (rd_L1 m t) i ≤ 0) :=
              Classical.byContradiction fun hno => he fun i i0 i1 => Classical.byContradiction fun h => hno ⟨i, i0, i1, h⟩
            refine ⟨false, ⟨fun h => by simp at h, fun h => absurd (h.1 t h0 ht).2 he⟩, ev_unroll ?_⟩
            simp (disch := omega) only [spec_l16Measures.l0, ↓if_pos, ↓if_neg, if_pos, if_neg, ↓reduceIte, w64, in_t, in_f, l1In_t, l1In_f, Option.bind_some, Bool.not_true, Bool.not_false, Bool.false_eq_true, tmod_nonneg, tdiv_nonneg]
            refine ev_unroll ?_
            simp (disch := omega) only [spec_l16Measures.j1, ↓if_pos, ↓if_neg, if_pos, if_neg, ↓reduceIte, w64, in_t, in_f, l1In_t, l1In_f, Option.bind_some, Bool.not_true, Bool.not_false, Bool.false_eq_true, tmod_nonneg, tdiv_nonneg]
            have p : ∃ b, Ev (fun k => spec_l16Measures.l0 k m (t + 1)) b := by
              clear ih hv he hx
              have q : ∀ (d : Nat) (t : Int), (m.length : Int) - t ≤ d → 0 ≤ t → ∃ b, Ev (fun k => spec_l16Measures.l0 k m t) b := by
                intro d
                induction d with
                | zero =>
                  intro t hd h0
                  refine ⟨decide ((m.length : Int) ≤ 200), ev_unroll ?_⟩
                  simp (disch := omega) only [spec_l16Measures.l0, ↓if_pos, ↓if_neg, if_pos, if_neg, ↓reduceIte, w64, in_t, in_f, l1In_t, l1In_f, Option.bind_some, Bool.not_true, Bool.not_false, Bool.false_eq_true, tmod_nonneg, tdiv_nonneg]
                  exact Ev.now _
                | succ d ih =>
                  intro t hd h0
                  by_cases ht : t < (m.length : Int)
                  · obtain ⟨b, p⟩ := ih (t + 1) (by omega) (by omega)
                    by_cases hw : ((rd_L1 m t).length : Int) = ((rd_L1 m 0).length : Int) ∧ 1 ≤ ((rd_L1 m t).length : Int) ∧ ((rd_L1 m t).length : Int) ≤ 12
                    · by_cases he : ∀ i : Int, 0 ≤ i → i < ((rd_L1 m t).length : Int) → -120 ≤ rd (rd_L1 m t) i ∧ rd (rd_L1 m t) i ≤ 0
                      · refine ⟨b, ev_unroll ?_⟩
                        simp (disch := omega) only [spec_l16Measures.l0, ↓if_pos, ↓if_neg, if_pos, if_neg, ↓reduceIte, w64, in_t, in_f, l1In_t, l1In_f, Option.bind_some, Bool.not_true, Bool.not_false, Bool.false_eq_true, tmod_nonneg, tdiv_nonneg]
                        refine ev_unroll ?_
                        simp (disch := omega) only [spec_l16Measures.j1, ↓if_pos, ↓if_neg, if_pos, if_neg, ↓reduceIte, w64, in_t, in_f, l1In_t, l1In_f, Option.bind_some, Bool.not_true, Bool.not_false, Bool.false_eq_true, tmod_nonneg, tdiv_nonneg]
                        exact (meas_row m hn hr t h0 ht b p _ 0 (Int.le_refl _) (by omega)).1 he
                      · have hx : ∃ i : Int, 0 ≤ i ∧ i < ((rd_L1 m t).length : Int) ∧ ¬ (-120 ≤ rd (rd_L1 m t) i ∧ rd (rd_L1 m t) i ≤ 0) :=
                          Classical.byContradiction fun hno => he fun i i0 i1 => Classical.byContradiction fun h => hno ⟨i, i0, i1, h⟩
                        refine ⟨false, ev_unroll ?_⟩
                        simp (disch := omega) only [spec_l16Measures.l0, ↓if_pos, ↓if_neg, if_pos, if_neg, ↓reduceIte, w64, in_t, in_f, l1In_t, l1In_f, Option.bind_some, Bool.not_true, Bool.not_false, Bool.false_eq_true, tmod_nonneg, tdiv_nonneg]
                        refine ev_unroll ?_
                        simp (disch := omega) only [spec_l16Measures.j1, ↓if_pos, ↓if_neg, if_pos, if_neg, ↓reduceIte, w64, in_t, in_f, l1In_t, l1In_f, Option.bind_some, Bool.not_true, Bool.not_false, Bool.false_eq_true, tmod_nonneg, tdiv_nonneg]
                        exact (meas_row m hn hr t h0 ht b p _ 0 (Int.le_refl _) (by omega)).2 hx
                    · refine ⟨false, ev_unroll ?_⟩
                      by_cases hw1 : ((rd_L1 m t).length : Int) = ((rd_L1 m 0).length : Int)
                      · have hw2 : ¬ (1 ≤ ((rd_L1 m t).length : Int) ∧ ((rd_L1 m t).length : Int) ≤ 12) := fun h => hw ⟨hw1, h⟩
                        simp (disch := omega) only [spec_l16Measures.l0, ↓if_pos, ↓if_neg, if_pos, if_neg, ↓reduceIte, w64, in_t, in_f, l1In_t, l1In_f, Option.bind_some, Bool.not_true, Bool.not_false, Bool.false_eq_true, tmod_nonneg, tdiv_nonneg]
                        refine ev_unroll ?_
                        simp (disch := omega) only [spec_l16Measures.j1, ↓if_pos, ↓if_neg, if_pos, if_neg, ↓reduceIte, w64, in_t, in_f, l1In_t, l1In_f, Option.bind_some, Bool.not_true, Bool.not_false, Bool.false_eq_true, tmod_nonneg, tdiv_nonneg]
                        exact Ev.now _
                      · simp (disch := omega) only [spec_l16Measures.l0, ↓if_pos, ↓if_neg, if_pos, if_neg, ↓reduceIte, w64, in_t, in_f, l1In_t, l1In_f, Option.bind_some, Bool.not_true, Bool.not_false, Bool.false_eq_true, tmod_nonneg, tdiv_nonneg]
                        refine ev_unroll ?_
                        simp (disch := omega) only [spec_l16Measures.j1, ↓if_pos, ↓if_neg, if_pos, if_neg, ↓reduceIte, w64, in_t, in_f, l1In_t, l1In_f, Option.bind_some, Bool.not_true, Bool.not_false, Bool.false_eq_true, tmod_nonneg, tdiv_nonneg]
                        exact Ev.now _
                  · refine ⟨decide ((m.length : Int) ≤ 200), ev_unroll ?_⟩
                    simp (disch := omega) only [spec_l16Measures.l0, ↓if_pos, ↓if_neg, if_pos, if_neg, ↓reduceIte, w64, in_t, in_f, l1In_t, l1In_f, Option.bind_some, Bool.not_true, Bool.not_false, Bool.false_eq_true, tmod_nonneg, tdiv_nonneg]
                    exact Ev.now _
              exact q m.length (t + 1) (by omega) (by omega)
            obtain ⟨b, p⟩ := p
            exact (meas_row m hn hr t h0 ht b p _ 0 (Int.le_refl _) (by omega)).2 hx
        · refine ⟨false, ⟨fun h => by simp at h, fun h => absurd (h.1 t h0 ht).1 hw⟩, ev_unroll ?_⟩
          by_cases hw1 : ((rd_L1 m t).length : Int) = ((rd_L1 m 0).length : Int)
          · have hw2 : ¬ (1 ≤ ((rd_L1 m t).length : Int) ∧ ((rd_L1 m t).length : Int) ≤ 12) := fun h => hw ⟨hw1, h⟩
            simp (disch := omega) only [spec_l16Measures.l0, ↓if_pos, ↓if_neg, if_pos, if_neg, ↓reduceIte, w64, in_t, in_f, l1In_t, l1In_f, Option.bind_some, Bool.not_true, Bool.not_false, Bool.false_eq_true, tmod_nonneg, tdiv_nonneg]
            refine ev_unroll ?_
            simp (disch := omega) only [spec_l16Measures.j1, ↓if_pos, ↓if_neg, if_pos, if_neg, ↓reduceIte, w64, in_t, in_f, l1In_t, l1In_f, Option.bind_some, Bool.not_true, Bool.not_false, Bool.false_eq_true, tmod_nonneg, tdiv_nonneg]
            exact Ev.now _
          · simp (disch := omega) only [spec_l16Measures.l0, ↓if_pos, ↓if_neg, if_pos, if_neg, ↓reduceIte, w64, in_t, in_f, l1In_t, l1In_f, Option.bind_some, Bool.not_true, Bool.not_false, Bool.false_eq_true, tmod_nonneg, tdiv_nonneg]
            refine ev_unroll ?_
            simp (disch := omega) only [spec_l16Measures.j1, ↓if_pos, ↓if_neg, if_pos, if_neg, ↓reduceIte, w64, in_t, in_f, l1In_t, l1In_f, Option.bind_some, Bool.not_true, Bool.not_false, Bool.false_eq_true, tmod_nonneg, tdiv_nonneg]
            exact Ev.now _
      · exact last t (by omega) hv
  obtain ⟨b, o, p⟩ := key m.length 0 (by omega) (by omega) (by omega) (fun j j0 j1 => by omega)
  exact ⟨b, o, p⟩
end
section
variable (m : List (List Int)) (hn : m.length ≤ 1048576) (hr : ∀ x ∈ m, x.length ≤ 1048576) (a dw : Int)
include hn hr
theorem impl_row (t : Int) (t0 : 0 ≤ t) (t1 : t < (m.length : Int)) : ∀ (d : Nat) (j : Int), ((rd_L1 m t).length : Int) - j ≤ d → 0 ≤ j →
    ((∀ i : Int, j ≤ i → i < ((rd_L1 m t).length : Int) → -120 ≤ rd (rd_L1 m t) i ∧ rd (rd_L1 m t) i ≤ 0) → ∀ r, Ev (fun k => impl_Serving.l0 k m a dw m (m.length : Int) (t + 1)) r → Ev (fun k => impl_Serving.l1 k m a dw m (m.length : Int) t (rd_L1 m t) ((rd_L1 m t).length : Int) j) r) ∧
    ((∃ i : Int, j ≤ i ∧ i < ((rd_L1 m t).length : Int) ∧ ¬ (-120 ≤ rd (rd_L1 m t) i ∧ rd (rd_L1 m t) i ≤ 0)) → Ev (fun k => impl_Serving.l1 k m a dw m (m.length : Int) t (rd_L1 m t) ((rd_L1 m t).length : Int) j) ([], false)) := by
  have hlen := rdL_le hr t t0
  intro d
  induction d with
  | zero =>
    intro j hd h0
    refine ⟨fun _ r hb => ev_unroll ?_, fun ⟨i, i0, i1, _⟩ => by omega⟩
    simp (disch := omega) only [impl_Serving.l1, ↓if_pos, ↓if_neg, if_pos, if_neg, ↓reduceIte, w64, in_t, in_f, l1In_t, l1In_f, Option.bind_some, Bool.not_true, Bool.not_false, Bool.false_eq_true, tmod_nonneg, tdiv_nonneg]
    exact hb
  | succ d ih =>
    intro j hd h0
    by_cases hj : j < ((rd_L1 m t).length : Int)
    · obtain ⟨ih1, ih2⟩ := ih (j + 1) (by omega) (by omega)
      by_cases hv : -120 ≤ rd (rd_L1 m t) j ∧ rd (rd_L1 m t) j ≤ 0
      · refine ⟨fun h r hb => ev_unroll ?_, fun ⟨i, i0, i1, i2⟩ => ev_unroll ?_⟩
        · simp (disch := omega) only [impl_Serving.l1, ↓if_pos, ↓if_neg, if_pos, if_neg, ↓reduceIte, w64, in_t, in_f, l1In_t, l1In_f, Option.bind_some, Bool.not_true, Bool.not_false, Bool.false_eq_true, tmod_nonneg, tdiv_nonneg]
          exact ih1 (fun i i0 i1 => h i (by omega) i1) r hb
        · simp (disch := omega) only [impl_Serving.l1, ↓if_pos, ↓if_neg, if_pos, if_neg, ↓reduceIte, w64, in_t, in_f, l1In_t, l1In_f, Option.bind_some, Bool.not_true, Bool.not_false, Bool.false_eq_true, tmod_nonneg, tdiv_nonneg]
          refine ih2 ⟨i, ?_, i1, i2⟩
          have : i ≠ j := fun e => i2 (e ▸ hv)
          omega
      · refine ⟨fun h => absurd (h j (by omega) hj) hv, fun _ => ev_unroll ?_⟩
        simp (disch := omega) only [impl_Serving.l1, ↓if_pos, ↓if_neg, if_pos, if_neg, ↓reduceIte, w64, in_t, in_f, l1In_t, l1In_f, Option.bind_some, Bool.not_true, Bool.not_false, Bool.false_eq_true, tmod_nonneg, tdiv_nonneg]
        exact Ev.now _
    · refine ⟨fun _ r hb => ev_unroll ?_, fun ⟨i, i0, i1, _⟩ => by omega⟩
      simp (disch := omega) only [impl_Serving.l1, ↓if_pos, ↓if_neg, if_pos, if_neg, ↓reduceIte, w64, in_t, in_f, l1In_t, l1In_f, Option.bind_some, Bool.not_true, Bool.not_false, Bool.false_eq_true, tmod_nonneg, tdiv_nonneg]
      exact hb
theorem impl_rows : ∀ (d : Nat) (t : Int), (m.length : Int) - t ≤ d → 0 ≤ t →
    ((∀ j : Int, t ≤ j → j < (m.length : Int) → RowOk m (rd_L1 m j)) → ∀ r, Ev (fun k => impl_Serving.l2 k m a dw [] 0 0 m (m.length : Int) 0) r → Ev (fun k => impl_Serving.l0 k m a dw m (m.length : Int) t) r) ∧
    ((∃ j : Int, t ≤ j ∧ j < (m.length : Int) ∧ ¬ RowOk m (rd_L1 m j)) → Ev (fun k => impl_Serving.l0 k m a dw m (m.length : Int) t) ([], false)) := by
  intro d
  induction d with
  | zero =>
    intro t hd h0
    refine ⟨fun _ r hb => ev_unroll ?_, fun ⟨i, i0, i1, _⟩ => by omega⟩
    simp (disch := omega) only [impl_Serving.l0, ↓if_pos, ↓if_neg, if_pos, if_neg, ↓reduceIte, w64, in_t, in_f, l1In_t, l1In_f, Option.bind_some, Bool.not_true, Bool.not_false, Bool.false_eq_true, tmod_nonneg, tdiv_nonneg]
    exact hb
  | succ d ih =>
    intro t hd h0
    by_cases ht : t < (m.length : Int)
    · obtain ⟨ih1, ih2⟩ := ih (t + 1) (by omega) (by omega)
      by_cases hw : ((rd_L1 m t).length : Int) = ((rd_L1 m 0).length : Int) ∧ 1 ≤ ((rd_L1 m t).length : Int) ∧ ((rd_L1 m t).length : Int) ≤ 12
      · have hne : (((rd_L1 m t).length : Int) != ((rd_L1 m 0).length : Int)) = false := by simp [hw.1]
        by_cases he : ∀ i : Int, 0 ≤ i → i < ((rd_L1 m t).length : Int) → -120 ≤ rd (rd_L1 m t) i ∧ rd (rd_L1 m t) i ≤ 0
        · have row := (impl_row m hn hr a dw t h0 ht _ 0 (Int.le_refl _) (by omega)).1 he
          refine ⟨fun h r hb => ev_unroll ?_, fun ⟨i, i0, i1, i2⟩ => ev_unroll ?_⟩
          · simp (disch := omega) only [impl_Serving.l0, ↓if_pos, ↓if_neg, if_pos, if_neg, ↓reduceIte, w64, in_t, in_f, l1In_t, l1In_f, Option.bind_some, Bool.not_true, Bool.not_false, Bool.false_eq_true, tmod_nonneg, tdiv_nonneg]
            refine ev_unroll ?_
            simp (disch := omega) only [impl_Serving.j2, hne, ↓if_pos, ↓if_neg, if_pos, if_neg, ↓reduceIte, w64, in_t, in_f, l1In_t, l1In_f, Option.bind_some, Bool.not_true, Bool.not_false, Bool.false_eq_true, tmod_nonneg, tdiv_nonneg]
            exact row r (ih1 (fun j j0 j1 => h j (by omega) j1) r hb)
          · simp (disch := omega) only [impl_Serving.l0, ↓if_pos, ↓if_neg, if_pos, if_neg, ↓reduceIte, w64, in_t, in_f, l1In_t, l1In_f, Option.bind_some, Bool.not_true, Bool.not_false, Bool.false_eq_true, tmod_nonneg, tdiv_nonneg]
            refine ev_unroll ?_
            simp (disch := omega) only [impl_Serving.j2, hne, ↓if_pos, ↓if_neg, if_pos, if_neg, ↓reduceIte, w64, in_t, in_f, l1In_t, l1In_f, Option.bind_some, Bool.not_true, Bool.not_false, Bool.false_eq_true, tmod_nonneg, tdiv_nonneg]
            refine row _ (ih2 ⟨i, ?_, i1, i2⟩)
            have : i ≠ t := fun e => i2 (e ▸ ⟨hw, he⟩)
            omega
        · have hx : ∃ i : Int, 0 ≤ i ∧ i < ((rd_L1 m t).length : Int) ∧ ¬ (-120 ≤ rd (rd_L1 m t) i ∧ rd (rd_L1 m t) i ≤ 0) :=
            Classical.byContradiction fun hno => he fun i i0 i1 => Classical.byContradiction fun h => hno ⟨i, i0, i1, h⟩
          have row := (impl_row m hn hr a dw t h0 ht _ 0 (Int.le_refl _) (by omega)).2 hx
          refine ⟨fun h => absurd (h t (by omega) ht).2 he, fun _ => ev_unroll ?_⟩
          simp (disch := omega) only [impl_Serving.l0, ↓if_pos, ↓if_neg, if_pos, if_neg, ↓reduceIte, w64, in_t, in_f, l1In_t, l1In_f, Option.bind_some, Bool.not_true, Bool.not_false, Bool.false_eq_true, tmod_nonneg, tdiv_nonneg]
          refine ev_unroll ?_
          simp (disch := omega) only [impl_Serving.j2, hne, ↓if_pos, ↓if_neg, if_pos, if_neg, ↓reduceIte, w64, in_t, in_f, l1In_t, l1In_f, Option.bind_some, Bool.not_true, Bool.not_false, Bool.false_eq_true, tmod_nonneg, tdiv_nonneg]
          exact row
      · refine ⟨fun h => absurd (h t (by omega) ht).1 hw, fun _ => ev_unroll ?_⟩
        by_cases hw2 : 1 ≤ ((rd_L1 m t).length : Int) ∧ ((rd_L1 m t).length : Int) ≤ 12
        · have hne : (((rd_L1 m t).length : Int) != ((rd_L1 m 0).length : Int)) = true := by
            simp only [bne_iff_ne, ne_eq]
            exact fun h => hw ⟨h, hw2⟩
          simp (disch := omega) only [impl_Serving.l0, ↓if_pos, ↓if_neg, if_pos, if_neg, ↓reduceIte, w64, in_t, in_f, l1In_t, l1In_f, Option.bind_some, Bool.not_true, Bool.not_false, Bool.false_eq_true, tmod_nonneg, tdiv_nonneg]
          refine ev_unroll ?_
          simp (disch := omega) only [impl_Serving.j2, hne, ↓if_pos, ↓if_neg, if_pos, if_neg, ↓reduceIte, w64, in_t, in_f, l1In_t, l1In_f, Option.bind_some, Bool.not_true, Bool.not_false, Bool.false_eq_true, tmod_nonneg, tdiv_nonneg]
          exact Ev.now _
        · simp (disch := omega) only [impl_Serving.l0, ↓if_pos, ↓if_neg, if_pos, if_neg, ↓reduceIte, w64, in_t, in_f, l1In_t, l1In_f, Option.bind_some, Bool.not_true, Bool.not_false, Bool.false_eq_true, tmod_nonneg, tdiv_nonneg]
          refine ev_unroll ?_
          simp (disch := omega) only [impl_Serving.j2, ↓if_pos, ↓if_neg, if_pos, if_neg, ↓reduceIte, w64, in_t, in_f, l1In_t, l1In_f, Option.bind_some, Bool.not_true, Bool.not_false, Bool.false_eq_true, tmod_nonneg, tdiv_nonneg]
          exact Ev.now _
    · refine ⟨fun _ r hb => ev_unroll ?_, fun ⟨i, i0, i1, _⟩ => by omega⟩
      simp (disch := omega) only [impl_Serving.l0, ↓if_pos, ↓if_neg, if_pos, if_neg, ↓reduceIte, w64, in_t, in_f, l1In_t, l1In_f, Option.bind_some, Bool.not_true, Bool.not_false, Bool.false_eq_true, tmod_nonneg, tdiv_nonneg]
      exact hb
end
/-- At tick u cell c was stronger than the serving one, and by the margin. -/
def Pc (m : List (List Int)) (a now c u : Int) : Prop := rd (rd_L1 m u) now < rd (rd_L1 m u) c ∧ rd (rd_L1 m u) now + a ≤ rd (rd_L1 m u) c
/-- What has been told for the first t ticks is as it may be. -/
structure Good (m : List (List Int)) (a dw W t : Int) (out : List Int) (now since : Int) : Prop where
  len : (out.length : Int) = t
  rng : ∀ j : Int, 0 ≤ j → j < t → 0 ≤ rd out j ∧ rd out j < W
  chg : ∀ j : Int, 0 < j → j < t → rd out j ≠ rd out (j - 1) → Pc m a (rd out (j - 1)) (rd out j) j
  gap : ∀ i j : Int, 0 < i → i < j → j < t → rd out i ≠ rd out (i - 1) → rd out j ≠ rd out (j - 1) → j - i ≥ dw
  snc : ∀ i : Int, 0 < i → i < t → rd out i ≠ rd out (i - 1) → i ≤ since
  last : 0 < t → rd out (t - 1) = now
  nowr : 0 ≤ now ∧ now < W
  sin : 0 ≤ since ∧ (0 < t → since < t)
theorem good_first (m : List (List Int)) (a dw W b : Int) (h0 : 0 ≤ b) (h1 : b < W) : Good m a dw W 1 [b] b 0 where
  len := by simp
  rng := fun j j0 j1 => by
    have e : j = 0 := by omega
    subst e; exact ⟨h0, h1⟩
  chg := fun j j0 j1 => by omega
  gap := fun i j i0 i1 j1 => by omega
  snc := fun i i0 i1 => by omega
  last := fun _ => rfl
  nowr := ⟨h0, h1⟩
  sin := ⟨by omega, fun _ => by omega⟩
theorem good_same {m : List (List Int)} {a dw W t : Int} {out : List Int} {now since : Int} (h : Good m a dw W t out now since) (ht : 0 < t) : Good m a dw W (t + 1) (out ++ [now]) now since := by
  have hl := h.len
  have old : ∀ j : Int, 0 ≤ j → j < t → rd (out ++ [now]) j = rd out j := fun j j0 j1 => rd_snoc_lt j0 (by omega)
  have new : rd (out ++ [now]) t = now := rd_snoc_eq (by omega)
  have nch : ∀ j : Int, 0 < j → j < t + 1 → rd (out ++ [now]) j ≠ rd (out ++ [now]) (j - 1) → j < t ∧ rd out j ≠ rd out (j - 1) := by
    intro j j0 j1 hne
    by_cases e : j = t
    · exfalso
      apply hne
      subst e
      rw [new, old _ (by omega) (by omega), h.last ht]
    · rw [old j (by omega) (by omega), old (j - 1) (by omega) (by omega)] at hne
      exact ⟨by omega, hne⟩
  refine ⟨by simp; omega, fun j j0 j1 => ?_, fun j j0 j1 hne => ?_, fun i j i0 i1 j1 hi hj => ?_, fun i i0 i1 hi => ?_, fun _ => ?_, h.nowr, ⟨h.sin.1, fun _ => ?_⟩⟩
  · by_cases e : j = t
    · rw [e, new]; exact h.nowr
    · rw [old j j0 (by omega)]; exact h.rng j j0 (by omega)
  · obtain ⟨q1, q2⟩ := nch j j0 j1 hne
    rw [old j (by omega) q1, old (j - 1) (by omega) (by omega)]
    exact h.chg j j0 q1 q2
  · obtain ⟨q1, q2⟩ := nch j (by omega) j1 hj
    obtain ⟨q3, q4⟩ := nch i i0 (by omega) hi
    exact h.gap i j i0 i1 q1 q4 q2
  · obtain ⟨q3, q4⟩ := nch i i0 (by omega) hi
    exact h.snc i i0 q3 q4
  · rw [show t + 1 - 1 = t from by omega]; exact new
  · have := h.sin.2 ht; omega
theorem good_new {m : List (List Int)} {a dw W t b : Int} {out : List Int} {now since : Int} (h : Good m a dw W t out now since) (ht : 0 < t) (h0 : 0 ≤ b) (h1 : b < W) (hp : Pc m a now b t) (hs : t - dw + 1 > since) : Good m a dw W (t + 1) (out ++ [b]) b t := by
  have hl := h.len
  have old : ∀ j : Int, 0 ≤ j → j < t → rd (out ++ [b]) j = rd out j := fun j j0 j1 => rd_snoc_lt j0 (by omega)
  have new : rd (out ++ [b]) t = b := rd_snoc_eq (by omega)
  have och : ∀ j : Int, 0 < j → j < t → rd (out ++ [b]) j ≠ rd (out ++ [b]) (j - 1) → rd out j ≠ rd out (j - 1) := by
    intro j j0 j1 hne
    rw [old j (by omega) (by omega), old (j - 1) (by omega) (by omega)] at hne
    exact hne
  refine ⟨by simp; omega, fun j j0 j1 => ?_, fun j j0 j1 hne => ?_, fun i j i0 i1 j1 hi hj => ?_, fun i i0 i1 hi => by omega, fun _ => ?_, ⟨h0, h1⟩, ⟨by omega, fun _ => by omega⟩⟩
  · by_cases e : j = t
    · rw [e, new]; exact ⟨h0, h1⟩
    · rw [old j j0 (by omega)]; exact h.rng j j0 (by omega)
  · by_cases e : j = t
    · subst e
      rw [new, old _ (by omega) (by omega), h.last ht]
      exact hp
    · have q := och j j0 (by omega) hne
      rw [old j (by omega) (by omega), old (j - 1) (by omega) (by omega)]
      exact h.chg j j0 (by omega) q
  · have q := och i i0 (by omega) hi
    by_cases e : j = t
    · have := h.snc i i0 (by omega) q
      omega
    · exact h.gap i j i0 i1 (by omega) q (och j (by omega) (by omega) hj)
  · rw [show t + 1 - 1 = t from by omega]; exact new

section
variable (m : List (List Int)) (a dw W : Int) (hm : m.length ≤ 200) (ha : 0 ≤ a ∧ a ≤ 60) (hdw : 1 ≤ dw ∧ dw ≤ 20) (hW : 1 ≤ W ∧ W ≤ 12)
  (hw : ∀ t : Int, 0 ≤ t → t < (m.length : Int) → ((rd_L1 m t).length : Int) = W)
  (he : ∀ t j : Int, 0 ≤ t → t < (m.length : Int) → 0 ≤ j → j < W → -120 ≤ rd (rd_L1 m t) j ∧ rd (rd_L1 m t) j ≤ 0)
include hm ha hdw hW hw he
theorem over_ev (c now t : Int) (t1 : t < (m.length : Int)) (c0 : 0 ≤ c) (c1 : c < W) (n0 : 0 ≤ now) (n1 : now < W) : ∀ (d : Nat) (u : Int), t + 1 - u ≤ d → 0 ≤ u →
    ((∀ v : Int, u ≤ v → v ≤ t → Pc m a now c v) → Ev (fun k => spec_l16Over.l0 k m c now a t u) true) ∧ ((∃ v : Int, u ≤ v ∧ v ≤ t ∧ ¬ Pc m a now c v) → Ev (fun k => spec_l16Over.l0 k m c now a t u) false) := by
  intro d
  induction d with
  | zero =>
    intro u hd u0
    refine ⟨fun _ => ev_unroll ?_, fun ⟨v, v0, v1, _⟩ => by omega⟩
    simp (disch := omega) only [spec_l16Over.l0, ↓if_pos, ↓if_neg, if_pos, if_neg, ↓reduceIte, w64, in_t, in_f, l1In_t, l1In_f, Option.bind_some, Bool.not_true, Bool.not_false, Bool.false_eq_true, tmod_nonneg, tdiv_nonneg]
    exact Ev.now _
  | succ d ih =>
    intro u hd u0
    by_cases hu : u ≤ t
    · obtain ⟨ih1, ih2⟩ := ih (u + 1) (by omega) (by omega)
      have hwu := hw u u0 (by omega)
      have e1 := he u c u0 (by omega) c0 c1
      have e2 := he u now u0 (by omega) n0 n1
      by_cases hp : Pc m a now c u
      · have hp2 := hp
        unfold Pc at hp2
        refine ⟨fun h => ev_unroll ?_, fun ⟨v, v0, v1, v2⟩ => ev_unroll ?_⟩
        · simp (disch := omega) only [spec_l16Over.l0, ↓if_pos, ↓if_neg, if_pos, if_neg, ↓reduceIte, w64, in_t, in_f, l1In_t, l1In_f, Option.bind_some, Bool.not_true, Bool.not_false, Bool.false_eq_true, tmod_nonneg, tdiv_nonneg]
          exact ih1 fun v v0 v1 => h v (by omega) v1
        · simp (disch := omega) only [spec_l16Over.l0, ↓if_pos, ↓if_neg, if_pos, if_neg, ↓reduceIte, w64, in_t, in_f, l1In_t, l1In_f, Option.bind_some, Bool.not_true, Bool.not_false, Bool.false_eq_true, tmod_nonneg, tdiv_nonneg]
          refine ih2 ⟨v, ?_, v1, v2⟩
          have : v ≠ u := fun e => v2 (e ▸ hp)
          omega
      · refine ⟨fun h => absurd (h u (by omega) hu) hp, fun _ => ev_unroll ?_⟩
        unfold Pc at hp
        by_cases hq : rd (rd_L1 m u) c ≤ rd (rd_L1 m u) now
        · simp (disch := omega) only [spec_l16Over.l0, ↓if_pos, ↓if_neg, if_pos, if_neg, ↓reduceIte, w64, in_t, in_f, l1In_t, l1In_f, Option.bind_some, Bool.not_true, Bool.not_false, Bool.false_eq_true, tmod_nonneg, tdiv_nonneg]
          exact Ev.now _
        · simp (disch := omega) only [spec_l16Over.l0, ↓if_pos, ↓if_neg, if_pos, if_neg, ↓reduceIte, w64, in_t, in_f, l1In_t, l1In_f, Option.bind_some, Bool.not_true, Bool.not_false, Bool.false_eq_true, tmod_nonneg, tdiv_nonneg]
          exact Ev.now _
    · refine ⟨fun _ => ev_unroll ?_, fun ⟨v, v0, v1, _⟩ => by omega⟩
      simp (disch := omega) only [spec_l16Over.l0, ↓if_pos, ↓if_neg, if_pos, if_neg, ↓reduceIte, w64, in_t, in_f, l1In_t, l1In_f, Option.bind_some, Bool.not_true, Bool.not_false, Bool.false_eq_true, tmod_nonneg, tdiv_nonneg]
      exact Ev.now _
theorem l5_false (out : List Int) (now since t best c : Int) (t0 : 0 < t) (t1 : t < (m.length : Int)) (c0 : 0 ≤ c) (c1 : c < W) (r : List Int × Bool)
    (hb : Ev (fun k => impl_Serving.l4 k m a dw out now since t (rd_L1 m t) best m (m.length : Int) t W (c + 1)) r) (u : Int) (u0 : -100 ≤ u) (u1 : u ≤ t) :
    Ev (fun k => impl_Serving.l5 k m a dw out now since t (rd_L1 m t) best c false u m (m.length : Int) t W c) r := by
  refine ev_unroll ?_
  simp (disch := omega) only [impl_Serving.l5, ↓if_pos, ↓if_neg, if_pos, if_neg, ↓reduceIte, w64, in_t, in_f, l1In_t, l1In_f, Option.bind_some, Bool.not_true, Bool.not_false, Bool.false_eq_true, tmod_nonneg, tdiv_nonneg]
  exact hb
theorem l5_ev (out : List Int) (now since t best c : Int) (t0 : 0 < t) (t1 : t < (m.length : Int)) (hs : t - dw ≥ 0) (c0 : 0 ≤ c) (c1 : c < W) (n0 : 0 ≤ now) (n1 : now < W) (b0 : -1 ≤ best) (b1 : best < W) (r : List Int × Bool) : ∀ (d : Nat) (u : Int), u - (t - dw) ≤ d → t - dw ≤ u → u ≤ t →
    ((∀ v : Int, t - dw < v → v ≤ u → Pc m a now c v) → Ev (fun k => impl_Serving.l4 k m a dw out now since t (rd_L1 m t) (if best < 0 ∨ rd (rd_L1 m t) c > rd (rd_L1 m t) best then c else best) m (m.length : Int) t W (c + 1)) r → Ev (fun k => impl_Serving.l5 k m a dw out now since t (rd_L1 m t) best c true u m (m.length : Int) t W c) r) ∧
    ((∃ v : Int, t - dw < v ∧ v ≤ u ∧ ¬ Pc m a now c v) → Ev (fun k => impl_Serving.l4 k m a dw out now since t (rd_L1 m t) best m (m.length : Int) t W (c + 1)) r → Ev (fun k => impl_Serving.l5 k m a dw out now since t (rd_L1 m t) best c true u m (m.length : Int) t W c) r) := by
  have last : ∀ u : Int, u = t - dw → Ev (fun k => impl_Serving.l4 k m a dw out now since t (rd_L1 m t) (if best < 0 ∨ rd (rd_L1 m t) c > rd (rd_L1 m t) best then c else best) m (m.length : Int) t W (c + 1)) r → Ev (fun k => impl_Serving.l5 k m a dw out now since t (rd_L1 m t) best c true u m (m.length : Int) t W c) r := by
    intro u hu hb
    have hwt := hw t (by omega) t1
    refine ev_unroll ?_
    by_cases h1 : best < 0
    · rw [if_pos (Or.inl h1)] at hb
      simp (disch := omega) only [impl_Serving.l5, ↓if_pos, ↓if_neg, if_pos, if_neg, ↓reduceIte, w64, in_t, in_f, l1In_t, l1In_f, Option.bind_some, Bool.not_true, Bool.not_false, Bool.false_eq_true, tmod_nonneg, tdiv_nonneg]
      exact hb
    · by_cases h2 : rd (rd_L1 m t) c > rd (rd_L1 m t) best
      · rw [if_pos (Or.inr h2)] at hb
        simp (disch := omega) only [impl_Serving.l5, ↓if_pos, ↓if_neg, if_pos, if_neg, ↓reduceIte, w64, in_t, in_f, l1In_t, l1In_f, Option.bind_some, Bool.not_true, Bool.not_false, Bool.false_eq_true, tmod_nonneg, tdiv_nonneg]
        exact hb
      · rw [if_neg (by omega)] at hb
        simp (disch := omega) only [impl_Serving.l5, ↓if_pos, ↓if_neg, if_pos, if_neg, ↓reduceIte, w64, in_t, in_f, l1In_t, l1In_f, Option.bind_some, Bool.not_true, Bool.not_false, Bool.false_eq_true, tmod_nonneg, tdiv_nonneg]
        exact hb
  intro d
  induction d with
  | zero =>
    intro u hd u0 u1
    exact ⟨fun _ hb => last u (by omega) hb, fun ⟨v, v0, v1, _⟩ => by omega⟩
  | succ d ih =>
    intro u hd u0 u1
    by_cases hu : t - dw < u
    · obtain ⟨ih1, ih2⟩ := ih (u - 1) (by omega) (by omega) (by omega)
      have hwu := hw u (by omega) (by omega)
      have e1 := he u c (by omega) (by omega) c0 c1
      have e2 := he u now (by omega) (by omega) n0 n1
      by_cases hp : Pc m a now c u
      · have hp2 := hp
        unfold Pc at hp2
        have hd1 : decide (rd (rd_L1 m u) c ≥ rd (rd_L1 m u) now + a) = true := by simp; omega
        refine ⟨fun h hb => ev_unroll ?_, fun ⟨v, v0, v1, v2⟩ hb => ev_unroll ?_⟩
        · simp (disch := omega) only [impl_Serving.l5, ↓if_pos, ↓if_neg, if_pos, if_neg, ↓reduceIte, w64, in_t, in_f, l1In_t, l1In_f, Option.bind_some, Bool.not_true, Bool.not_false, Bool.false_eq_true, tmod_nonneg, tdiv_nonneg]
          rw [hd1]
          exact ih1 (fun v v0 v1 => h v v0 (by omega)) hb
        · simp (disch := omega) only [impl_Serving.l5, ↓if_pos, ↓if_neg, if_pos, if_neg, ↓reduceIte, w64, in_t, in_f, l1In_t, l1In_f, Option.bind_some, Bool.not_true, Bool.not_false, Bool.false_eq_true, tmod_nonneg, tdiv_nonneg]
          rw [hd1]
          refine ih2 ⟨v, v0, ?_, v2⟩ hb
          have : v ≠ u := fun e => v2 (e ▸ hp)
          omega
      · refine ⟨fun h => absurd (h u hu (by omega)) hp, fun _ hb => ev_unroll ?_⟩
        unfold Pc at hp
        have hf := l5_false m a dw W hm ha hdw hW hw he out now since t best c t0 t1 c0 c1 r hb (u - 1) (by omega) (by omega)
        by_cases hq : rd (rd_L1 m u) c > rd (rd_L1 m u) now
        · have hd1 : decide (rd (rd_L1 m u) c ≥ rd (rd_L1 m u) now + a) = false := by simp; omega
          simp (disch := omega) only [impl_Serving.l5, ↓if_pos, ↓if_neg, if_pos, if_neg, ↓reduceIte, w64, in_t, in_f, l1In_t, l1In_f, Option.bind_some, Bool.not_true, Bool.not_false, Bool.false_eq_true, tmod_nonneg, tdiv_nonneg]
          rw [hd1]
          exact hf
        · simp (disch := omega) only [impl_Serving.l5, ↓if_pos, ↓if_neg, if_pos, if_neg, ↓reduceIte, w64, in_t, in_f, l1In_t, l1In_f, Option.bind_some, Bool.not_true, Bool.not_false, Bool.false_eq_true, tmod_nonneg, tdiv_nonneg]
          exact hf
    · exact ⟨fun _ hb => last u (by omega) hb, fun ⟨v, v0, v1, _⟩ => by omega⟩
/-- What both tell in the end. -/
def Told (m : List (List Int)) (a dw W : Int) (r : List Int × Bool) : Prop := r.2 = true ∧ ∃ now since, Good m a dw W (m.length : Int) r.1 now since
theorem inner_ev (t : Int) (t0 : 0 < t) (t1 : t < (m.length : Int)) (out : List Int) (now since : Int) (hg : Good m a dw W t out now since)
    (H : ∀ out' now' since', Good m a dw W (t + 1) out' now' since' → ∃ r, Told m a dw W r ∧ Ev (fun k => spec_Serving.l0 k m a dw out' now' since' (t + 1)) r ∧ Ev (fun k => impl_Serving.l2 k m a dw out' now' since' m (m.length : Int) (t + 1)) r) :
    ∀ (d : Nat) (c best : Int), W - c ≤ d → 0 ≤ c → -1 ≤ best → best < W → (0 ≤ best → Pc m a now best t ∧ t - dw + 1 > since) →
    ∃ r, Told m a dw W r ∧ Ev (fun k => spec_Serving.l1 k m a dw out now since t best c) r ∧ Ev (fun k => impl_Serving.l4 k m a dw out now since t (rd_L1 m t) best m (m.length : Int) t W c) r := by
  have hwt := hw t (by omega) t1
  have hlen := hg.len
  have hsin := hg.sin
  obtain ⟨n0, n1⟩ := hg.nowr
  have last : ∀ (c best : Int), W ≤ c → -1 ≤ best → best < W → (0 ≤ best → Pc m a now best t ∧ t - dw + 1 > since) →
      ∃ r, Told m a dw W r ∧ Ev (fun k => spec_Serving.l1 k m a dw out now since t best c) r ∧ Ev (fun k => impl_Serving.l4 k m a dw out now since t (rd_L1 m t) best m (m.length : Int) t W c) r := by
    intro c best hc b0 b1 hb
    by_cases hpos : best ≥ 0
    · obtain ⟨q1, q2⟩ := hb hpos
      obtain ⟨r, o, p, q⟩ := H _ _ _ (good_new hg t0 hpos b1 q1 q2)
      refine ⟨r, o, ev_unroll ?_, ev_unroll ?_⟩
      · simp (disch := omega) only [spec_Serving.l1, ↓if_pos, ↓if_neg, if_pos, if_neg, ↓reduceIte, w64, in_t, in_f, l1In_t, l1In_f, Option.bind_some, Bool.not_true, Bool.not_false, Bool.false_eq_true, tmod_nonneg, tdiv_nonneg]
        exact p
      · simp (disch := omega) only [impl_Serving.l4, ↓if_pos, ↓if_neg, if_pos, if_neg, ↓reduceIte, w64, in_t, in_f, l1In_t, l1In_f, Option.bind_some, Bool.not_true, Bool.not_false, Bool.false_eq_true, tmod_nonneg, tdiv_nonneg]
        exact q
    · obtain ⟨r, o, p, q⟩ := H _ _ _ (good_same hg t0)
      refine ⟨r, o, ev_unroll ?_, ev_unroll ?_⟩
      · simp (disch := omega) only [spec_Serving.l1, ↓if_pos, ↓if_neg, if_pos, if_neg, ↓reduceIte, w64, in_t, in_f, l1In_t, l1In_f, Option.bind_some, Bool.not_true, Bool.not_false, Bool.false_eq_true, tmod_nonneg, tdiv_nonneg]
        exact p
      · simp (disch := omega) only [impl_Serving.l4, ↓if_pos, ↓if_neg, if_pos, if_neg, ↓reduceIte, w64, in_t, in_f, l1In_t, l1In_f, Option.bind_some, Bool.not_true, Bool.not_false, Bool.false_eq_true, tmod_nonneg, tdiv_nonneg]
        exact q
  intro d
  induction d with
  | zero => exact fun c best hd c0 b0 b1 hb => last c best (by omega) b0 b1 hb
  | succ d ih =>
    intro c best hd c0 b0 b1 hb
    by_cases hc : c < W
    · by_cases hsn : t - dw + 1 > since
      · by_cases hall : ∀ v : Int, t - dw < v → v ≤ t → Pc m a now c v
        · have hov := (over_ev m a dw W hm ha hdw hW hw he c now t t1 c0 hc n0 n1 300 (t - dw + 1) (by omega) (by omega)).1 (fun v v0 v1 => hall v (by omega) v1)
          have hpt := hall t (by omega) (Int.le_refl _)
          obtain ⟨r, o, p, q⟩ := ih (c + 1) (if best < 0 ∨ rd (rd_L1 m t) c > rd (rd_L1 m t) best then c else best) (by omega) (by omega) (by split <;> omega) (by split <;> omega) (by
            intro _
            split
            · exact ⟨hpt, hsn⟩
            · exact hb (by omega))
          refine ⟨r, o, ev_unroll ?_, ev_unroll ?_⟩
          · simp (disch := omega) only [spec_Serving.l1, ↓if_pos, ↓if_neg, if_pos, if_neg, ↓reduceIte, w64, in_t, in_f, l1In_t, l1In_f, Option.bind_some, Bool.not_true, Bool.not_false, Bool.false_eq_true, tmod_nonneg, tdiv_nonneg]
            refine Ev.bind hov ?_
            by_cases h1 : best < 0
            · rw [if_pos (Or.inl h1)] at p
              simp (disch := omega) only [↓if_pos, ↓if_neg, if_pos, if_neg, ↓reduceIte, w64, in_t, in_f, l1In_t, l1In_f, Option.bind_some, Bool.not_true, Bool.not_false, Bool.false_eq_true, tmod_nonneg, tdiv_nonneg]
              exact p
            · by_cases h2 : rd (rd_L1 m t) c > rd (rd_L1 m t) best
              · rw [if_pos (Or.inr h2)] at p
                simp (disch := omega) only [↓if_pos, ↓if_neg, if_pos, if_neg, ↓reduceIte, w64, in_t, in_f, l1In_t, l1In_f, Option.bind_some, Bool.not_true, Bool.not_false, Bool.false_eq_true, tmod_nonneg, tdiv_nonneg]
                exact p
              · rw [if_neg (by omega)] at p
                simp (disch := omega) only [↓if_pos, ↓if_neg, if_pos, if_neg, ↓reduceIte, w64, in_t, in_f, l1In_t, l1In_f, Option.bind_some, Bool.not_true, Bool.not_false, Bool.false_eq_true, tmod_nonneg, tdiv_nonneg]
                exact p
          · simp (disch := omega) only [impl_Serving.l4, ↓if_pos, ↓if_neg, if_pos, if_neg, ↓reduceIte, w64, in_t, in_f, l1In_t, l1In_f, Option.bind_some, Bool.not_true, Bool.not_false, Bool.false_eq_true, tmod_nonneg, tdiv_nonneg]
            rw [decide_eq_true hsn]
            exact (l5_ev m a dw W hm ha hdw hW hw he out now since t best c t0 t1 (by omega) c0 hc n0 n1 b0 b1 r 100 t (by omega) (by omega) (Int.le_refl _)).1 hall q
        · have hx : ∃ v : Int, t - dw < v ∧ v ≤ t ∧ ¬ Pc m a now c v :=
            Classical.byContradiction fun hno => hall fun v v0 v1 => Classical.byContradiction fun h => hno ⟨v, v0, v1, h⟩
          have hx2 : ∃ v : Int, t - dw + 1 ≤ v ∧ v ≤ t ∧ ¬ Pc m a now c v := by
            obtain ⟨v, v0, v1, v2⟩ := hx
            exact ⟨v, by omega, v1, v2⟩
          have hov := (over_ev m a dw W hm ha hdw hW hw he c now t t1 c0 hc n0 n1 300 (t - dw + 1) (by omega) (by omega)).2 hx2
          obtain ⟨r, o, p, q⟩ := ih (c + 1) best (by omega) (by omega) b0 b1 hb
          refine ⟨r, o, ev_unroll ?_, ev_unroll ?_⟩
          · simp (disch := omega) only [spec_Serving.l1, ↓if_pos, ↓if_neg, if_pos, if_neg, ↓reduceIte, w64, in_t, in_f, l1In_t, l1In_f, Option.bind_some, Bool.not_true, Bool.not_false, Bool.false_eq_true, tmod_nonneg, tdiv_nonneg]
            refine Ev.bind hov ?_
            simp (disch := omega) only [↓if_pos, ↓if_neg, if_pos, if_neg, ↓reduceIte, w64, in_t, in_f, l1In_t, l1In_f, Option.bind_some, Bool.not_true, Bool.not_false, Bool.false_eq_true, tmod_nonneg, tdiv_nonneg]
            exact p
          · simp (disch := omega) only [impl_Serving.l4, ↓if_pos, ↓if_neg, if_pos, if_neg, ↓reduceIte, w64, in_t, in_f, l1In_t, l1In_f, Option.bind_some, Bool.not_true, Bool.not_false, Bool.false_eq_true, tmod_nonneg, tdiv_nonneg]
            rw [decide_eq_true hsn]
            exact (l5_ev m a dw W hm ha hdw hW hw he out now since t best c t0 t1 (by omega) c0 hc n0 n1 b0 b1 r 100 t (by omega) (by omega) (Int.le_refl _)).2 hx q
      · obtain ⟨r, o, p, q⟩ := ih (c + 1) best (by omega) (by omega) b0 b1 hb
        refine ⟨r, o, ev_unroll ?_, ev_unroll ?_⟩
        · simp (disch := omega) only [spec_Serving.l1, ↓if_pos, ↓if_neg, if_pos, if_neg, ↓reduceIte, w64, in_t, in_f, l1In_t, l1In_f, Option.bind_some, Bool.not_true, Bool.not_false, Bool.false_eq_true, tmod_nonneg, tdiv_nonneg]
          exact p
        · simp (disch := omega) only [impl_Serving.l4, ↓if_pos, ↓if_neg, if_pos, if_neg, ↓reduceIte, w64, in_t, in_f, l1In_t, l1In_f, Option.bind_some, Bool.not_true, Bool.not_false, Bool.false_eq_true, tmod_nonneg, tdiv_nonneg]
          rw [decide_eq_false hsn]
          exact l5_false m a dw W hm ha hdw hW hw he out now since t best c t0 t1 c0 hc r q t (by omega) (Int.le_refl _)
    · exact last c best (by omega) b0 b1 hb
theorem inner0_ev (t1 : 0 < (m.length : Int))
    (H : ∀ out' now' since', Good m a dw W 1 out' now' since' → ∃ r, Told m a dw W r ∧ Ev (fun k => spec_Serving.l0 k m a dw out' now' since' 1) r ∧ Ev (fun k => impl_Serving.l2 k m a dw out' now' since' m (m.length : Int) 1) r) :
    ∀ (d : Nat) (c b : Int), W - c ≤ d → 1 ≤ c → 0 ≤ b → b < W →
    ∃ r, Told m a dw W r ∧ Ev (fun k => spec_Serving.l1 k m a dw [] 0 0 0 b c) r ∧ Ev (fun k => impl_Serving.l3 k m a dw [] b 0 (rd_L1 m 0) m (m.length : Int) 0 (rd_L1 m 0) W c) r := by
  have hwt := hw 0 (by omega) t1
  have hnil : (([] : List Int).length : Int) = 0 := rfl
  have last : ∀ (c b : Int), W ≤ c → 0 ≤ b → b < W →
      ∃ r, Told m a dw W r ∧ Ev (fun k => spec_Serving.l1 k m a dw [] 0 0 0 b c) r ∧ Ev (fun k => impl_Serving.l3 k m a dw [] b 0 (rd_L1 m 0) m (m.length : Int) 0 (rd_L1 m 0) W c) r := by
    intro c b hc b0 b1
    obtain ⟨r, o, p, q⟩ := H _ _ _ (good_first m a dw W b b0 b1)
    refine ⟨r, o, ev_unroll ?_, ev_unroll ?_⟩
    · simp (disch := omega) only [spec_Serving.l1, List.length_nil, List.nil_append, ↓if_pos, ↓if_neg, if_pos, if_neg, ↓reduceIte, w64, in_t, in_f, l1In_t, l1In_f, Option.bind_some, Bool.not_true, Bool.not_false, Bool.false_eq_true, tmod_nonneg, tdiv_nonneg]
      exact p
    · simp (disch := omega) only [impl_Serving.l3, List.length_nil, List.nil_append, ↓if_pos, ↓if_neg, if_pos, if_neg, ↓reduceIte, w64, in_t, in_f, l1In_t, l1In_f, Option.bind_some, Bool.not_true, Bool.not_false, Bool.false_eq_true, tmod_nonneg, tdiv_nonneg]
      exact q
  intro d
  induction d with
  | zero => exact fun c b hd c0 b0 b1 => last c b (by omega) b0 b1
  | succ d ih =>
    intro c b hd c0 b0 b1
    by_cases hc : c < W
    · by_cases h2 : rd (rd_L1 m 0) c > rd (rd_L1 m 0) b
      · obtain ⟨r, o, p, q⟩ := ih (c + 1) c (by omega) (by omega) (by omega) hc
        refine ⟨r, o, ev_unroll ?_, ev_unroll ?_⟩
        · simp (disch := omega) only [spec_Serving.l1, ↓if_pos, ↓if_neg, if_pos, if_neg, ↓reduceIte, w64, in_t, in_f, l1In_t, l1In_f, Option.bind_some, Bool.not_true, Bool.not_false, Bool.false_eq_true, tmod_nonneg, tdiv_nonneg]
          exact p
        · simp (disch := omega) only [impl_Serving.l3, ↓if_pos, ↓if_neg, if_pos, if_neg, ↓reduceIte, w64, in_t, in_f, l1In_t, l1In_f, Option.bind_some, Bool.not_true, Bool.not_false, Bool.false_eq_true, tmod_nonneg, tdiv_nonneg]
          exact q
      · obtain ⟨r, o, p, q⟩ := ih (c + 1) b (by omega) (by omega) b0 b1
        refine ⟨r, o, ev_unroll ?_, ev_unroll ?_⟩
        · simp (disch := omega) only [spec_Serving.l1, ↓if_pos, ↓if_neg, if_pos, if_neg, ↓reduceIte, w64, in_t, in_f, l1In_t, l1In_f, Option.bind_some, Bool.not_true, Bool.not_false, Bool.false_eq_true, tmod_nonneg, tdiv_nonneg]
          exact p
        · simp (disch := omega) only [impl_Serving.l3, ↓if_pos, ↓if_neg, if_pos, if_neg, ↓reduceIte, w64, in_t, in_f, l1In_t, l1In_f, Option.bind_some, Bool.not_true, Bool.not_false, Bool.false_eq_true, tmod_nonneg, tdiv_nonneg]
          exact q
    · exact last c b (by omega) b0 b1
theorem outer_ev : ∀ (d : Nat) (t : Int) (out : List Int) (now since : Int), (m.length : Int) - t ≤ d → 0 < t → t ≤ (m.length : Int) → Good m a dw W t out now since →
    ∃ r, Told m a dw W r ∧ Ev (fun k => spec_Serving.l0 k m a dw out now since t) r ∧ Ev (fun k => impl_Serving.l2 k m a dw out now since m (m.length : Int) t) r := by
  have last : ∀ (t : Int) (out : List Int) (now since : Int), t = (m.length : Int) → Good m a dw W t out now since →
      ∃ r, Told m a dw W r ∧ Ev (fun k => spec_Serving.l0 k m a dw out now since t) r ∧ Ev (fun k => impl_Serving.l2 k m a dw out now since m (m.length : Int) t) r := by
    intro t out now since ht hg
    refine ⟨(out, true), ⟨rfl, now, since, by rw [← ht]; exact hg⟩, ev_unroll ?_, ev_unroll ?_⟩
    · simp (disch := omega) only [spec_Serving.l0, ↓if_pos, ↓if_neg, if_pos, if_neg, ↓reduceIte, w64, in_t, in_f, l1In_t, l1In_f, Option.bind_some, Bool.not_true, Bool.not_false, Bool.false_eq_true, tmod_nonneg, tdiv_nonneg]
      exact Ev.now _
    · simp (disch := omega) only [impl_Serving.l2, ↓if_pos, ↓if_neg, if_pos, if_neg, ↓reduceIte, w64, in_t, in_f, l1In_t, l1In_f, Option.bind_some, Bool.not_true, Bool.not_false, Bool.false_eq_true, tmod_nonneg, tdiv_nonneg]
      exact Ev.now _
  intro d
  induction d with
  | zero => exact fun t out now since hd t0 t1 hg => last t out now since (by omega) hg
  | succ d ih =>
    intro t out now since hd t0 t1 hg
    by_cases ht : t < (m.length : Int)
    · obtain ⟨r, o, p, q⟩ := inner_ev m a dw W hm ha hdw hW hw he t t0 ht out now since hg (fun out' now' since' hg' => ih (t + 1) out' now' since' (by omega) (by omega) (by omega) hg') 12 0 (-1) (by omega) (by omega) (by omega) (by omega) (fun h => by omega)
      have hwt := hw t (by omega) ht
      refine ⟨r, o, ev_unroll ?_, ev_unroll ?_⟩
      · simp (disch := omega) only [spec_Serving.l0, ↓if_pos, ↓if_neg, if_pos, if_neg, ↓reduceIte, w64, in_t, in_f, l1In_t, l1In_f, Option.bind_some, Bool.not_true, Bool.not_false, Bool.false_eq_true, tmod_nonneg, tdiv_nonneg]
        exact p
      · simp (disch := omega) only [impl_Serving.l2, ↓if_pos, ↓if_neg, if_pos, if_neg, ↓reduceIte, w64, in_t, in_f, l1In_t, l1In_f, Option.bind_some, Bool.not_true, Bool.not_false, Bool.false_eq_true, tmod_nonneg, tdiv_nonneg]
        rw [hwt]
        exact q
    · exact last t out now since (by omega) hg
theorem all_ev : ∃ r, Told m a dw W r ∧ Ev (fun k => spec_Serving.l0 k m a dw [] 0 0 0) r ∧ Ev (fun k => impl_Serving.l2 k m a dw [] 0 0 m (m.length : Int) 0) r := by
  by_cases ht : 0 < (m.length : Int)
  · have hwt := hw 0 (by omega) ht
    have hx : ¬ rd (rd_L1 m 0) 0 > rd (rd_L1 m 0) 0 := by omega
    obtain ⟨r, o, p, q⟩ := inner0_ev m a dw W hm ha hdw hW hw he ht (fun out' now' since' hg' => outer_ev m a dw W hm ha hdw hW hw he m.length 1 out' now' since' (by omega) (by omega) (by omega) hg') 12 1 0 (by omega) (by omega) (by omega) (by omega)
    refine ⟨r, o, ev_unroll ?_, ev_unroll ?_⟩
    · simp (disch := omega) only [spec_Serving.l0, ↓if_pos, ↓if_neg, if_pos, if_neg, ↓reduceIte, w64, in_t, in_f, l1In_t, l1In_f, Option.bind_some, Bool.not_true, Bool.not_false, Bool.false_eq_true, tmod_nonneg, tdiv_nonneg]
      refine ev_unroll ?_
      simp (disch := omega) only [spec_Serving.l1, ↓if_pos, ↓if_neg, if_pos, if_neg, ↓reduceIte, w64, in_t, in_f, l1In_t, l1In_f, Option.bind_some, Bool.not_true, Bool.not_false, Bool.false_eq_true, tmod_nonneg, tdiv_nonneg]
      exact p
    · simp (disch := omega) only [impl_Serving.l2, ↓if_pos, ↓if_neg, if_pos, if_neg, ↓reduceIte, w64, in_t, in_f, l1In_t, l1In_f, Option.bind_some, Bool.not_true, Bool.not_false, Bool.false_eq_true, tmod_nonneg, tdiv_nonneg]
      rw [hwt]
      refine ev_unroll ?_
      simp (disch := omega) only [impl_Serving.l3, ↓if_pos, ↓if_neg, if_pos, if_neg, ↓reduceIte, w64, in_t, in_f, l1In_t, l1In_f, Option.bind_some, Bool.not_true, Bool.not_false, Bool.false_eq_true, tmod_nonneg, tdiv_nonneg]
      exact q
  · have e : (m.length : Int) = 0 := by omega
    refine ⟨([], true), ⟨rfl, 0, 0, ?_⟩, ev_unroll ?_, ev_unroll ?_⟩
    · rw [e]
      exact ⟨rfl, fun j j0 j1 => by omega, fun j j0 j1 => by omega, fun i j i0 i1 j1 => by omega, fun i i0 i1 => by omega, fun h => by omega, ⟨by omega, by omega⟩, ⟨by omega, fun h => by omega⟩⟩
    · simp (disch := omega) only [spec_Serving.l0, ↓if_pos, ↓if_neg, if_pos, if_neg, ↓reduceIte, w64, in_t, in_f, l1In_t, l1In_f, Option.bind_some, Bool.not_true, Bool.not_false, Bool.false_eq_true, tmod_nonneg, tdiv_nonneg]
      exact Ev.now _
    · simp (disch := omega) only [impl_Serving.l2, ↓if_pos, ↓if_neg, if_pos, if_neg, ↓reduceIte, w64, in_t, in_f, l1In_t, l1In_f, Option.bind_some, Bool.not_true, Bool.not_false, Bool.false_eq_true, tmod_nonneg, tdiv_nonneg]
      exact Ev.now _
end
/-- Both tell the same, of all measures. -/
theorem serving_both (m : List (List Int)) (hn : m.length ≤ 1048576) (hr : ∀ x ∈ m, x.length ≤ 1048576) (a dw : Int) :
    ∃ r : List Int × Bool, (r.2 = false → r.1 = []) ∧ (r.2 = true → m.length ≤ 200 ∧ 1 ≤ dw ∧ dw ≤ 20 ∧ 0 ≤ a ∧ a ≤ 60 ∧ ∃ W, (∀ t : Int, 0 ≤ t → t < (m.length : Int) → ((rd_L1 m t).length : Int) = W) ∧ (∀ t j : Int, 0 ≤ t → t < (m.length : Int) → 0 ≤ j → j < W → -120 ≤ rd (rd_L1 m t) j ∧ rd (rd_L1 m t) j ≤ 0) ∧ ∃ now since, Good m a dw W (m.length : Int) r.1 now since) ∧
      Ev (fun k => spec_Serving.f k m a dw) r ∧ Ev (fun k => impl_Serving.f k m a dw) r := by
  obtain ⟨b, o, p⟩ := meas_ev m hn hr
  by_cases hgood : (RowsOk m ∧ (m.length : Int) ≤ 200) ∧ (0 ≤ a ∧ a ≤ 60) ∧ 1 ≤ dw ∧ dw ≤ 20
  · obtain ⟨g1, g2, g3⟩ := hgood
    have e := o.2 g1
    subst e
    have hWx : ∃ W : Int, (1 ≤ W ∧ W ≤ 12) ∧ (∀ t : Int, 0 ≤ t → t < (m.length : Int) → ((rd_L1 m t).length : Int) = W) := by
      by_cases ht : 0 < (m.length : Int)
      · have h0 := (g1.1 0 (by omega) ht).1
        exact ⟨((rd_L1 m 0).length : Int), h0.2, fun t t0 t1 => (g1.1 t t0 t1).1.1⟩
      · exact ⟨1, by omega, fun t t0 t1 => by omega⟩
    obtain ⟨W, hW, hw⟩ := hWx
    have he : ∀ t j : Int, 0 ≤ t → t < (m.length : Int) → 0 ≤ j → j < W → -120 ≤ rd (rd_L1 m t) j ∧ rd (rd_L1 m t) j ≤ 0 := by
      intro t j t0 t1 j0 j1
      exact (g1.1 t t0 t1).2 j j0 (by rw [hw t t0 t1]; exact j1)
    obtain ⟨r, o1, p1, q1⟩ := all_ev m a dw W (by omega) g2 g3 hW hw he
    refine ⟨r, fun h => by rw [o1.1] at h; simp at h, fun _ => ⟨by omega, g3.1, g3.2, g2.1, g2.2, W, hw, he, o1.2⟩, ?_, ?_⟩
    · simp only [spec_Serving.f, Option.bind_some]
      refine Ev.bind p ?_
      simp (disch := omega) only [↓if_pos, ↓if_neg, if_pos, if_neg, ↓reduceIte, w64, in_t, in_f, l1In_t, l1In_f, Option.bind_some, Bool.not_true, Bool.not_false, Bool.false_eq_true, tmod_nonneg, tdiv_nonneg]
      refine ev_unroll ?_
      simp (disch := omega) only [spec_Serving.j0, ↓if_pos, ↓if_neg, if_pos, if_neg, ↓reduceIte, w64, in_t, in_f, l1In_t, l1In_f, Option.bind_some, Bool.not_true, Bool.not_false, Bool.false_eq_true, tmod_nonneg, tdiv_nonneg]
      exact p1
    · have hlen := g1.2
      simp (disch := omega) only [impl_Serving.f, ↓if_pos, ↓if_neg, if_pos, if_neg, ↓reduceIte, w64, in_t, in_f, l1In_t, l1In_f, Option.bind_some, Bool.not_true, Bool.not_false, Bool.false_eq_true, tmod_nonneg, tdiv_nonneg]
      refine ev_unroll ?_
      simp (disch := omega) only [impl_Serving.j0, ↓if_pos, ↓if_neg, if_pos, if_neg, ↓reduceIte, w64, in_t, in_f, l1In_t, l1In_f, Option.bind_some, Bool.not_true, Bool.not_false, Bool.false_eq_true, tmod_nonneg, tdiv_nonneg]
      exact (impl_rows m hn hr a dw m.length 0 (by omega) (by omega)).1 (fun j j0 j1 => g1.1 j j0 j1) r q1
  · refine ⟨([], false), fun _ => rfl, fun h => by simp at h, ?_, ?_⟩
    · simp only [spec_Serving.f, Option.bind_some]
      refine Ev.bind p ?_
      cases b with
      | false =>
        simp (disch := omega) only [↓if_pos, ↓if_neg, if_pos, if_neg, ↓reduceIte, w64, in_t, in_f, l1In_t, l1In_f, Option.bind_some, Bool.not_true, Bool.not_false, Bool.false_eq_true, tmod_nonneg, tdiv_nonneg]
        refine ev_unroll ?_
        simp (disch := omega) only [spec_Serving.j0, ↓if_pos, ↓if_neg, if_pos, if_neg, ↓reduceIte, w64, in_t, in_f, l1In_t, l1In_f, Option.bind_some, Bool.not_true, Bool.not_false, Bool.false_eq_true, tmod_nonneg, tdiv_nonneg]
        exact Ev.now _
      | true =>
        have g1 := o.1 rfl
        by_cases g2 : 0 ≤ a ∧ a ≤ 60
        · have g3 : ¬ (1 ≤ dw ∧ dw ≤ 20) := fun h => hgood ⟨g1, g2, h⟩
          simp (disch := omega) only [↓if_pos, ↓if_neg, if_pos, if_neg, ↓reduceIte, w64, in_t, in_f, l1In_t, l1In_f, Option.bind_some, Bool.not_true, Bool.not_false, Bool.false_eq_true, tmod_nonneg, tdiv_nonneg]
          refine ev_unroll ?_
          simp (disch := omega) only [spec_Serving.j0, ↓if_pos, ↓if_neg, if_pos, if_neg, ↓reduceIte, w64, in_t, in_f, l1In_t, l1In_f, Option.bind_some, Bool.not_true, Bool.not_false, Bool.false_eq_true, tmod_nonneg, tdiv_nonneg]
          exact Ev.now _
        · simp (disch := omega) only [↓if_pos, ↓if_neg, if_pos, if_neg, ↓reduceIte, w64, in_t, in_f, l1In_t, l1In_f, Option.bind_some, Bool.not_true, Bool.not_false, Bool.false_eq_true, tmod_nonneg, tdiv_nonneg]
          refine ev_unroll ?_
          simp (disch := omega) only [spec_Serving.j0, ↓if_pos, ↓if_neg, if_pos, if_neg, ↓reduceIte, w64, in_t, in_f, l1In_t, l1In_f, Option.bind_some, Bool.not_true, Bool.not_false, Bool.false_eq_true, tmod_nonneg, tdiv_nonneg]
          exact Ev.now _
    · by_cases hl : (m.length : Int) > 200
      · simp (disch := omega) only [impl_Serving.f, ↓if_pos, ↓if_neg, if_pos, if_neg, ↓reduceIte, w64, in_t, in_f, l1In_t, l1In_f, Option.bind_some, Bool.not_true, Bool.not_false, Bool.false_eq_true, tmod_nonneg, tdiv_nonneg]
        refine ev_unroll ?_
        simp (disch := omega) only [impl_Serving.j0, ↓if_pos, ↓if_neg, if_pos, if_neg, ↓reduceIte, w64, in_t, in_f, l1In_t, l1In_f, Option.bind_some, Bool.not_true, Bool.not_false, Bool.false_eq_true, tmod_nonneg, tdiv_nonneg]
        exact Ev.now _
      · by_cases g2 : 0 ≤ a ∧ a ≤ 60
        · by_cases g3 : 1 ≤ dw ∧ dw ≤ 20
          · have hx : ∃ j : Int, 0 ≤ j ∧ j < (m.length : Int) ∧ ¬ RowOk m (rd_L1 m j) :=
              Classical.byContradiction fun hno => hgood ⟨⟨fun t t0 t1 => Classical.byContradiction fun h => hno ⟨t, t0, t1, h⟩, by omega⟩, g2, g3⟩
            simp (disch := omega) only [impl_Serving.f, ↓if_pos, ↓if_neg, if_pos, if_neg, ↓reduceIte, w64, in_t, in_f, l1In_t, l1In_f, Option.bind_some, Bool.not_true, Bool.not_false, Bool.false_eq_true, tmod_nonneg, tdiv_nonneg]
            refine ev_unroll ?_
            simp (disch := omega) only [impl_Serving.j0, ↓if_pos, ↓if_neg, if_pos, if_neg, ↓reduceIte, w64, in_t, in_f, l1In_t, l1In_f, Option.bind_some, Bool.not_true, Bool.not_false, Bool.false_eq_true, tmod_nonneg, tdiv_nonneg]
            exact (impl_rows m hn hr a dw m.length 0 (by omega) (by omega)).2 hx
          · simp (disch := omega) only [impl_Serving.f, ↓if_pos, ↓if_neg, if_pos, if_neg, ↓reduceIte, w64, in_t, in_f, l1In_t, l1In_f, Option.bind_some, Bool.not_true, Bool.not_false, Bool.false_eq_true, tmod_nonneg, tdiv_nonneg]
            refine ev_unroll ?_
            simp (disch := omega) only [impl_Serving.j0, ↓if_pos, ↓if_neg, if_pos, if_neg, ↓reduceIte, w64, in_t, in_f, l1In_t, l1In_f, Option.bind_some, Bool.not_true, Bool.not_false, Bool.false_eq_true, tmod_nonneg, tdiv_nonneg]
            exact Ev.now _
        · simp (disch := omega) only [impl_Serving.f, ↓if_pos, ↓if_neg, if_pos, if_neg, ↓reduceIte, w64, in_t, in_f, l1In_t, l1In_f, Option.bind_some, Bool.not_true, Bool.not_false, Bool.false_eq_true, tmod_nonneg, tdiv_nonneg]
          refine ev_unroll ?_
          simp (disch := omega) only [impl_Serving.j0, ↓if_pos, ↓if_neg, if_pos, if_neg, ↓reduceIte, w64, in_t, in_f, l1In_t, l1In_f, Option.bind_some, Bool.not_true, Bool.not_false, Bool.false_eq_true, tmod_nonneg, tdiv_nonneg]
          exact Ev.now _
/-- How many numbers the first rows hold. -/
def tot (x0 : List (List Int)) : Nat → Int
  | 0 => 0
  | i + 1 => tot x0 i + ((rd_L1 x0 (i : Int)).length : Int)
theorem tot_nonneg (x0 : List (List Int)) : ∀ i, 0 ≤ tot x0 i := by
  intro i
  induction i with
  | zero => simp [tot]
  | succ i ih => simp only [tot]; omega
theorem tot_le (x0 : List (List Int)) (i : Nat) : ∀ d, tot x0 i ≤ tot x0 (i + d) := by
  intro d
  induction d with
  | zero => exact Int.le_refl _
  | succ d ih =>
    have : tot x0 (i + (d + 1)) = tot x0 (i + d) + ((rd_L1 x0 ((i + d : Nat) : Int)).length : Int) := rfl
    omega
theorem szIntSS_ev (x0 : List (List Int)) (hm : x0.length ≤ maxLen) (hr : ∀ x ∈ x0, x.length ≤ maxLen) : ∃ v, Ev (fun k => laws_szIntSS.f k x0 1048576) v ∧ (0 ≤ v → (x0.length : Int) + tot x0 x0.length ≤ 1048576) := by
  have hM : maxLen = 9223372036854775807 := rfl
  have key : ∀ (d i : Nat) (v : Int), x0.length - i = d → i ≤ x0.length → 0 ≤ v → v = 1048576 - (x0.length : Int) - tot x0 i → ∃ r, Ev (fun k => laws_szIntSS.l0 k x0 v (i : Int)) r ∧ (0 ≤ r → (x0.length : Int) + tot x0 x0.length ≤ 1048576) := by
    intro d
    induction d with
    | zero =>
      intro i v hd hi h0 hv
      have h : i = x0.length := by omega
      have ht := tot_nonneg x0 i
      refine ⟨v, ev_unroll ?_, fun _ => by rw [← h]; rw [← h] at hv; omega⟩
      simp (disch := omega) only [laws_szIntSS.l0, ↓if_neg]
      exact Ev.now _
    | succ d ih =>
      intro i v hd hi h0 hv
      have ht := tot_nonneg x0 i
      have hrow := hr _ (rdL_mem (xs := x0) (i := (i : Int)) (by omega) (by omega))
      by_cases hc : v - ((rd_L1 x0 (i : Int)).length : Int) < 0
      · refine ⟨-1, ev_unroll ?_, fun h => by omega⟩
        simp (disch := omega) only [laws_szIntSS.l0, laws_szIntS.f, ↓if_pos, w64, Option.bind_some]
        exact Ev.now _
      · obtain ⟨r, p, q⟩ := ih (i + 1) (v - ((rd_L1 x0 (i : Int)).length : Int)) (by omega) (by omega) (by omega) (by simp only [tot]; omega)
        refine ⟨r, ev_unroll ?_, q⟩
        simp (disch := omega) only [laws_szIntSS.l0, laws_szIntS.f, ↓if_pos, ↓if_neg, w64, Option.bind_some]
        simpa using p
  by_cases hc : 1048576 - (x0.length : Int) < 0
  · refine ⟨-1, ?_, fun h => by omega⟩
    simp (disch := omega) only [laws_szIntSS.f, ↓if_pos, w64]
    exact Ev.now _
  · obtain ⟨r, p, q⟩ := key x0.length 0 (1048576 - (x0.length : Int)) (by omega) (by omega) (by omega) (by simp [tot])
    refine ⟨r, ?_, q⟩
    simp (disch := omega) only [laws_szIntSS.f, ↓if_neg, w64]
    simpa using p
section
variable (x0 : List (List Int)) (hs : (x0.length : Int) + tot x0 x0.length ≤ 1048576)
include hs
theorem ss_row (i : Nat) (hi : i < x0.length) : (rd_L1 x0 (i : Int)).length ≤ 1048576 := by
  have h1 := tot_le x0 (i + 1) (x0.length - (i + 1))
  have h2 := tot_nonneg x0 i
  rw [show i + 1 + (x0.length - (i + 1)) = x0.length by omega] at h1
  simp only [tot] at h1
  omega
theorem ss_len : x0.length ≤ 1048576 := by
  have := tot_nonneg x0 x0.length
  omega
theorem ss_rows : ∀ x ∈ x0, x.length ≤ 1048576 := by
  intro x hx
  obtain ⟨i, hi, rfl⟩ := List.getElem_of_mem hx
  have h := ss_row x0 hs i hi
  have e : rd_L1 x0 (i : Int) = x0[i] := by simp [rd_L1, hi]
  rw [e] at h
  exact h
theorem toIntSS_ev : Ev (fun k => laws_toIntSS.f k x0) x0 := by
  have hn := ss_len x0 hs
  have key : ∀ (d : Nat) (x3 : List (List Int)) (i : Nat), x0.length - i = d → i ≤ x0.length → x3.length = x0.length → x3.take i = x0.take i → Ev (fun k => laws_toIntSS.l0 k x0 x3 (i : Int)) x0 := by
    intro d
    induction d with
    | zero =>
      intro x3 i hd hi hl ht
      have e : x3 = x0 := by
        have h : i = x0.length := by omega
        rw [h, List.take_length, ← hl, List.take_length] at ht
        exact ht
      subst e
      refine ev_unroll ?_
      simp (disch := omega) only [laws_toIntSS.l0, ↓if_neg]
      exact Ev.now _
    | succ d ih =>
      intro x3 i hd hi hl ht
      have hrow := ss_row x0 hs i (by omega)
      have e : rd_L1 x0 (i : Int) = x0.getD i [] := by simp only [rd_L1, Int.toNat_natCast]
      have h := ih (x3.set i (rd_L1 x0 (i : Int))) (i + 1) (by omega) (by omega) (by simp [hl]) (by rw [e]; exact take_set_succ [] hl ht (by omega))
      refine ev_unroll ?_
      simp (disch := omega) only [laws_toIntSS.l0, ↓if_pos, w64]
      refine Ev.bind (toIntS_ev _ hrow) ?_
      simpa using h
  have h := key _ (List.replicate x0.length []) 0 rfl (by omega) (by simp) (by simp)
  simp (disch := omega) only [laws_toIntSS.f, ↓if_pos]
  simpa using h
theorem eqIntSS_ev : Ev (fun k => laws_eqIntSS.f k x0 x0) true := by
  have hn := ss_len x0 hs
  have key : ∀ (d : Nat) (i : Nat), x0.length - i = d → i ≤ x0.length → Ev (fun k => laws_eqIntSS.l0 k x0 x0 (i : Int)) true := by
    intro d
    induction d with
    | zero =>
      intro i hd hi
      refine ev_unroll ?_
      simp (disch := omega) only [laws_eqIntSS.l0, ↓if_neg]
      exact Ev.now _
    | succ d ih =>
      intro i hd hi
      have h := ih (i + 1) (by omega) (by omega)
      have hrow := ss_row x0 hs i (by omega)
      refine ev_unroll ?_
      simp (disch := omega) only [laws_eqIntSS.l0, ↓if_pos, w64]
      refine Ev.bind (eqIntS_ev _ hrow) ?_
      simp only [↓reduceIte]
      simpa using h
  have h := key _ 0 rfl (by omega)
  simp (disch := omega) only [laws_eqIntSS.f, ↓if_pos]
  simpa using h
theorem markIntSS_ev : Ev (fun k => laws_markIntSS.f k x0 1) (1 + tot x0 x0.length) := by
  have hn := ss_len x0 hs
  have key : ∀ (d : Nat) (i : Nat), x0.length - i = d → i ≤ x0.length → Ev (fun k => laws_markIntSS.l0 k x0 (1 + tot x0 i) (i : Int)) (1 + tot x0 x0.length) := by
    intro d
    induction d with
    | zero =>
      intro i hd hi
      have h : i = x0.length := by omega
      rw [h]
      refine ev_unroll ?_
      simp (disch := omega) only [laws_markIntSS.l0, ↓if_neg]
      exact Ev.now _
    | succ d ih =>
      intro i hd hi
      have h := ih (i + 1) (by omega) (by omega)
      have hrow := ss_row x0 hs i (by omega)
      have t0 := tot_nonneg x0 i
      have t1 := tot_le x0 i (x0.length - i)
      rw [show i + (x0.length - i) = x0.length by omega] at t1
      refine ev_unroll ?_
      simp (disch := omega) only [laws_markIntSS.l0, ↓if_pos, w64]
      refine Ev.bind (markIntS_ev _ (1 + tot x0 i) (by omega) (by omega) hrow) ?_
      simp only [tot] at h
      rw [Int.add_assoc]
      simpa using h
  exact key _ 0 rfl (by omega)
end
theorem both (m : List (List Int)) (a dw : Int) (hn : m.length ≤ 1048576) (hr : ∀ x ∈ m, x.length ≤ 1048576) : ∃ r : List Int × Bool, r.1.length ≤ 1048576 ∧ Ev (fun k => spec_Serving.f k m a dw) r ∧ Ev (fun k => impl_Serving.f k m a dw) r := by
  obtain ⟨⟨out, ok⟩, g1, g2, hs, hi⟩ := serving_both m hn hr a dw
  refine ⟨_, ?_, hs, hi⟩
  cases ok with
  | true =>
    obtain ⟨k1, k2, k3, k4, k5, W, k6, k7, now, since, k8⟩ := g2 rfl
    have h := k8.len
    simp only at h
    show out.length ≤ 1048576
    omega
  | false =>
    have k1 : out = [] := g1 rfl
    rw [k1]
    simp
def laws_FnExactServing.Pure : Prop := ∀ (l0 : List (List Int)) (a1 a2 : Int), l0.length ≤ maxLen → (∀ x ∈ l0, x.length ≤ maxLen ∧ ∀ n ∈ x, (Lit.int .i64 n).wf = true) → (Lit.int .i64 a1).wf = true → (Lit.int .i64 a2).wf = true → ∃ k, laws_FnExactServing.f k l0 a1 a2 = some true
theorem FnExactServing : laws_FnExactServing.Pure := by
  intro l0 a1 a2 hm0 hw0 _ _
  refine Ev.rounds (g := fun k => laws_FnExactServing.f k l0 a1 a2) ?_
  obtain ⟨v, hv, hv2⟩ := szIntSS_ev l0 hm0 (fun x hx => (hw0 x hx).1)
  simp only [laws_FnExactServing.f]
  refine Ev.bind hv ?_
  by_cases hb : v < 0
  · simp only [if_pos hb]
    exact Ev.now _
  simp only [if_neg hb]
  have hs := hv2 (by omega)
  have hn := ss_len l0 hs
  have htn := tot_nonneg l0 l0.length
  have ht := toIntSS_ev l0 hs
  obtain ⟨⟨l, b⟩, hl, hsp, hi⟩ := both l0 a1 a2 hn (ss_rows l0 hs)
  simp only at hl
  refine Ev.bind ht (Ev.bind hsp (Ev.bind ht (Ev.bind hi (Ev.bind (eqIntS_ev l hl) ?_))))
  simp only [↓reduceIte, bne_self_eq_false]
  refine ev_unroll ?_
  simp only [laws_FnExactServing.j0, Bool.false_eq_true, ↓reduceIte]
  refine Ev.bind ht (Ev.bind (eqIntSS_ev l0 hs) ?_)
  simp only [↓reduceIte]
  refine Ev.bind (markIntSS_ev l0 hs) ?_
  simp (disch := omega) only [↓if_neg]
  refine Ev.bind (eqIntS_ev l hl) ?_
  simp only [↓reduceIte, bne_self_eq_false]
  refine ev_unroll ?_
  simp only [laws_FnExactServing.j1, Bool.false_eq_true, ↓reduceIte]
  refine Ev.bind (markIntS_ev l 1 (by omega) (by omega) hl) (Ev.bind (heldIntS_ev l.length 1 (by omega) (by omega) hl) ?_)
  simp (disch := omega) only [↓if_neg, ↓reduceIte]
  refine Ev.bind ht (Ev.bind hi (Ev.bind (eqIntS_ev l hl) ?_))
  simp only [↓reduceIte, bne_self_eq_false]
  refine ev_unroll ?_
  simp only [laws_FnExactServing.j2, Bool.false_eq_true, ↓reduceIte]
  refine Ev.bind (heldIntS_ev l.length 1 (by omega) (by omega) hl) ?_
  simp (disch := omega) only [↓if_neg, ↓reduceIte]
  exact Ev.now _

end Go.Proofs.Ythhbeekokbcnfaa.Pure
