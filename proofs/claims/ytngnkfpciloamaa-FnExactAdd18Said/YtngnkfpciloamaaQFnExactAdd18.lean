/- The law FnExactAdd18: for all books and talks the program's Add18 and the reference's answer alike, the book that was given stays as it was, and the book that is made is its own. -/
import Derived.Test.YtngnkfpciloamaaMFnExactAdd18x14
import Derived.Test.YtngnkfpciloamaaKitFnExactAdd18
namespace Go.Proofs.Ytngnkfpciloamaa.Pure
set_option linter.unusedSimpArgs false
set_option linter.unusedVariables false
set_option linter.unusedSectionVars false
open Go Go.RowKit Go.Proofs.Ytngnkfpciloamaa.MFnExactAdd18 Go.Proofs.YtngnkfpciloamaaW.PrintWords Go.Proofs.YtngnkfpciloamaaW.PrintLast Go.Proofs.Ytngnkfpciloamaa.Mine

theorem toIntS_ev (x0 : List Int) (hn : x0.length ≤ 1048576) : Ev (fun k => laws_toIntS.f k x0) x0 := by
  have key : ∀ (d : Nat) (x3 : List Int) (i : Nat), x0.length - i = d → i ≤ x0.length → x3.length = x0.length → x3.take i = x0.take i → Ev (fun k => laws_toIntS.l0 k x0 x3 (i : Int)) x0 := by
    intro d
    induction d with
    | zero =>
      intro x3 i hd hi hl ht
      have e : x3 = x0 := by
        have h : i = x0.length := by omega
        rw [h, List.take_length, ← hl, List.take_length] at ht
        exact ht
      subst e
      refine ev_unroll ?_
      simp (disch := omega) only [laws_toIntS.l0, ↓if_neg]
      exact Ev.now _
    | succ d ih =>
      intro x3 i hd hi hl ht
      refine ev_unroll ?_
      simp (disch := omega) only [laws_toIntS.l0, ↓if_pos, w64]
      have h := ih (x3.set i (rd x0 i)) (i + 1) (by omega) (by omega) (by simp [hl]) (by rw [rd_nat]; exact take_set_succ 0 hl ht (by omega))
      simpa using h
  have h := key _ (List.replicate x0.length 0) 0 rfl (by omega) (by simp) (by simp)
  simp (disch := omega) only [laws_toIntS.f, ↓if_pos]
  simpa using h
theorem eqIntS_ev (x0 : List Int) (hn : x0.length ≤ 1048576) : Ev (fun k => laws_eqIntS.f k x0 x0) true := by
  have key : ∀ (d : Nat) (i : Nat), x0.length - i = d → i ≤ x0.length → Ev (fun k => laws_eqIntS.l0 k x0 x0 (i : Int)) true := by
    intro d
    induction d with
    | zero =>
      intro i hd hi
      refine ev_unroll ?_
      simp (disch := omega) only [laws_eqIntS.l0, ↓if_neg]
      exact Ev.now _
    | succ d ih =>
      intro i hd hi
      refine ev_unroll ?_
      simp (disch := omega) only [laws_eqIntS.l0, ↓if_pos, w64]
      have h := ih (i + 1) (by omega) (by omega)
      simpa using h
  have h := key _ 0 rfl (by omega)
  simp (disch := omega) only [laws_eqIntS.f, ↓if_pos]
  simpa using h
/-- What a marked list holds. -/
def marks (m : Int) (n : Nat) : List Int := (List.range n).map fun (j : Nat) => m + (j : Int)
theorem marks_length (m : Int) (n : Nat) : (marks m n).length = n := by simp [marks]
theorem rd_marks (m : Int) (n i : Nat) (h : i < n) : rd (marks m n) (i : Int) = m + i := by simp [rd, marks, h]
theorem markIntS_ev (x0 : List Int) (m : Int) (hm : 0 ≤ m) (hm2 : m ≤ 1000000000) (hn : x0.length ≤ 1048576) : Ev (fun k => laws_markIntS.f k x0 m) ((m + x0.length : Int), marks m x0.length) := by
  have key : ∀ (d : Nat) (y : List Int) (i : Nat), x0.length - i = d → i ≤ x0.length → y.length = x0.length → y.take i = (marks m x0.length).take i → Ev (fun k => laws_markIntS.l0 k y (m + (i : Int)) (i : Int)) ((m + x0.length : Int), marks m x0.length) := by
    intro d
    induction d with
    | zero =>
      intro y i hd hi hl ht
      have h : i = x0.length := by omega
      have e : y = marks m x0.length := by
        have h2 := ht
        rw [List.take_of_length_le (by omega), List.take_of_length_le (by rw [marks_length]; omega)] at h2
        exact h2
      refine ev_unroll ?_
      simp (disch := omega) only [laws_markIntS.l0, ↓if_neg]
      rw [h, e]
      exact Ev.now _
    | succ d ih =>
      intro y i hd hi hl ht
      refine ev_unroll ?_
      simp (disch := omega) only [laws_markIntS.l0, ↓if_pos, w64]
      have h := ih (y.set i (m + (i : Int))) (i + 1) (by omega) (by omega) (by simp [hl]) (by
        have h2 := take_set_succ (l := y) (m := marks m x0.length) 0 (by rw [marks_length]; exact hl) ht (by rw [marks_length]; omega)
        rw [show (marks m x0.length).getD i 0 = m + (i : Int) from by rw [← rd_nat, rd_marks _ _ _ (by omega)]] at h2
        exact h2)
      rw [show (m + (i : Int) + 1) = m + ((i + 1 : Nat) : Int) from by omega, show ((i : Int) + 1) = ((i + 1 : Nat) : Int) from by omega]
      simpa using h
  have h := key _ x0 0 rfl (by omega) rfl (by simp)
  simp only [laws_markIntS.f]
  simpa using h
theorem heldIntS_ev (n : Nat) (m : Int) (hm : 0 ≤ m) (hm2 : m ≤ 1000000000) (hn : n ≤ 1048576) : Ev (fun k => laws_heldIntS.f k (marks m n) m) (m + n : Int) := by
  have key : ∀ (d : Nat) (i : Nat), n - i = d → i ≤ n → Ev (fun k => laws_heldIntS.l0 k (marks m n) (m + (i : Int)) (i : Int)) (m + n : Int) := by
    intro d
    induction d with
    | zero =>
      intro i hd hi
      have h : i = n := by omega
      have hl := marks_length m n
      refine ev_unroll ?_
      simp (disch := omega) only [laws_heldIntS.l0, ↓if_neg]
      rw [h]
      exact Ev.now _
    | succ d ih =>
      intro i hd hi
      have hl := marks_length m n
      have hr := rd_marks m n i (by omega)
      refine ev_unroll ?_
      simp (disch := omega) only [laws_heldIntS.l0, ↓if_pos, w64]
      have h := ih (i + 1) (by omega) (by omega)
      rw [show (m + (i : Int) + 1) = m + ((i + 1 : Nat) : Int) from by omega, show ((i : Int) + 1) = ((i + 1 : Nat) : Int) from by omega]
      exact h
  have h := key _ 0 rfl (by omega)
  simp only [laws_heldIntS.f]
  simpa using h
theorem in_t {a b c : Int} (h : b ≤ a) (h2 : a ≤ c) : impl_in.f a b c = some true := by
  unfold impl_in.f
  rw [if_pos (by omega)]; simp [h2]
theorem in_f {a b c : Int} (h : ¬ (b ≤ a ∧ a ≤ c)) : impl_in.f a b c = some false := by
  unfold impl_in.f
  by_cases g : a ≥ b
  · rw [if_pos g]; simp; omega
  · rw [if_neg g]
theorem l1In_t {a b c : Int} (h : b ≤ a) (h2 : a ≤ c) : spec_l1In.f a b c = some true := by
  unfold spec_l1In.f
  rw [if_pos (by omega)]; simp [h2]
theorem l1In_f {a b c : Int} (h : ¬ (b ≤ a ∧ a ≤ c)) : spec_l1In.f a b c = some false := by
  unfold spec_l1In.f
  by_cases g : a ≥ b
  · rw [if_pos g]; simp; omega
  · rw [if_neg g]
def VOk (L : List Int) (i : Int) : Prop := -1 ≤ rd L i ∧ rd L i ≤ 30
def TOk (T : List S50) (L C : List Int) (i : Int) : Prop := (0 ≤ (rd_T50 T i).f0 ∧ (rd_T50 T i).f0 ≤ (L.length : Int) - 1) ∧ (0 ≤ (rd_T50 T i).f1 ∧ (rd_T50 T i).f1 ≤ (L.length : Int) - 1) ∧ (-1 ≤ (rd_T50 T i).f2 ∧ (rd_T50 T i).f2 ≤ (C.length : Int) - 1)
section
variable (T : List S50) (L C : List Int) (hT : T.length ≤ 1048576) (hL : L.length ≤ 1048576) (hC : C.length ≤ 1048576)
include hT hL hC
theorem spec_b2 : ∀ (d : Nat) (i : Int), (C.length : Int) - i ≤ d → 0 ≤ i → ∃ b : Bool, (b = true ↔ ∀ j : Int, i ≤ j → j < (C.length : Int) → VOk C j) ∧ Ev (fun k => spec_BookOk.l2 k i T L C) b := by
  have last : ∀ i : Int, (C.length : Int) ≤ i → ∃ b : Bool, (b = true ↔ ∀ j : Int, i ≤ j → j < (C.length : Int) → VOk C j) ∧ Ev (fun k => spec_BookOk.l2 k i T L C) b := by
    intro i hi
    refine ⟨true, ⟨fun _ j h1 h2 => by omega, fun _ => rfl⟩, ev_unroll ?_⟩
    simp (disch := omega) only [spec_BookOk.l2, ↓if_pos, ↓if_neg, if_pos, if_neg, ↓reduceIte, w64, in_t, in_f, l1In_t, l1In_f, Option.bind_some, Bool.not_true, Bool.not_false, Bool.false_eq_true, tmod_nonneg, tdiv_nonneg]
    exact Ev.now _
  intro d
  induction d with
  | zero => exact fun i hd i0 => last i (by omega)
  | succ d ih =>
    intro i hd i0
    by_cases hi : i < (C.length : Int)
    · by_cases hv : -1 ≤ rd C i ∧ rd C i ≤ 30
      · obtain ⟨b, o, p⟩ := ih (i + 1) (by omega) (by omega)
        refine ⟨b, o.trans ⟨fun h j h1 h2 => ?_, fun h j h1 h2 => h j (by omega) h2⟩, ev_unroll ?_⟩
        · by_cases e : j = i
          · rw [e]; exact hv
          · exact h j (by omega) h2
        · simp (disch := omega) only [spec_BookOk.l2, ↓if_pos, ↓if_neg, if_pos, if_neg, ↓reduceIte, w64, in_t, in_f, l1In_t, l1In_f, Option.bind_some, Bool.not_true, Bool.not_false, Bool.false_eq_true, tmod_nonneg, tdiv_nonneg]
          exact p
      · refine ⟨false, ⟨fun h => by simp at h, fun h => absurd (h i (by omega) hi) hv⟩, ev_unroll ?_⟩
        simp (disch := omega) only [spec_BookOk.l2, ↓if_pos, ↓if_neg, if_pos, if_neg, ↓reduceIte, w64, in_t, in_f, l1In_t, l1In_f, Option.bind_some, Bool.not_true, Bool.not_false, Bool.false_eq_true, tmod_nonneg, tdiv_nonneg]
        exact Ev.now _
    · exact last i (by omega)
theorem spec_b1 : ∀ (d : Nat) (i : Int), (L.length : Int) - i ≤ d → 0 ≤ i → ∃ b : Bool, (b = true ↔ (∀ j : Int, i ≤ j → j < (L.length : Int) → VOk L j) ∧ (∀ j : Int, 0 ≤ j → j < (C.length : Int) → VOk C j)) ∧ Ev (fun k => spec_BookOk.l1 k i T L C) b := by
  have last : ∀ i : Int, (L.length : Int) ≤ i → ∃ b : Bool, (b = true ↔ (∀ j : Int, i ≤ j → j < (L.length : Int) → VOk L j) ∧ (∀ j : Int, 0 ≤ j → j < (C.length : Int) → VOk C j)) ∧ Ev (fun k => spec_BookOk.l1 k i T L C) b := by
    intro i hi
    obtain ⟨b, o, p⟩ := spec_b2 T L C hT hL hC C.length 0 (by omega) (by omega)
    refine ⟨b, o.trans ⟨fun h => ⟨fun j h1 h2 => by omega, h⟩, fun h => h.2⟩, ev_unroll ?_⟩
    simp (disch := omega) only [spec_BookOk.l1, ↓if_pos, ↓if_neg, if_pos, if_neg, ↓reduceIte, w64, in_t, in_f, l1In_t, l1In_f, Option.bind_some, Bool.not_true, Bool.not_false, Bool.false_eq_true, tmod_nonneg, tdiv_nonneg]
    exact p
  intro d
  induction d with
  | zero => exact fun i hd i0 => last i (by omega)
  | succ d ih =>
    intro i hd i0
    by_cases hi : i < (L.length : Int)
    · by_cases hv : -1 ≤ rd L i ∧ rd L i ≤ 30
      · obtain ⟨b, o, p⟩ := ih (i + 1) (by omega) (by omega)
        refine ⟨b, o.trans ⟨fun h => ⟨fun j h1 h2 => ?_, h.2⟩, fun h => ⟨fun j h1 h2 => h.1 j (by omega) h2, h.2⟩⟩, ev_unroll ?_⟩
        · by_cases e : j = i
          · rw [e]; exact hv
          · exact h.1 j (by omega) h2
        · simp (disch := omega) only [spec_BookOk.l1, ↓if_pos, ↓if_neg, if_pos, if_neg, ↓reduceIte, w64, in_t, in_f, l1In_t, l1In_f, Option.bind_some, Bool.not_true, Bool.not_false, Bool.false_eq_true, tmod_nonneg, tdiv_nonneg]
          exact p
      · refine ⟨false, ⟨fun h => by simp at h, fun h => absurd (h.1 i (by omega) hi) hv⟩, ev_unroll ?_⟩
        simp (disch := omega) only [spec_BookOk.l1, ↓if_pos, ↓if_neg, if_pos, if_neg, ↓reduceIte, w64, in_t, in_f, l1In_t, l1In_f, Option.bind_some, Bool.not_true, Bool.not_false, Bool.false_eq_true, tmod_nonneg, tdiv_nonneg]
        exact Ev.now _
    · exact last i (by omega)
theorem spec_b0 : ∀ (d : Nat) (i : Int), (T.length : Int) - i ≤ d → 0 ≤ i → ∃ b : Bool, (b = true ↔ (∀ j : Int, i ≤ j → j < (T.length : Int) → TOk T L C j) ∧ ((∀ j : Int, 0 ≤ j → j < (L.length : Int) → VOk L j) ∧ (∀ j : Int, 0 ≤ j → j < (C.length : Int) → VOk C j))) ∧ Ev (fun k => spec_BookOk.l0 k i T L C) b := by
  have last : ∀ i : Int, (T.length : Int) ≤ i → ∃ b : Bool, (b = true ↔ (∀ j : Int, i ≤ j → j < (T.length : Int) → TOk T L C j) ∧ ((∀ j : Int, 0 ≤ j → j < (L.length : Int) → VOk L j) ∧ (∀ j : Int, 0 ≤ j → j < (C.length : Int) → VOk C j))) ∧ Ev (fun k => spec_BookOk.l0 k i T L C) b := by
    intro i hi
    obtain ⟨b, o, p⟩ := spec_b1 T L C hT hL hC L.length 0 (by omega) (by omega)
    refine ⟨b, o.trans ⟨fun h => ⟨fun j h1 h2 => by omega, h⟩, fun h => h.2⟩, ev_unroll ?_⟩
    simp (disch := omega) only [spec_BookOk.l0, ↓if_pos, ↓if_neg, if_pos, if_neg, ↓reduceIte, w64, in_t, in_f, l1In_t, l1In_f, Option.bind_some, Bool.not_true, Bool.not_false, Bool.false_eq_true, tmod_nonneg, tdiv_nonneg]
    exact p
  intro d
  induction d with
  | zero => exact fun i hd i0 => last i (by omega)
  | succ d ih =>
    intro i hd i0
    by_cases hi : i < (T.length : Int)
    · have no : ∀ h : ¬ TOk T L C i, (false = true ↔ (∀ j : Int, i ≤ j → j < (T.length : Int) → TOk T L C j) ∧ ((∀ j : Int, 0 ≤ j → j < (L.length : Int) → VOk L j) ∧ (∀ j : Int, 0 ≤ j → j < (C.length : Int) → VOk C j))) := fun h => ⟨fun h2 => by simp at h2, fun h2 => absurd (h2.1 i (by omega) hi) h⟩
      by_cases c0 : 0 ≤ (rd_T50 T i).f0 ∧ (rd_T50 T i).f0 ≤ (L.length : Int) - 1
      · by_cases c1 : 0 ≤ (rd_T50 T i).f1 ∧ (rd_T50 T i).f1 ≤ (L.length : Int) - 1
        · by_cases c2 : -1 ≤ (rd_T50 T i).f2 ∧ (rd_T50 T i).f2 ≤ (C.length : Int) - 1
          · obtain ⟨b, o, p⟩ := ih (i + 1) (by omega) (by omega)
            refine ⟨b, o.trans ⟨fun h => ⟨fun j h1 h2 => ?_, h.2⟩, fun h => ⟨fun j h1 h2 => h.1 j (by omega) h2, h.2⟩⟩, ev_unroll ?_⟩
            · by_cases e : j = i
              · rw [e]; exact ⟨c0, c1, c2⟩
              · exact h.1 j (by omega) h2
            · simp (disch := omega) only [spec_BookOk.l0, ↓if_pos, ↓if_neg, if_pos, if_neg, ↓reduceIte, w64, in_t, in_f, l1In_t, l1In_f, Option.bind_some, Bool.not_true, Bool.not_false, Bool.false_eq_true, tmod_nonneg, tdiv_nonneg]
              exact p
          · refine ⟨false, no (fun h => c2 h.2.2), ev_unroll ?_⟩
            simp (disch := omega) only [spec_BookOk.l0, ↓if_pos, ↓if_neg, if_pos, if_neg, ↓reduceIte, w64, in_t, in_f, l1In_t, l1In_f, Option.bind_some, Bool.not_true, Bool.not_false, Bool.false_eq_true, tmod_nonneg, tdiv_nonneg]
            exact Ev.now _
        · refine ⟨false, no (fun h => c1 h.2.1), ev_unroll ?_⟩
          simp (disch := omega) only [spec_BookOk.l0, ↓if_pos, ↓if_neg, if_pos, if_neg, ↓reduceIte, w64, in_t, in_f, l1In_t, l1In_f, Option.bind_some, Bool.not_true, Bool.not_false, Bool.false_eq_true, tmod_nonneg, tdiv_nonneg]
          exact Ev.now _
      · refine ⟨false, no (fun h => c0 h.1), ev_unroll ?_⟩
        simp (disch := omega) only [spec_BookOk.l0, ↓if_pos, ↓if_neg, if_pos, if_neg, ↓reduceIte, w64, in_t, in_f, l1In_t, l1In_f, Option.bind_some, Bool.not_true, Bool.not_false, Bool.false_eq_true, tmod_nonneg, tdiv_nonneg]
        exact Ev.now _
    · exact last i (by omega)
theorem impl_b2 : ∀ (d : Nat) (i : Int), (T.length : Int) - i ≤ d → 0 ≤ i → ∃ b : Bool, (b = true ↔ (∀ j : Int, i ≤ j → j < (T.length : Int) → TOk T L C j) ∧ (T.length : Int) ≤ 30) ∧ Ev (fun k => impl_BookOk.l2 k T (T.length : Int) i T L C) b := by
  have last : ∀ i : Int, (T.length : Int) ≤ i → ∃ b : Bool, (b = true ↔ (∀ j : Int, i ≤ j → j < (T.length : Int) → TOk T L C j) ∧ (T.length : Int) ≤ 30) ∧ Ev (fun k => impl_BookOk.l2 k T (T.length : Int) i T L C) b := by
    intro i hi
    refine ⟨decide ((T.length : Int) ≤ 30), ⟨fun h => ⟨fun j h1 h2 => by omega, of_decide_eq_true h⟩, fun h => decide_eq_true h.2⟩, ev_unroll ?_⟩
    simp (disch := omega) only [impl_BookOk.l2, ↓if_pos, ↓if_neg, if_pos, if_neg, ↓reduceIte, w64, in_t, in_f, l1In_t, l1In_f, Option.bind_some, Bool.not_true, Bool.not_false, Bool.false_eq_true, tmod_nonneg, tdiv_nonneg]
    exact Ev.now _
  intro d
  induction d with
  | zero => exact fun i hd i0 => last i (by omega)
  | succ d ih =>
    intro i hd i0
    by_cases hi : i < (T.length : Int)
    · have no : ∀ h : ¬ TOk T L C i, (false = true ↔ (∀ j : Int, i ≤ j → j < (T.length : Int) → TOk T L C j) ∧ (T.length : Int) ≤ 30) := fun h => ⟨fun h2 => by simp at h2, fun h2 => absurd (h2.1 i (by omega) hi) h⟩
      by_cases c0 : 0 ≤ (rd_T50 T i).f0 ∧ (rd_T50 T i).f0 ≤ (L.length : Int) - 1
      · by_cases c1 : 0 ≤ (rd_T50 T i).f1 ∧ (rd_T50 T i).f1 ≤ (L.length : Int) - 1
        · by_cases c2 : -1 ≤ (rd_T50 T i).f2 ∧ (rd_T50 T i).f2 ≤ (C.length : Int) - 1
          · obtain ⟨b, o, p⟩ := ih (i + 1) (by omega) (by omega)
            refine ⟨b, o.trans ⟨fun h => ⟨fun j h1 h2 => ?_, h.2⟩, fun h => ⟨fun j h1 h2 => h.1 j (by omega) h2, h.2⟩⟩, ev_unroll ?_⟩
            · by_cases e : j = i
              · rw [e]; exact ⟨c0, c1, c2⟩
              · exact h.1 j (by omega) h2
            · simp (disch := omega) only [impl_BookOk.l2, ↓if_pos, ↓if_neg, if_pos, if_neg, ↓reduceIte, w64, in_t, in_f, l1In_t, l1In_f, Option.bind_some, Bool.not_true, Bool.not_false, Bool.false_eq_true, tmod_nonneg, tdiv_nonneg]
              exact p
          · refine ⟨false, no (fun h => c2 h.2.2), ev_unroll ?_⟩
            simp (disch := omega) only [impl_BookOk.l2, ↓if_pos, ↓if_neg, if_pos, if_neg, ↓reduceIte, w64, in_t, in_f, l1In_t, l1In_f, Option.bind_some, Bool.not_true, Bool.not_false, Bool.false_eq_true, tmod_nonneg, tdiv_nonneg]
            exact Ev.now _
        · refine ⟨false, no (fun h => c1 h.2.1), ev_unroll ?_⟩
          simp (disch := omega) only [impl_BookOk.l2, ↓if_pos, ↓if_neg, if_pos, if_neg, ↓reduceIte, w64, in_t, in_f, l1In_t, l1In_f, Option.bind_some, Bool.not_true, Bool.not_false, Bool.false_eq_true, tmod_nonneg, tdiv_nonneg]
          exact Ev.now _
      · refine ⟨false, no (fun h => c0 h.1), ev_unroll ?_⟩
        simp (disch := omega) only [impl_BookOk.l2, ↓if_pos, ↓if_neg, if_pos, if_neg, ↓reduceIte, w64, in_t, in_f, l1In_t, l1In_f, Option.bind_some, Bool.not_true, Bool.not_false, Bool.false_eq_true, tmod_nonneg, tdiv_nonneg]
        exact Ev.now _
    · exact last i (by omega)
theorem impl_b1 (l : List Int) (hl : l.length ≤ 1048576) (x13 : List (List Int)) (x15 : Int) (Q : Prop) (H : ∃ b : Bool, (b = true ↔ Q) ∧ Ev (fun k => impl_BookOk.l0 k x13 2 (wrap64 (x15 + 1)) T L C) b) : ∀ (d : Nat) (i : Int), (l.length : Int) - i ≤ d → 0 ≤ i → ∃ b : Bool, (b = true ↔ ((∀ j : Int, i ≤ j → j < (l.length : Int) → VOk l j) ∧ (l.length : Int) ≤ 30) ∧ Q) ∧ Ev (fun k => impl_BookOk.l1 k l x13 2 x15 l (l.length : Int) i T L C) b := by
  have last : ∀ i : Int, (l.length : Int) ≤ i → ∃ b : Bool, (b = true ↔ ((∀ j : Int, i ≤ j → j < (l.length : Int) → VOk l j) ∧ (l.length : Int) ≤ 30) ∧ Q) ∧ Ev (fun k => impl_BookOk.l1 k l x13 2 x15 l (l.length : Int) i T L C) b := by
    intro i hi
    by_cases h30 : (l.length : Int) > 30
    · refine ⟨false, ⟨fun h => by simp at h, fun h => by have := h.1.2; omega⟩, ev_unroll ?_⟩
      simp (disch := omega) only [impl_BookOk.l1, ↓if_pos, ↓if_neg, if_pos, if_neg, ↓reduceIte, w64, in_t, in_f, l1In_t, l1In_f, Option.bind_some, Bool.not_true, Bool.not_false, Bool.false_eq_true, tmod_nonneg, tdiv_nonneg]
      exact Ev.now _
    · obtain ⟨b, o, p⟩ := H
      refine ⟨b, o.trans ⟨fun h => ⟨⟨fun j h1 h2 => by omega, by omega⟩, h⟩, fun h => h.2⟩, ev_unroll ?_⟩
      simp (disch := omega) only [impl_BookOk.l1, ↓if_neg]
      exact p
  intro d
  induction d with
  | zero => exact fun i hd i0 => last i (by omega)
  | succ d ih =>
    intro i hd i0
    by_cases hi : i < (l.length : Int)
    · by_cases hv : -1 ≤ rd l i ∧ rd l i ≤ 30
      · obtain ⟨b, o, p⟩ := ih (i + 1) (by omega) (by omega)
        refine ⟨b, o.trans ⟨fun h => ⟨⟨fun j h1 h2 => ?_, h.1.2⟩, h.2⟩, fun h => ⟨⟨fun j h1 h2 => h.1.1 j (by omega) h2, h.1.2⟩, h.2⟩⟩, ev_unroll ?_⟩
        · by_cases e : j = i
          · rw [e]; exact hv
          · exact h.1.1 j (by omega) h2
        · simp (disch := omega) only [impl_BookOk.l1, ↓if_pos, ↓if_neg, if_pos, if_neg, ↓reduceIte, w64, in_t, in_f, l1In_t, l1In_f, Option.bind_some, Bool.not_true, Bool.not_false, Bool.false_eq_true, tmod_nonneg, tdiv_nonneg]
          exact p
      · refine ⟨false, ⟨fun h => by simp at h, fun h => absurd (h.1.1 i (by omega) hi) hv⟩, ev_unroll ?_⟩
        simp (disch := omega) only [impl_BookOk.l1, ↓if_pos, ↓if_neg, if_pos, if_neg, ↓reduceIte, w64, in_t, in_f, l1In_t, l1In_f, Option.bind_some, Bool.not_true, Bool.not_false, Bool.false_eq_true, tmod_nonneg, tdiv_nonneg]
        exact Ev.now _
    · exact last i (by omega)
theorem impl_b0 : ∃ b : Bool, (b = true ↔ ((∀ j : Int, 0 ≤ j → j < (L.length : Int) → VOk L j) ∧ (L.length : Int) ≤ 30) ∧ ((∀ j : Int, 0 ≤ j → j < (C.length : Int) → VOk C j) ∧ (C.length : Int) ≤ 30) ∧ (∀ j : Int, 0 ≤ j → j < (T.length : Int) → TOk T L C j) ∧ (T.length : Int) ≤ 30) ∧ Ev (fun k => impl_BookOk.f k T L C) b := by
  have h2 : ∃ b : Bool, (b = true ↔ (∀ j : Int, 0 ≤ j → j < (T.length : Int) → TOk T L C j) ∧ (T.length : Int) ≤ 30) ∧ Ev (fun k => impl_BookOk.l0 k [L, C] 2 (wrap64 (1 + 1)) T L C) b := by
    obtain ⟨b, o, p⟩ := impl_b2 T L C hT hL hC T.length 0 (by omega) (by omega)
    refine ⟨b, o, ev_unroll ?_⟩
    simp (disch := omega) only [impl_BookOk.l0, ↓if_pos, ↓if_neg, if_pos, if_neg, ↓reduceIte, w64, in_t, in_f, l1In_t, l1In_f, Option.bind_some, Bool.not_true, Bool.not_false, Bool.false_eq_true, tmod_nonneg, tdiv_nonneg]
    exact p
  have h1 : ∃ b : Bool, (b = true ↔ ((∀ j : Int, 0 ≤ j → j < (C.length : Int) → VOk C j) ∧ (C.length : Int) ≤ 30) ∧ (∀ j : Int, 0 ≤ j → j < (T.length : Int) → TOk T L C j) ∧ (T.length : Int) ≤ 30) ∧ Ev (fun k => impl_BookOk.l0 k [L, C] 2 (wrap64 (0 + 1)) T L C) b := by
    obtain ⟨b, o, p⟩ := impl_b1 T L C hT hL hC C hC [L, C] 1 _ h2 C.length 0 (by omega) (by omega)
    refine ⟨b, o, ev_unroll ?_⟩
    have e : wrap64 (0 + 1) = 1 := by unfold wrap64; omega
    rw [e]
    simp only [impl_BookOk.l0, show rd_L3 [L, C] 1 = C from rfl, show ((1 : Int) < 2) = True by simp, show ((0 : Int) ≤ 1) = True by simp, show ((1 : Int) < (([L, C] : List (List Int)).length : Int)) = True by simp, ↓reduceIte]
    exact p
  obtain ⟨b, o, p⟩ := impl_b1 T L C hT hL hC L hL [L, C] 0 _ h1 L.length 0 (by omega) (by omega)
  refine ⟨b, o, ?_⟩
  simp only [impl_BookOk.f, Option.bind_some, show ((([L, C] : List (List Int)).length : Nat) : Int) = 2 from rfl]
  refine ev_unroll ?_
  simp only [impl_BookOk.l0, show rd_L3 [L, C] 0 = L from rfl, show ((0 : Int) < 2) = True by simp, show ((0 : Int) ≤ 0) = True by simp, show ((0 : Int) < (([L, C] : List (List Int)).length : Int)) = True by simp, ↓reduceIte]
  exact p
end
theorem spec_ok (T : List S50) (L C : List Int) (hT : T.length ≤ 1048576) (hL : L.length ≤ 1048576) (hC : C.length ≤ 1048576) : ∃ b : Bool, (b = true ↔ ((T.length : Int) ≤ 30 ∧ (L.length : Int) ≤ 30 ∧ (C.length : Int) ≤ 30) ∧ (∀ j : Int, 0 ≤ j → j < (T.length : Int) → TOk T L C j) ∧ (∀ j : Int, 0 ≤ j → j < (L.length : Int) → VOk L j) ∧ (∀ j : Int, 0 ≤ j → j < (C.length : Int) → VOk C j)) ∧ Ev (fun k => spec_BookOk.f k T L C) b := by
  have no : ¬ ((T.length : Int) ≤ 30 ∧ (L.length : Int) ≤ 30 ∧ (C.length : Int) ≤ 30) → (false = true ↔ ((T.length : Int) ≤ 30 ∧ (L.length : Int) ≤ 30 ∧ (C.length : Int) ≤ 30) ∧ (∀ j : Int, 0 ≤ j → j < (T.length : Int) → TOk T L C j) ∧ (∀ j : Int, 0 ≤ j → j < (L.length : Int) → VOk L j) ∧ (∀ j : Int, 0 ≤ j → j < (C.length : Int) → VOk C j)) := fun h => ⟨fun h2 => by simp at h2, fun h2 => absurd h2.1 h⟩
  have fall : Ev (fun k => spec_BookOk.j0 k true T L C) false := by
    refine ev_unroll ?_
    simp only [spec_BookOk.j0, ↓reduceIte]
    exact Ev.now _
  by_cases c0 : (T.length : Int) > 30
  · refine ⟨false, no (by omega), ?_⟩
    simp only [spec_BookOk.f, if_pos c0]
    exact fall
  · by_cases c1 : (L.length : Int) > 30
    · refine ⟨false, no (by omega), ?_⟩
      simp only [spec_BookOk.f, if_neg c0, if_pos c1]
      exact fall
    · by_cases c2 : (C.length : Int) > 30
      · refine ⟨false, no (by omega), ?_⟩
        simp only [spec_BookOk.f, if_neg c0, if_neg c1, decide_eq_true c2]
        exact fall
      · obtain ⟨b, o, p⟩ := spec_b0 T L C hT hL hC T.length 0 (by omega) (by omega)
        refine ⟨b, o.trans ⟨fun h => ⟨⟨by omega, by omega, by omega⟩, h⟩, fun h => h.2⟩, ?_⟩
        simp only [spec_BookOk.f, if_neg c0, if_neg c1, decide_eq_false c2]
        refine ev_unroll ?_
        simp only [spec_BookOk.j0, Bool.false_eq_true, ↓reduceIte]
        exact p
theorem book_both0 (T : List S50) (L C : List Int) (hT : T.length ≤ 1048576) (hL : L.length ≤ 1048576) (hC : C.length ≤ 1048576) : ∃ b : Bool, Ev (fun k => spec_BookOk.f k T L C) b ∧ Ev (fun k => impl_BookOk.f k T L C) b := by
  obtain ⟨b, o, p⟩ := spec_ok T L C hT hL hC
  obtain ⟨b2, o2, q⟩ := impl_b0 T L C hT hL hC
  have e : b = b2 := by
    have h : b = true ↔ b2 = true := o.trans ⟨fun h => o2.2 ⟨⟨h.2.2.1, h.1.2.1⟩, ⟨h.2.2.2, h.1.2.2⟩, h.2.1, h.1.1⟩, fun h2 => by
      have h := o2.1 h2
      exact ⟨⟨h.2.2.2, h.1.2, h.2.1.2⟩, h.2.2.1, h.1.1, h.2.1.1⟩⟩
    cases b <;> cases b2 <;> simp_all
  subst e
  exact ⟨b, p, q⟩
def asTalk (t : S54) : S50 := ⟨t.f0, t.f1, t.f2⟩
theorem toTalkS_ev (x0 : List S54) (hn : x0.length ≤ 1048576) : Ev (fun k => laws_toTalkS.f k x0) (x0.map asTalk) := by
  have key : ∀ (d : Nat) (x3 : List S50) (i : Nat), x0.length - i = d → i ≤ x0.length → x3.length = x0.length → x3.take i = (x0.map asTalk).take i → Ev (fun k => laws_toTalkS.l0 k x0 x3 (i : Int)) (x0.map asTalk) := by
    intro d
    induction d with
    | zero =>
      intro x3 i hd hi hl ht
      have e : x3 = x0.map asTalk := by
        rw [List.take_of_length_le (by omega), List.take_of_length_le (by simp; omega)] at ht
        exact ht
      subst e
      refine ev_unroll ?_
      simp (disch := omega) only [laws_toTalkS.l0, ↓if_neg]
      exact Ev.now _
    | succ d ih =>
      intro x3 i hd hi hl ht
      have e : (x0.map asTalk).getD i z50 = (⟨(rd_T54 x0 (i : Int)).f0, (rd_T54 x0 (i : Int)).f1, (rd_T54 x0 (i : Int)).f2⟩ : S50) := by
        have hi2 : i < x0.length := by omega
        simp [rd_T54, asTalk, hi2]
      have hs := take_set_succ (l := x3) (m := x0.map asTalk) z50 (by simpa using hl) ht (by simp; omega)
      rw [e] at hs
      have h := ih _ (i + 1) (by omega) (by omega) (by simp [hl]) hs
      refine ev_unroll ?_
      simp (disch := omega) only [laws_toTalkS.l0, laws_toTalk.f, Option.bind_some, ↓if_pos, w64]
      simpa using h
  have h := key _ (List.replicate x0.length z50) 0 rfl (by omega) (by simp) (by simp)
  simp (disch := omega) only [laws_toTalkS.f, ↓if_pos]
  simpa using h
theorem eqTalkS_ev (x0 : List S50) (hn : x0.length ≤ 1048576) : Ev (fun k => laws_eqTalkS.f k x0 x0) true := by
  have key : ∀ (d : Nat) (i : Nat), x0.length - i = d → i ≤ x0.length → Ev (fun k => laws_eqTalkS.l0 k x0 x0 (i : Int)) true := by
    intro d
    induction d with
    | zero =>
      intro i hd hi
      refine ev_unroll ?_
      simp (disch := omega) only [laws_eqTalkS.l0, ↓if_neg]
      exact Ev.now _
    | succ d ih =>
      intro i hd hi
      have h := ih (i + 1) (by omega) (by omega)
      refine ev_unroll ?_
      simp (disch := omega) only [laws_eqTalkS.l0, laws_eqTalk.f, Option.bind_some, ↓if_pos, ↓reduceIte, w64]
      simpa using h
  have h := key _ 0 rfl (by omega)
  simp (disch := omega) only [laws_eqTalkS.f, ↓if_pos]
  simpa using h
theorem ev_ifpos {c : Prop} [Decidable c] {α : Type} {f g : Nat → Option α} {r : α} (h : c) (p : Ev f r) : Ev (fun n => if c then f n else g n) r := by simp only [if_pos h]; exact p
theorem ev_ifneg {c : Prop} [Decidable c] {α : Type} {f g : Nat → Option α} {r : α} (h : ¬ c) (p : Ev g r) : Ev (fun n => if c then f n else g n) r := by simp only [if_neg h]; exact p
/-- Both sides of BookOk, and what a yes says. -/
def InBook (T : List S50) (L C : List Int) : Prop := (T.length ≤ 30 ∧ L.length ≤ 30 ∧ C.length ≤ 30) ∧ ∀ j : Nat, (hj : j < T.length) → (0 ≤ T[j].f0 ∧ T[j].f0 < L.length) ∧ (0 ≤ T[j].f1 ∧ T[j].f1 < L.length) ∧ (-1 ≤ T[j].f2 ∧ T[j].f2 < C.length)
theorem book_both (T : List S50) (L C : List Int) (hT : T.length ≤ 1048576) (hL : L.length ≤ 1048576) (hC : C.length ≤ 1048576) : ∃ b : Bool, Ev (fun k => spec_BookOk.f k T L C) b ∧ Ev (fun k => impl_BookOk.f k T L C) b ∧ (b = true → InBook T L C) := by
  obtain ⟨b, o, p⟩ := spec_ok T L C hT hL hC
  obtain ⟨b2, p2, q2⟩ := book_both0 T L C hT hL hC
  obtain rfl := ev_unique p p2
  refine ⟨b, p, q2, fun hb => ?_⟩
  obtain ⟨⟨h1, h2, h3⟩, h4, _, _⟩ := o.mp hb
  refine ⟨⟨by omega, by omega, by omega⟩, fun j hj => ?_⟩
  have h := h4 (j : Int) (by omega) (by omega)
  unfold TOk at h
  rw [rd50_get T j hj] at h
  omega
theorem shares_eq (t u : S50) : spec_l18Shares.f t.f0 t.f1 t.f2 u.f0 u.f1 u.f2 = some (meetB t u) := meets_eq t u
/-- The first from i on of which p holds. -/
def ff (p : S50 → Bool) (T : List S50) (i : Nat) : Int := match (T.drop i).findIdx? p with
  | some j => ((i + j : Nat) : Int)
  | none => -1
theorem ff_end (p : S50 → Bool) (T : List S50) (i : Nat) (h : T.length ≤ i) : ff p T i = -1 := by
  unfold ff; rw [List.drop_eq_nil_of_le h]; rfl
theorem ff_step (p : S50 → Bool) (T : List S50) (i : Nat) (h : i < T.length) : ff p T i = if p T[i] = true then (i : Int) else ff p T (i + 1) := by
  unfold ff
  rw [List.drop_eq_getElem_cons h, List.findIdx?_cons]
  by_cases c : p T[i] = true
  · rw [if_pos c, if_pos c]; simp
  · rw [if_neg c, if_neg c]
    cases (T.drop (i + 1)).findIdx? p with
    | none => rfl
    | some j => simp; omega
theorem ff_ge (p : S50 → Bool) (T : List S50) (i : Nat) : -1 ≤ ff p T i ∧ ff p T i < T.length := by
  unfold ff
  cases h : (T.drop i).findIdx? p with
  | none => simp; omega
  | some j =>
    have := List.findIdx?_eq_some_iff_findIdx_eq.mp h
    simp at this ⊢
    omega
def pl (x : Nat) (t : S50) : Bool := decide (t.f0 = (x : Int)) || decide (t.f1 = (x : Int))
def pc (x : Nat) (t : S50) : Bool := decide (t.f2 = (x : Int))
def linesF (T : List S50) (n i : Nat) : List Int := (List.range n).map fun x => ff (pl x) T i
def circF (T : List S50) (n i : Nat) : List Int := (List.range n).map fun x => ff (pc x) T i
theorem linesF_len (T : List S50) (n i : Nat) : (linesF T n i).length = n := by simp [linesF]
theorem circF_len (T : List S50) (n i : Nat) : (circF T n i).length = n := by simp [circF]
theorem rd_linesF (T : List S50) (n i x : Nat) (h : x < n) : rd (linesF T n i) (x : Int) = ff (pl x) T i := by simp [rd, linesF, h]
theorem rd_circF (T : List S50) (n i x : Nat) (h : x < n) : rd (circF T n i) (x : Int) = ff (pc x) T i := by simp [rd, circF, h]
theorem linesF_step (T : List S50) (n i : Nat) (hi : i < T.length) (a0 : 0 ≤ T[i].f0) (b0 : 0 ≤ T[i].f1) : ((linesF T n (i + 1)).set T[i].f0.toNat (i : Int)).set T[i].f1.toNat (i : Int) = linesF T n i := by
  apply List.ext_getElem
  · simp [linesF]
  · intro x h1 h2
    have hx : x < n := by simpa [linesF] using h2
    simp only [List.getElem_set, linesF, List.getElem_map, List.getElem_range]
    rw [ff_step (pl x) T i hi]
    unfold pl
    by_cases c1 : T[i].f1.toNat = x
    · rw [if_pos c1, if_pos (by simp; omega)]
    · rw [if_neg c1]
      by_cases c2 : T[i].f0.toNat = x
      · rw [if_pos c2, if_pos (by simp; omega)]
      · rw [if_neg c2, if_neg (by simp; omega)]
theorem circF_step (T : List S50) (n i : Nat) (hi : i < T.length) (a0 : 0 ≤ T[i].f2) : (circF T n (i + 1)).set T[i].f2.toNat (i : Int) = circF T n i := by
  apply List.ext_getElem
  · simp [circF]
  · intro x h1 h2
    have hx : x < n := by simpa [circF] using h2
    simp only [List.getElem_set, circF, List.getElem_map, List.getElem_range]
    rw [ff_step (pc x) T i hi]
    unfold pc
    by_cases c1 : T[i].f2.toNat = x
    · rw [if_pos c1, if_pos (by simp; omega)]
    · rw [if_neg c1, if_neg (by simp; omega)]
theorem circF_skip (T : List S50) (n i : Nat) (hi : i < T.length) (a0 : T[i].f2 < 0) : circF T n (i + 1) = circF T n i := by
  unfold circF
  apply List.map_congr_left
  intro x _
  rw [ff_step (pc x) T i hi, if_neg]
  unfold pc
  simp; omega
theorem said_from (T : List S50) (L C : List Int) (hb : InBook T L C) : ∀ i : Nat, i ≤ T.length → Ev (fun k => impl_said.l0 k (linesF T L.length i) (circF T C.length i) ((i : Int) - 1) T L C) (linesF T L.length 0, circF T C.length 0) := by
  intro i
  induction i with
  | zero =>
    intro _
    refine ev_unroll ?_
    simp only [impl_said.l0, if_neg (show ¬ ((0 : Nat) : Int) - 1 ≥ 0 by decide)]
    exact Ev.now _
  | succ i ih =>
    intro hi
    have h := ih (by omega)
    obtain ⟨⟨a0, a1⟩, ⟨b0, b1⟩, c0, c1⟩ := hb.2 i (by omega)
    have hll := linesF_len T L.length (i + 1)
    have hcl := circF_len T C.length (i + 1)
    have hT := hb.1.1
    have hw := Aside0.mk (show wrap64 ((i : Int) - 1) = (i : Int) - 1 from w64 (by omega) (by omega))
    rw [show (((i + 1 : Nat) : Int) - 1) = (i : Int) by omega]
    refine ev_unroll ?_
    simp only [impl_said.l0, rd50_get T i (by omega), if_pos (show (i : Int) ≥ 0 by omega), if_pos (show (0 : Int) ≤ (i : Int) by omega), if_pos (show (i : Int) < (T.length : Int) by omega), if_pos a0, if_pos (show T[i].f0 < ((linesF T L.length (i + 1)).length : Int) by omega), if_pos b0, if_pos (show T[i].f1 < ((linesF T L.length (i + 1)).length : Int) by omega), Option.bind_some, linesF_step T L.length i (by omega) a0 b0, hw.out]
    by_cases hc : T[i].f2 ≥ 0
    · simp only [if_pos hc, if_pos (show 0 ≤ T[i].f2 from hc), if_pos (show T[i].f2 < ((circF T C.length (i + 1)).length : Int) by omega), circF_step T C.length i (by omega) hc]
      exact h
    · simp only [if_neg hc, circF_skip T C.length i (by omega) (by omega)]
      exact h
theorem linesF_end (T : List S50) (n : Nat) : List.replicate n (-1 : Int) = linesF T n T.length := by
  apply List.ext_getElem
  · simp [linesF]
  · intro x h1 h2
    simp [linesF, ff_end _ T T.length (Nat.le_refl _)]
theorem circF_end (T : List S50) (n : Nat) : List.replicate n (-1 : Int) = circF T n T.length := by
  apply List.ext_getElem
  · simp [circF]
  · intro x h1 h2
    simp [circF, ff_end _ T T.length (Nat.le_refl _)]
theorem said_ev (T : List S50) (L C : List Int) (hb : InBook T L C) : Ev (fun k => impl_said.f k T L C) (linesF T L.length 0, circF T C.length 0) := by
  have hT := hb.1
  have hrep : ∀ n : Nat, n ≤ 30 → Ev (fun k => slices_Repeat_int_int.f k ([(-1)] : List Int) (n : Int)) (List.replicate n (-1)) := by
    intro n hn
    refine ⟨0, fun k _ => ?_⟩
    show slices_Repeat_int_int.f k ([(-1)] : List Int) (n : Int) = _
    unfold slices_Repeat_int_int.f
    rw [if_pos (show ([(-1)] : List Int).length = 1 from rfl), if_pos (by omega), if_pos (by omega), Int.toNat_natCast]
    rfl
  unfold impl_said.f
  refine Ev.bind (hrep L.length hT.2.1) (Ev.bind (hrep C.length hT.2.2) ?_)
  have h := said_from T L C hb T.length (Nat.le_refl _)
  rw [← linesF_end, ← circF_end] at h
  rw [w64 (by omega) (by omega)]
  exact h
theorem first_ev (T : List S50) (L C : List Int) (hT : T.length ≤ 1048576) (x : Nat) (c : Bool) : Ev (fun k => spec_l18First.f k T L C (x : Int) c) (ff (if c = true then pc x else pl x) T 0) := by
  have key : ∀ d i : Nat, T.length - i ≤ d → Ev (fun k => spec_l18First.l0 k (x : Int) c (i : Int) T L C) (ff (if c = true then pc x else pl x) T i) := by
    intro d
    induction d with
    | zero =>
      intro i hd
      refine ev_unroll ?_
      simp only [spec_l18First.l0, if_neg (show ¬ (i : Int) < (T.length : Int) by omega), ff_end _ T i (by omega)]
      exact Ev.now _
    | succ d ih =>
      intro i hd
      by_cases hi : i < T.length
      · have h := ih (i + 1) (by omega)
        have hw := Aside0.mk (show wrap64 ((i : Int) + 1) = ((i + 1 : Nat) : Int) from (w64 (by omega) (by omega)).trans (by omega))
        rw [ff_step _ T i hi]
        refine ev_unroll ?_
        simp only [spec_l18First.l0, rd50_get T i hi, if_pos (show (i : Int) < (T.length : Int) by omega), if_pos (show (0 : Int) ≤ (i : Int) by omega), hw.out]
        cases c
        · simp only [Bool.false_eq_true, if_false] at h ⊢
          unfold pl at h ⊢
          by_cases c1 : T[i].f0 = (x : Int)
          · simp only [if_pos c1, decide_eq_true c1, Bool.true_or, if_true]
            exact Ev.now _
          · by_cases c2 : T[i].f1 = (x : Int)
            · simp only [if_neg c1, if_pos c2, decide_eq_true c2, Bool.or_true, if_true]
              exact Ev.now _
            · simp only [if_neg c1, if_neg c2, decide_eq_false c1, decide_eq_false c2, Bool.or_false, Bool.false_eq_true, if_false]
              exact h
        · simp only [if_true] at h ⊢
          unfold pc at h ⊢
          by_cases c1 : T[i].f2 = (x : Int)
          · simp only [if_pos c1, decide_eq_true c1, if_true]
            exact Ev.now _
          · simp only [if_neg c1, decide_eq_false c1, Bool.false_eq_true, if_false]
            exact h
      · refine ev_unroll ?_
        simp only [spec_l18First.l0, if_neg (show ¬ (i : Int) < (T.length : Int) by omega), ff_end _ T i (by omega)]
        exact Ev.now _
  have h := key T.length 0 (by omega)
  exact h
/-- What the reference tells of one list. -/
def saidF (T : List S50) (c : Bool) (n : Nat) : List Int := if c = true then circF T n 0 else linesF T n 0
theorem rd_saidF (T : List S50) (c : Bool) (n x : Nat) (h : x < n) : rd (saidF T c n) (x : Int) = ff (if c = true then pc x else pl x) T 0 := by
  cases c
  · exact rd_linesF T n 0 x h
  · exact rd_circF T n 0 x h
theorem told_ev (T : List S50) (L C : List Int) (hT : T.length ≤ 1048576) (l : List Int) (hl : l.length ≤ 1048576) (c : Bool) (k1 k2 : Int) :
    Ev (fun k => spec_l18Told.f k T L C l c k1 k2) (tolA l (saidF T c l.length) k1 l.length ++ tolB l (saidF T c l.length) k2 l.length) := by
  have l1 : ∀ (Z : List S69), Z.length ≤ 1048576 → ∀ d i : Nat, l.length - i ≤ d → i ≤ l.length → Ev (fun k => spec_l18Told.l1 k l c k2 (Z ++ tolB l (saidF T c l.length) k2 i) (i : Int) T L C) (Z ++ tolB l (saidF T c l.length) k2 l.length) := by
    intro Z hZ d
    have last : ∀ i : Nat, i = l.length → Ev (fun k => spec_l18Told.l1 k l c k2 (Z ++ tolB l (saidF T c l.length) k2 i) (i : Int) T L C) (Z ++ tolB l (saidF T c l.length) k2 l.length) := by
      intro i hi
      subst hi
      refine ev_unroll ?_
      simp only [spec_l18Told.l1, if_neg (show ¬ (l.length : Int) < (l.length : Int) by omega)]
      exact Ev.now _
    induction d with
    | zero => exact fun i hd hi => last i (by omega)
    | succ d ih =>
      intro i hd hi
      by_cases hlt : i < l.length
      · have h := ih (i + 1) (by omega) (by omega)
        have hw := Aside0.mk (show wrap64 ((i : Int) + 1) = ((i + 1 : Nat) : Int) from (w64 (by omega) (by omega)).trans (by omega))
        have hf := first_ev T L C hT i c
        have hs := rd_saidF T c l.length i hlt
        have hbl := tolB_len l (saidF T c l.length) k2 i
        rw [tolB, hs] at h
        generalize ff (if c = true then pc i else pl i) T 0 = F at hf h
        refine ev_unroll ?_
        simp only [spec_l18Told.l1, if_pos (show (i : Int) < (l.length : Int) by omega)]
        refine Ev.bind hf ?_
        by_cases c1 : F < 0
        · by_cases c2 : rd l (i : Int) ≥ 0
          · simp only [if_pos c1, if_pos (show (0 : Int) ≤ (i : Int) by omega), if_pos c2, hw.out]
            refine ev_ifpos (by rw [List.length_append]; omega) ?_
            rw [if_pos ⟨c1, c2⟩, ← List.append_assoc] at h
            exact h
          · simp only [if_pos c1, if_pos (show (0 : Int) ≤ (i : Int) by omega), if_neg c2, hw.out]
            rw [if_neg (fun h => c2 h.2), List.append_nil] at h
            exact h
        · simp only [if_neg c1, hw.out]
          rw [if_neg (fun h => c1 h.1), List.append_nil] at h
          exact h
      · exact last i (by omega)
  have l0 : ∀ d i : Nat, l.length - i ≤ d → i ≤ l.length → Ev (fun k => spec_l18Told.l0 k l c k1 k2 (tolA l (saidF T c l.length) k1 i) (i : Int) T L C) (tolA l (saidF T c l.length) k1 l.length ++ tolB l (saidF T c l.length) k2 l.length) := by
    intro d
    have last : ∀ i : Nat, i = l.length → Ev (fun k => spec_l18Told.l0 k l c k1 k2 (tolA l (saidF T c l.length) k1 i) (i : Int) T L C) (tolA l (saidF T c l.length) k1 l.length ++ tolB l (saidF T c l.length) k2 l.length) := by
      intro i hi
      subst hi
      refine ev_unroll ?_
      simp only [spec_l18Told.l0, if_neg (show ¬ (l.length : Int) < (l.length : Int) by omega)]
      have h := l1 (tolA l (saidF T c l.length) k1 l.length) (Nat.le_trans (tolA_len _ _ _ _) hl) l.length 0 (by omega) (by omega)
      rw [tolB, List.append_nil] at h
      exact h
    induction d with
    | zero => exact fun i hd hi => last i (by omega)
    | succ d ih =>
      intro i hd hi
      by_cases hlt : i < l.length
      · have h := ih (i + 1) (by omega) (by omega)
        have hw := Aside0.mk (show wrap64 ((i : Int) + 1) = ((i + 1 : Nat) : Int) from (w64 (by omega) (by omega)).trans (by omega))
        have hf := first_ev T L C hT i c
        have hs := rd_saidF T c l.length i hlt
        have hal := tolA_len l (saidF T c l.length) k1 i
        rw [tolA, hs] at h
        generalize ff (if c = true then pc i else pl i) T 0 = F at hf h
        refine ev_unroll ?_
        simp only [spec_l18Told.l0, if_pos (show (i : Int) < (l.length : Int) by omega)]
        refine Ev.bind hf ?_
        by_cases c1 : F ≥ 0
        · by_cases c2 : rd l (i : Int) = F
          · simp only [if_pos c1, if_pos (show (0 : Int) ≤ (i : Int) by omega), if_pos c2, hw.out]
            rw [if_neg (fun h => h.2 c2), List.append_nil] at h
            exact h
          · simp only [if_pos c1, if_pos (show (0 : Int) ≤ (i : Int) by omega), if_neg c2, hw.out]
            refine ev_ifpos (by omega) ?_
            rw [if_pos ⟨c1, c2⟩] at h
            exact h
        · simp only [if_neg c1, hw.out]
          rw [if_neg (fun h => c1 h.1), List.append_nil] at h
          exact h
      · exact last i (by omega)
  have h := l0 l.length 0 (by omega) (by omega)
  exact h
/-- All that is told of a book that is right. -/
def faultsL (T : List S50) (L C : List Int) : List S69 := twA T T.length ++ slA T T.length ++ tolA L (linesF T L.length 0) 3 L.length ++ tolB L (linesF T L.length 0) 4 L.length ++ tolA C (circF T C.length 0) 5 C.length ++ tolB C (circF T C.length 0) 6 C.length
theorem faultsL_len (T : List S50) (L C : List Int) (h : T.length ≤ 30 ∧ L.length ≤ 30 ∧ C.length ≤ 30) : (faultsL T L C).length ≤ 1000 := by
  have h1 := twA_len T T.length
  have h2 := slA_len T T.length
  have h3 := tolA_len L (linesF T L.length 0) 3 L.length
  have h4 := tolB_len L (linesF T L.length 0) 4 L.length
  have h5 := tolA_len C (circF T C.length 0) 5 C.length
  have h6 := tolB_len C (circF T C.length 0) 6 C.length
  unfold faultsL
  simp only [List.length_append]
  omega
theorem drop_any (t : S50) (T : List S50) (i j : Nat) (hj : j < i) (hi : i ≤ T.length) : ((T.take i).drop j).any (meetB t) = (meetB t (rd_T50 T (j : Int)) || ((T.take i).drop (j + 1)).any (meetB t)) := by
  have hl : j < (T.take i).length := by rw [List.length_take]; omega
  rw [rd50_get T j (by omega), List.drop_eq_getElem_cons hl, List.any_cons, List.getElem_take]
theorem spec_faults_ev (T : List S50) (L C : List Int) (hb : InBook T L C) (hB : Ev (fun k => spec_BookOk.f k T L C) true) : Ev (fun k => spec_Faults.f k T L C) (faultsL T L C) := by
  have hT := hb.1
  have t1 := told_ev T L C (by omega) L (by omega) false 3 4
  have t2 := told_ev T L C (by omega) C (by omega) true 5 6
  have e1 : saidF T false L.length = linesF T L.length 0 := rfl
  have e2 : saidF T true C.length = circF T C.length 0 := rfl
  rw [e1] at t1
  rw [e2] at t2
  have ltw := twA_len T
  have lsl := slA_len T
  have l2 : ∀ d i : Nat, T.length - i ≤ d → i ≤ T.length → Ev (fun k => spec_Faults.l2 k (twA T T.length ++ slA T i) (i : Int) T L C) (faultsL T L C) := by
    intro d
    have last : ∀ i : Nat, i = T.length → Ev (fun k => spec_Faults.l2 k (twA T T.length ++ slA T i) (i : Int) T L C) (faultsL T L C) := by
      intro i hi
      subst hi
      have q1 := ltw T.length
      have q2 := lsl T.length
      have q3 := tolA_len L (linesF T L.length 0) 3 L.length
      have q4 := tolB_len L (linesF T L.length 0) 4 L.length
      have q5 := tolA_len C (circF T C.length 0) 5 C.length
      have q6 := tolB_len C (circF T C.length 0) 6 C.length
      refine ev_unroll ?_
      simp only [spec_Faults.l2, if_neg (show ¬ (T.length : Int) < (T.length : Int) by omega)]
      refine Ev.bind t1 ?_
      refine ev_ifpos (by simp only [List.length_append]; omega) ?_
      simp only [Option.bind_some]
      refine Ev.bind t2 ?_
      refine ev_ifpos (by simp only [List.length_append]; omega) ?_
      refine ev_eq (Ev.now _) ?_
      unfold faultsL
      simp only [List.append_assoc]
    induction d with
    | zero => exact fun i hd hi => last i (by omega)
    | succ d ih =>
      intro i hd hi
      by_cases hlt : i < T.length
      · have h := ih (i + 1) (by omega) (by omega)
        have hw := Aside0.mk (show wrap64 ((i : Int) + 1) = ((i + 1 : Nat) : Int) from (w64 (by omega) (by omega)).trans (by omega))
        have q1 := ltw T.length
        have q2 := lsl i
        rw [slA] at h
        refine ev_unroll ?_
        simp only [spec_Faults.l2, if_pos (show (i : Int) < (T.length : Int) by omega), if_pos (show (0 : Int) ≤ (i : Int) by omega), hw.out]
        by_cases c1 : (rd_T50 T (i : Int)).f0 = (rd_T50 T (i : Int)).f1
        · rw [if_pos c1, ← List.append_assoc] at h
          simp only [if_pos c1]
          refine ev_ifpos (by simp only [List.length_append]; omega) ?_
          exact h
        · rw [if_neg c1, List.append_nil] at h
          simp only [if_neg c1]
          exact h
      · exact last i (by omega)
  have l0 : ∀ d i : Nat, T.length - i ≤ d → i ≤ T.length → Ev (fun k => spec_Faults.l0 k (twA T i) (i : Int) T L C) (faultsL T L C) := by
    intro d
    have last : ∀ i : Nat, i = T.length → Ev (fun k => spec_Faults.l0 k (twA T i) (i : Int) T L C) (faultsL T L C) := by
      intro i hi
      subst hi
      refine ev_unroll ?_
      simp only [spec_Faults.l0, if_neg (show ¬ (T.length : Int) < (T.length : Int) by omega)]
      have h := l2 T.length 0 (by omega) (by omega)
      rw [slA, List.append_nil] at h
      exact h
    induction d with
    | zero => exact fun i hd hi => last i (by omega)
    | succ d ih =>
      intro i hd hi
      by_cases hlt : i < T.length
      · have h := ih (i + 1) (by omega) (by omega)
        have hw := Aside0.mk (show wrap64 ((i : Int) + 1) = ((i + 1 : Nat) : Int) from (w64 (by omega) (by omega)).trans (by omega))
        have q1 := ltw i
        rw [twA] at h
        have inner : ∀ e j : Nat, i - j ≤ e → j ≤ i → ((T.take i).drop j).any (meetB (rd_T50 T (i : Int))) = (T.take i).any (meetB (rd_T50 T (i : Int))) → Ev (fun k => spec_Faults.l1 k (twA T i) (i : Int) (j : Int) T L C) (faultsL T L C) := by
          intro e
          have stop : ∀ j : Nat, j = i → ((T.take i).drop j).any (meetB (rd_T50 T (i : Int))) = (T.take i).any (meetB (rd_T50 T (i : Int))) → Ev (fun k => spec_Faults.l1 k (twA T i) (i : Int) (j : Int) T L C) (faultsL T L C) := by
            intro j hj ha
            subst hj
            rw [List.drop_eq_nil_of_le (by rw [List.length_take]; omega), List.any_nil] at ha
            rw [← ha, if_neg (by decide), List.append_nil] at h
            refine ev_unroll ?_
            simp only [spec_Faults.l1, if_neg (show ¬ (j : Int) < (j : Int) by omega), hw.out]
            exact h
          induction e with
          | zero => exact fun j hd2 hj ha => stop j (by omega) ha
          | succ e ihe =>
            intro j hd2 hj ha
            by_cases hjl : j < i
            · have hw2 := Aside0.mk (show wrap64 ((j : Int) + 1) = ((j + 1 : Nat) : Int) from (w64 (by omega) (by omega)).trans (by omega))
              have hda := drop_any (rd_T50 T (i : Int)) T i j hjl (by omega)
              rw [hda] at ha
              have hsh := shares_eq (rd_T50 T (i : Int)) (rd_T50 T (j : Int))
              refine ev_unroll ?_
              simp only [spec_Faults.l1, if_pos (show (j : Int) < (i : Int) by omega), if_pos (show (0 : Int) ≤ (i : Int) by omega), if_pos (show (i : Int) < (T.length : Int) by omega), if_pos (show (0 : Int) ≤ (j : Int) by omega), if_pos (show (j : Int) < (T.length : Int) by omega), hsh, Option.bind_some, hw.out, hw2.out]
              cases hm : meetB (rd_T50 T (i : Int)) (rd_T50 T (j : Int))
              · simp only [Bool.false_eq_true, if_false]
                rw [hm, Bool.false_or] at ha
                exact ihe (j + 1) (by omega) (by omega) ha
              · rw [hm, Bool.true_or] at ha
                rw [← ha, if_pos rfl] at h
                simp only [if_true]
                refine ev_ifpos (by omega) ?_
                exact h
            · exact stop j (by omega) ha
        refine ev_unroll ?_
        simp only [spec_Faults.l0, if_pos (show (i : Int) < (T.length : Int) by omega)]
        have h3 := inner i 0 (by omega) (by omega) (by rw [List.drop_zero])
        exact h3
      · exact last i (by omega)
  unfold spec_Faults.f
  simp only [Option.bind_some]
  refine Ev.bind hB ?_
  simp only [if_true]
  have h := l0 T.length 0 (by omega) (by omega)
  rw [twA] at h
  exact h
/-- Both sides of Faults. -/
theorem faults_both (T : List S50) (L C : List Int) (hT : T.length ≤ 1048576) (hL : L.length ≤ 1048576) (hC : C.length ≤ 1048576) : ∃ r : List S69, r.length ≤ 1000 ∧ Ev (fun k => spec_Faults.f k T L C) r ∧ Ev (fun k => impl_Faults.f k T L C) r := by
  obtain ⟨b, p, q, hb⟩ := book_both T L C hT hL hC
  cases b
  · refine ⟨[⟨7, 0⟩], by decide, ?_, ?_⟩
    · unfold spec_Faults.f
      simp only [Option.bind_some]
      refine Ev.bind p ?_
      simp only [Bool.false_eq_true, if_false]
      refine ev_ifpos (by decide) ?_
      exact Ev.now _
    · unfold impl_Faults.f
      refine Ev.bind q ?_
      simp only [Bool.false_eq_true, if_false]
      exact Ev.now _
  · have hbk := hb rfl
    refine ⟨faultsL T L C, faultsL_len T L C hbk.1, spec_faults_ev T L C hbk p, ?_⟩
    unfold impl_Faults.f
    refine Ev.bind q ?_
    have hT2 := hbk.1
    simp only [if_true]
    refine ev_ifpos ⟨by omega, by omega, by omega⟩ ?_
    refine Ev.bind (said_ev T L C hbk) ?_
    refine ev_ifpos ⟨linesF_len _ _ _, circF_len _ _ _⟩ ?_
    exact Ev.now _
/-- What a marked list of talks holds. -/
def marksT (m : Int) (n : Nat) : List S50 := (List.range n).map fun (j : Nat) => (⟨m + 3 * (j : Int), m + 3 * (j : Int) + 1, m + 3 * (j : Int) + 1 + 1⟩ : S50)
theorem marksT_length (m : Int) (n : Nat) : (marksT m n).length = n := by simp [marksT]
theorem rd_marksT (m : Int) (n i : Nat) (h : i < n) : rd_T50 (marksT m n) (i : Int) = ⟨m + 3 * (i : Int), m + 3 * (i : Int) + 1, m + 3 * (i : Int) + 1 + 1⟩ := by simp [rd_T50, marksT, h]
theorem take_set50 (y : List S50) (M : List S50) (i : Nat) (hy : i < y.length) (hM : i < M.length) (h : y.take i = M.take i) : (y.set i (M[i])).take (i + 1) = M.take (i + 1) := by
  rw [List.take_succ_eq_append_getElem (by simpa using hy), List.take_succ_eq_append_getElem hM, List.take_set_of_le (Nat.le_refl _), h]
  simp
theorem rd50_set (l : List S50) (i : Nat) (v : S50) (h : i < l.length) : rd_T50 (l.set i v) (i : Int) = v := by simp [rd_T50, h]
theorem markTalkS_ev (x0 : List S50) (m : Int) (h0 : 0 ≤ m) (h1 : m ≤ 100000000) (hn : x0.length ≤ 1048576) : Ev (fun k => laws_markTalkS.f k x0 m) (m + 3 * (x0.length : Int), marksT m x0.length) := by
  have hML := marksT_length m x0.length
  have key : ∀ (d i : Nat) (y : List S50), x0.length - i ≤ d → i ≤ x0.length → y.length = x0.length → y.take i = (marksT m x0.length).take i → Ev (fun k => laws_markTalkS.l0 k y (m + 3 * (i : Int)) (i : Int)) (m + 3 * (x0.length : Int), marksT m x0.length) := by
    intro d
    have last : ∀ (i : Nat) (y : List S50), i = x0.length → y.length = x0.length → y.take i = (marksT m x0.length).take i → Ev (fun k => laws_markTalkS.l0 k y (m + 3 * (i : Int)) (i : Int)) (m + 3 * (x0.length : Int), marksT m x0.length) := by
      intro i y hi hy ht
      subst hi
      rw [List.take_of_length_le (by omega), List.take_of_length_le (by omega)] at ht
      rw [ht]
      refine ev_unroll ?_
      simp only [laws_markTalkS.l0, if_neg (show ¬ (x0.length : Int) < ((marksT m x0.length).length : Int) by omega)]
      exact Ev.now _
    induction d with
    | zero => exact fun i y hd hi hy ht => last i y (by omega) hy ht
    | succ d ih =>
      intro i y hd hi hy ht
      by_cases hlt : i < x0.length
      · have hg : (marksT m x0.length)[i]'(by omega) = ⟨m + 3 * (i : Int), m + 3 * (i : Int) + 1, m + 3 * (i : Int) + 1 + 1⟩ := by simp [marksT]
        have hts := take_set50 y (marksT m x0.length) i (by omega) (by omega) ht
        rw [hg] at hts
        have h := ih (i + 1) (((y.set i (⟨m + 3 * (i : Int), (rd_T50 y (i : Int)).f1, (rd_T50 y (i : Int)).f2⟩ : S50)).set i (⟨m + 3 * (i : Int), m + 3 * (i : Int) + 1, (rd_T50 y (i : Int)).f2⟩ : S50)).set i (⟨m + 3 * (i : Int), m + 3 * (i : Int) + 1, m + 3 * (i : Int) + 1 + 1⟩ : S50)) (by omega) (by omega) (by simp [hy]) (by rw [List.set_set, List.set_set]; exact hts)
        have w1 := Aside0.mk (show wrap64 (m + 3 * (i : Int) + 1) = m + 3 * (i : Int) + 1 from w64 (by omega) (by omega))
        have w2 := Aside0.mk (show wrap64 (m + 3 * (i : Int) + 1 + 1) = m + 3 * (i : Int) + 1 + 1 from w64 (by omega) (by omega))
        have w3 := Aside0.mk (show wrap64 (m + 3 * (i : Int) + 1 + 1 + 1) = m + 3 * ((i + 1 : Nat) : Int) from (w64 (by omega) (by omega)).trans (by omega))
        have hw := Aside0.mk (show wrap64 ((i : Int) + 1) = ((i + 1 : Nat) : Int) from (w64 (by omega) (by omega)).trans (by omega))
        refine ev_unroll ?_
        simp only [laws_markTalkS.l0, if_pos (show (i : Int) < (y.length : Int) by omega), if_pos (show (0 : Int) ≤ (i : Int) by omega), Option.bind_some, Int.toNat_natCast, w1.out, w2.out, w3.out, hw.out]
        rw [rd50_set y i _ (by omega), rd50_set _ i _ (by rw [List.length_set]; omega)]
        exact h
      · exact last i y (by omega) hy ht
  have h := key x0.length 0 x0 (by omega) (by omega) rfl (by simp)
  simp only [laws_markTalkS.f]
  simpa using h
theorem heldTalkS_ev (m : Int) (h0 : 0 ≤ m) (h1 : m ≤ 100000000) (n : Nat) (hn : n ≤ 1048576) : Ev (fun k => laws_heldTalkS.f k (marksT m n) m) (m + 3 * (n : Int)) := by
  have hML := marksT_length m n
  have key : ∀ (d i : Nat), n - i ≤ d → i ≤ n → Ev (fun k => laws_heldTalkS.l0 k (marksT m n) (m + 3 * (i : Int)) (i : Int)) (m + 3 * (n : Int)) := by
    intro d
    have last : ∀ i : Nat, i = n → Ev (fun k => laws_heldTalkS.l0 k (marksT m n) (m + 3 * (i : Int)) (i : Int)) (m + 3 * (n : Int)) := by
      intro i hi
      subst hi
      refine ev_unroll ?_
      simp only [laws_heldTalkS.l0, if_neg (show ¬ (i : Int) < ((marksT m i).length : Int) by omega)]
      exact Ev.now _
    induction d with
    | zero => exact fun i hd hi => last i (by omega)
    | succ d ih =>
      intro i hd hi
      by_cases hlt : i < n
      · have h := ih (i + 1) (by omega) (by omega)
        have hr := rd_marksT m n i hlt
        have w1 := Aside0.mk (show wrap64 (m + 3 * (i : Int) + 1) = m + 3 * (i : Int) + 1 from w64 (by omega) (by omega))
        have w2 := Aside0.mk (show wrap64 (m + 3 * (i : Int) + 1 + 1) = m + 3 * (i : Int) + 1 + 1 from w64 (by omega) (by omega))
        have w3 := Aside0.mk (show wrap64 (m + 3 * (i : Int) + 1 + 1 + 1) = m + 3 * ((i + 1 : Nat) : Int) from (w64 (by omega) (by omega)).trans (by omega))
        have hw := Aside0.mk (show wrap64 ((i : Int) + 1) = ((i + 1 : Nat) : Int) from (w64 (by omega) (by omega)).trans (by omega))
        refine ev_unroll ?_
        simp only [laws_heldTalkS.l0, if_pos (show (i : Int) < ((marksT m n).length : Int) by omega), if_pos (show (0 : Int) ≤ (i : Int) by omega), hr, w1.out, w2.out, w3.out, hw.out, if_true]
        exact h
      · exact last i (by omega)
  have h := key n 0 (by omega) (by omega)
  simp only [laws_heldTalkS.f]
  simpa using h
theorem markBook_ev (T : List S50) (L C : List Int) (hT : T.length ≤ 1048576) (hL : L.length ≤ 1048576) (hC : C.length ≤ 1048576) : Ev (fun k => laws_markBook.f k T L C 1) (1 + 3 * (T.length : Int) + L.length + C.length, marksT 1 T.length, marks (1 + 3 * (T.length : Int)) L.length, marks (1 + 3 * (T.length : Int) + L.length) C.length) := by
  unfold laws_markBook.f
  refine Ev.bind (markTalkS_ev T 1 (by decide) (by decide) hT) (Ev.bind (markIntS_ev L _ (by omega) (by omega) hL) (Ev.bind (markIntS_ev C _ (by omega) (by omega) hC) ?_))
  exact Ev.now _
theorem heldBook_ev (a b c : Nat) (ha : a ≤ 1048576) (hb : b ≤ 1048576) (hc : c ≤ 1048576) : Ev (fun k => laws_heldBook.f k (marksT 1 a) (marks (1 + 3 * (a : Int)) b) (marks (1 + 3 * (a : Int) + b) c) 1) (1 + 3 * (a : Int) + b + c) := by
  unfold laws_heldBook.f
  refine Ev.bind (heldTalkS_ev 1 (by decide) (by decide) a ha) ?_
  refine ev_ifneg (by omega) ?_
  refine Ev.bind (heldIntS_ev b _ (by omega) (by omega) hb) ?_
  refine ev_ifneg (by omega) ?_
  refine Ev.bind (heldIntS_ev c _ (by omega) (by omega) hc) ?_
  refine ev_ifneg (by omega) ?_
  exact Ev.now _
theorem szBook_some (T : List S54) (L C : List Int) (hT : T.length ≤ maxLen) (hL : L.length ≤ maxLen) (hC : C.length ≤ maxLen) : ∃ v, laws_szBook.f T L C 1048576 = some v ∧ (¬ v < 0 → T.length ≤ 1048576 ∧ L.length ≤ 1048576 ∧ C.length ≤ 1048576) := by
  have hM : maxLen = 9223372036854775807 := rfl
  simp only [laws_szBook.f, laws_szTalkS.f, laws_szIntS.f]
  by_cases c0 : 1048576 - (T.length : Int) < 0
  · simp (disch := omega) only [w64, ↓if_pos, Option.bind_some]
    exact ⟨_, rfl, fun h => absurd (by decide) h⟩
  by_cases c1 : 1048576 - (T.length : Int) - (L.length : Int) < 0
  · simp (disch := omega) only [w64, ↓if_pos, ↓if_neg, Option.bind_some]
    exact ⟨_, rfl, fun h => absurd (by decide) h⟩
  by_cases c2 : 1048576 - (T.length : Int) - (L.length : Int) - (C.length : Int) < 0
  · simp (disch := omega) only [w64, ↓if_pos, ↓if_neg, Option.bind_some]
    exact ⟨_, rfl, fun h => absurd (by decide) h⟩
  simp (disch := omega) only [w64, ↓if_pos, ↓if_neg, Option.bind_some]
  exact ⟨_, rfl, fun _ => by omega⟩
theorem toBook_ev (T : List S54) (L C : List Int) (hT : T.length ≤ 1048576) (hL : L.length ≤ 1048576) (hC : C.length ≤ 1048576) : Ev (fun k => laws_toBook.f k T L C) (T.map asTalk, L, C) := by
  simp only [laws_toBook.f]
  exact Ev.bind (toTalkS_ev T hT) (Ev.bind (toIntS_ev L hL) (Ev.bind (toIntS_ev C hC) (Ev.now _)))
theorem eqBook_ev (T : List S50) (L C : List Int) (hT : T.length ≤ 1048576) (hL : L.length ≤ 1048576) (hC : C.length ≤ 1048576) : Ev (fun k => laws_eqBook.f k T L C T L C) true := by
  simp only [laws_eqBook.f]
  refine Ev.bind (eqTalkS_ev T hT) ?_
  simp only [↓reduceIte]
  refine Ev.bind (eqIntS_ev L hL) ?_
  simp only [↓reduceIte]
  refine Ev.bind (eqIntS_ev C hC) ?_
  simp only [↓reduceIte]
  exact Ev.now _
def TkIn (a b : Nat) (t : S50) : Prop := (0 ≤ t.f0 ∧ t.f0 < a) ∧ (0 ≤ t.f1 ∧ t.f1 < a) ∧ (-1 ≤ t.f2 ∧ t.f2 < b)
theorem inBook_of (T : List S50) (L C : List Int) (h1 : T.length ≤ 30) (h2 : L.length ≤ 30) (h3 : C.length ≤ 30) (h : ∀ t ∈ T, TkIn L.length C.length t) : InBook T L C := ⟨⟨h1, h2, h3⟩, fun j hj => h T[j] (List.getElem_mem hj)⟩
theorem of_inBook (T : List S50) (L C : List Int) (h : InBook T L C) : ∀ t ∈ T, TkIn L.length C.length t := fun t ht => by
  obtain ⟨j, hj, rfl⟩ := List.getElem_of_mem ht
  exact h.2 j hj
theorem linesF_succ (T : List S50) (n i : Nat) : linesF T n i ++ [ff (pl n) T i] = linesF T (n + 1) i := by simp [linesF, List.range_succ]
theorem circF_succ (T : List S50) (n i : Nat) : circF T n i ++ [ff (pc n) T i] = circF T (n + 1) i := by simp [circF, List.range_succ]
theorem write_ev (T : List S50) (a b : Nat) (hT : T.length ≤ 30) (ha : a ≤ 30) (hb : b ≤ 30) : Ev (fun k => spec_l18Write.f k T (a : Int) (b : Int)) (T, linesF T a 0, circF T b 0) := by
  have l1 : ∀ (X : List Int) (d i : Nat), b - i ≤ d → i ≤ b → Ev (fun k => spec_l18Write.l1 k (b : Int) (i : Int) T X (circF T i 0)) (T, X, circF T b 0) := by
    intro X d
    have last : ∀ i : Nat, i = b → Ev (fun k => spec_l18Write.l1 k (b : Int) (i : Int) T X (circF T i 0)) (T, X, circF T b 0) := by
      intro i hi
      subst hi
      refine ev_unroll ?_
      simp only [spec_l18Write.l1, if_neg (show ¬ (i : Int) < (i : Int) by omega)]
      exact Ev.now _
    induction d with
    | zero => exact fun i hd hi => last i (by omega)
    | succ d ih =>
      intro i hd hi
      by_cases hlt : i < b
      · have h := ih (i + 1) (by omega) (by omega)
        have hw := Aside0.mk (show wrap64 ((i : Int) + 1) = ((i + 1 : Nat) : Int) from (w64 (by omega) (by omega)).trans (by omega))
        have hcl := circF_len T i 0
        refine ev_unroll ?_
        simp only [spec_l18Write.l1, if_pos (show (i : Int) < (b : Int) by omega)]
        refine Ev.bind (first_ev T X (circF T i 0) (by omega) i true) ?_
        simp only [if_true, if_pos (show (circF T i 0).length < 17592186044416 by omega), circF_succ, hw.out]
        exact h
      · exact last i (by omega)
  have l0 : ∀ (d i : Nat), a - i ≤ d → i ≤ a → Ev (fun k => spec_l18Write.l0 k (a : Int) (b : Int) (i : Int) T (linesF T i 0)) (T, linesF T a 0, circF T b 0) := by
    intro d
    have last : ∀ i : Nat, i = a → Ev (fun k => spec_l18Write.l0 k (a : Int) (b : Int) (i : Int) T (linesF T i 0)) (T, linesF T a 0, circF T b 0) := by
      intro i hi
      subst hi
      have h := l1 (linesF T i 0) b 0 (by omega) (by omega)
      refine ev_unroll ?_
      simp only [spec_l18Write.l0, if_neg (show ¬ (i : Int) < (i : Int) by omega)]
      exact h
    induction d with
    | zero => exact fun i hd hi => last i (by omega)
    | succ d ih =>
      intro i hd hi
      by_cases hlt : i < a
      · have h := ih (i + 1) (by omega) (by omega)
        have hw := Aside0.mk (show wrap64 ((i : Int) + 1) = ((i + 1 : Nat) : Int) from (w64 (by omega) (by omega)).trans (by omega))
        have hcl := linesF_len T i 0
        refine ev_unroll ?_
        simp only [spec_l18Write.l0, if_pos (show (i : Int) < (a : Int) by omega)]
        refine Ev.bind (first_ev T (linesF T i 0) ([] : List Int) (by omega) i false) ?_
        simp only [Bool.false_eq_true, if_false, if_pos (show (linesF T i 0).length < 17592186044416 by omega), linesF_succ, hw.out]
        exact h
      · exact last i (by omega)
  have h := l0 a 0 (by omega) (by omega)
  simp only [spec_l18Write.f, Option.bind_some, List.length_nil, Nat.zero_add, List.nil_append, if_pos (show T.length < 5864062014805 by omega)]
  exact h
theorem copy_ev (T : List S50) (L C : List Int) (hT : T.length ≤ 1048576) (hL : L.length ≤ 1048576) (hC : C.length ≤ 1048576) : spec_l18Copy.f T L C = some (T, L, C) := by
  simp only [spec_l18Copy.f, Option.bind_some, List.length_nil, Nat.zero_add, if_pos (show T.length < 5864062014805 by omega), if_pos (show L.length < 17592186044416 by omega), if_pos (show C.length < 17592186044416 by omega), List.nil_append]
theorem own_ev (T : List S50) (L C : List Int) (hT : T.length ≤ 1048576) (hL : L.length ≤ 1048576) (hC : C.length ≤ 1048576) : Ev (fun k => impl_ownBook.f k T L C) (T, L, C) := by
  simp only [impl_ownBook.f, impl_Talk_66.f, slices_Clone_int_int.f, if_pos hT, if_pos hL, if_pos hC, Option.bind_some]
  exact Ev.now _
theorem in_eq2 (x a b : Int) : impl_in.f x a b = some (decide (a ≤ x ∧ x ≤ b)) := by
  unfold impl_in.f
  by_cases h : x ≥ a
  · rw [if_pos h]; congr 1; simp [show a ≤ x from h]
  · rw [if_neg h, decide_eq_false (fun h2 => h h2.1)]
theorem l1In_eq2 (x a b : Int) : spec_l1In.f x a b = some (decide (a ≤ x ∧ x ≤ b)) := in_eq2 x a b
/-- What stands behind the reference's look at the parts. -/
theorem spec_loop (T : List S50) (L C : List Int) (t : S50) (hT : T.length ≤ 29) (hL : L.length ≤ 30) (hC : C.length ≤ 30) : ∀ (d i : Nat), T.length - i ≤ d → i ≤ T.length →
    Ev (fun k => spec_Add18.l0 k (i : Int) T L C t.f0 t.f1 t.f2) (if (T.drop i).any (meetB t) = true then (T, L, C, false) else (T ++ [t], linesF (T ++ [t]) L.length 0, circF (T ++ [t]) C.length 0, true)) := by
  have hw := write_ev (T ++ [t]) L.length C.length (by simp; omega) hL hC
  intro d
  have last : ∀ i : Nat, i = T.length → Ev (fun k => spec_Add18.l0 k (i : Int) T L C t.f0 t.f1 t.f2) (if (T.drop i).any (meetB t) = true then (T, L, C, false) else (T ++ [t], linesF (T ++ [t]) L.length 0, circF (T ++ [t]) C.length 0, true)) := by
    intro i hi
    rw [hi, List.drop_length]
    simp only [List.any_nil, Bool.false_eq_true, if_false]
    refine ev_unroll ?_
    simp only [spec_Add18.l0, if_neg (show ¬ (T.length : Int) < (T.length : Int) by omega), if_pos (show T.length < 5864062014805 by omega)]
    refine Ev.bind hw ?_
    exact Ev.now _
  induction d with
  | zero => exact fun i hd hi => last i (by omega)
  | succ d ih =>
    intro i hd hi
    by_cases hlt : i < T.length
    · have e1 : rd_T50 T (i : Int) = T[i] := by simp [rd_T50, hlt]
      have h := ih (i + 1) (by omega) (by omega)
      rw [List.drop_eq_getElem_cons hlt, List.any_cons]
      refine ev_unroll ?_
      simp only [spec_Add18.l0, if_pos (show (i : Int) < (T.length : Int) by omega), if_pos (show (0 : Int) ≤ (i : Int) by omega), e1, shares_eq, Option.bind_some, w64 (x := (i : Int) + 1) (by omega) (by omega)]
      cases hm : meetB t T[i]
      · simp only [Bool.false_eq_true, if_false, Bool.false_or]
        simpa using h
      · simp only [if_true, Bool.true_or]
        exact Ev.now _
    · exact last i (by omega)
theorem add18_both (T : List S50) (L C : List Int) (t : S50) (hT : T.length ≤ 1048576) (hL : L.length ≤ 1048576) (hC : C.length ≤ 1048576) : ∃ (a : List S50) (b c : List Int) (o : Bool), (a.length ≤ 1048576 ∧ b.length ≤ 1048576 ∧ c.length ≤ 1048576) ∧ Ev (fun k => spec_Add18.f k T L C t.f0 t.f1 t.f2) (a, b, c, o) ∧ Ev (fun k => impl_Add18.f k T L C t.f0 t.f1 t.f2) (a, b, c, o) := by
  obtain ⟨r, hr, ps, pi⟩ := faults_both T L C hT hL hC
  have hcp := copy_ev T L C hT hL hC
  have hown := own_ev T L C hT hL hC
  have no : Ev (fun k => spec_Add18.j0 k true T L C t.f0 t.f1 t.f2) (T, L, C, false) := ev_unroll (by simp only [spec_Add18.j0, if_true]; exact Ev.now _)
  have sS : ∀ (g : Nat → List S69 → Option (List S50 × List Int × List Int × Bool)) (q : List S50 × List Int × List Int × Bool), True := fun _ _ => trivial
  by_cases h1 : (r.length : Int) > 0
  · refine ⟨T, L, C, false, ⟨hT, hL, hC⟩, ?_, ?_⟩
    · simp only [spec_Add18.f, hcp, Option.bind_some]
      refine Ev.bind ps ?_
      simp only [if_pos h1]
      exact no
    · simp only [impl_Add18.f]
      refine Ev.bind hown (Ev.bind pi ?_)
      simp only [if_pos h1]
      exact Ev.now _
  by_cases h2 : (T.length : Int) = 30
  · refine ⟨T, L, C, false, ⟨hT, hL, hC⟩, ?_, ?_⟩
    · simp only [spec_Add18.f, hcp, Option.bind_some]
      refine Ev.bind ps ?_
      simp only [if_neg h1, if_pos h2]
      exact no
    · simp only [impl_Add18.f]
      refine Ev.bind hown (Ev.bind pi ?_)
      simp only [if_neg h1, if_pos h2]
      exact Ev.now _
  -- a book without faults is one
  have hb : InBook T L C := by
    obtain ⟨b, p, q, hb⟩ := book_both T L C hT hL hC
    cases b
    · have hz : Ev (fun k => impl_Faults.f k T L C) [(⟨7, 0⟩ : S69)] := by
        unfold impl_Faults.f
        refine Ev.bind q ?_
        simp only [Bool.false_eq_true, if_false]
        exact Ev.now _
      have e := ev_unique pi hz
      rw [e] at h1
      simp at h1
    · exact hb rfl
  have n := hb.1
  have wL : wrap64 ((L.length : Int) - 1) = (L.length : Int) - 1 := w64 (by omega) (by omega)
  have wC : wrap64 ((C.length : Int) - 1) = (C.length : Int) - 1 := w64 (by omega) (by omega)
  by_cases hA : 0 ≤ t.f0 ∧ t.f0 ≤ (L.length : Int) - 1
  · by_cases hB : 0 ≤ t.f1 ∧ t.f1 ≤ (L.length : Int) - 1
    · by_cases hc : -1 ≤ t.f2 ∧ t.f2 ≤ (C.length : Int) - 1
      · by_cases he : t.f0 = t.f1
        · refine ⟨T, L, C, false, ⟨hT, hL, hC⟩, ?_, ?_⟩
          · simp only [spec_Add18.f, hcp, Option.bind_some]
            refine Ev.bind ps ?_
            simp only [if_neg h1, if_neg h2, if_pos he]
            exact no
          · simp only [impl_Add18.f]
            refine Ev.bind hown (Ev.bind pi ?_)
            simp only [if_neg h1, if_neg h2, wL, wC, in_eq2, decide_eq_true hA, decide_eq_true hB, decide_eq_true hc, Option.bind_some, if_true, if_pos he]
            exact Ev.now _
        · have hin : InBook (T ++ [t]) L C := inBook_of _ L C (by simp; omega) n.2.1 n.2.2 (fun u hu => by
            rcases List.mem_append.mp hu with hu | hu
            · exact of_inBook T L C hb u hu
            · simp only [List.mem_singleton] at hu
              subst hu
              exact ⟨⟨hA.1, by omega⟩, ⟨hB.1, by omega⟩, ⟨hc.1, by omega⟩⟩)
          have hsd := said_ev (T ++ [t]) L C hin
          have hsp := spec_loop T L C t (by omega) n.2.1 n.2.2 T.length 0 (by omega) (by omega)
          simp only [List.drop_zero] at hsp
          have spec : ∀ q, Ev (fun k => spec_Add18.l0 k 0 T L C t.f0 t.f1 t.f2) q → Ev (fun k => spec_Add18.f k T L C t.f0 t.f1 t.f2) q := by
            intro q hq
            simp only [spec_Add18.f, hcp, Option.bind_some]
            refine Ev.bind ps ?_
            simp only [if_neg h1, if_neg h2, if_neg he, wL, wC, l1In_eq2, decide_eq_true hA, decide_eq_true hB, decide_eq_true hc, Option.bind_some, if_true, Bool.not_true]
            refine ev_unroll ?_
            simp only [spec_Add18.j0, Bool.false_eq_true, if_false]
            exact hq
          cases hm : T.any (meetB t)
          · rw [hm] at hsp
            simp only [Bool.false_eq_true, if_false] at hsp
            refine ⟨T ++ [t], linesF (T ++ [t]) L.length 0, circF (T ++ [t]) C.length 0, true, ⟨by simp; omega, by rw [linesF_len]; omega, by rw [circF_len]; omega⟩, spec _ hsp, ?_⟩
            simp only [impl_Add18.f]
            refine Ev.bind hown (Ev.bind pi ?_)
            simp only [if_neg h1, if_neg h2, wL, wC, in_eq2, decide_eq_true hA, decide_eq_true hB, decide_eq_true hc, Option.bind_some, if_true, if_neg he, impl_Talk_42.f, if_pos hT, hm, Bool.false_eq_true, if_false, if_pos (show T.length < 5864062014805 by omega)]
            refine Ev.bind hsd ?_
            exact Ev.now _
          · rw [hm] at hsp
            simp only [if_true] at hsp
            refine ⟨T, L, C, false, ⟨hT, hL, hC⟩, spec _ hsp, ?_⟩
            simp only [impl_Add18.f]
            refine Ev.bind hown (Ev.bind pi ?_)
            simp only [if_neg h1, if_neg h2, wL, wC, in_eq2, decide_eq_true hA, decide_eq_true hB, decide_eq_true hc, Option.bind_some, if_true, if_neg he, impl_Talk_42.f, if_pos hT, hm]
            exact Ev.now _
      · refine ⟨T, L, C, false, ⟨hT, hL, hC⟩, ?_, ?_⟩
        · simp only [spec_Add18.f, hcp, Option.bind_some]
          refine Ev.bind ps ?_
          simp only [if_neg h1, if_neg h2, wL, wC, l1In_eq2, decide_eq_true hA, decide_eq_true hB, decide_eq_false hc, Option.bind_some, if_true, Bool.not_false]
          split <;> exact no
        · simp only [impl_Add18.f]
          refine Ev.bind hown (Ev.bind pi ?_)
          simp only [if_neg h1, if_neg h2, wL, wC, in_eq2, decide_eq_true hA, decide_eq_true hB, decide_eq_false hc, Option.bind_some, if_true, Bool.false_eq_true, if_false]
          exact Ev.now _
    · refine ⟨T, L, C, false, ⟨hT, hL, hC⟩, ?_, ?_⟩
      · simp only [spec_Add18.f, hcp, Option.bind_some]
        refine Ev.bind ps ?_
        simp only [if_neg h1, if_neg h2, wL, wC, l1In_eq2, decide_eq_true hA, decide_eq_false hB, Option.bind_some, if_true, Bool.false_eq_true, if_false]
        split <;> exact no
      · simp only [impl_Add18.f]
        refine Ev.bind hown (Ev.bind pi ?_)
        simp only [if_neg h1, if_neg h2, wL, wC, in_eq2, decide_eq_true hA, decide_eq_false hB, Option.bind_some, if_true, Bool.false_eq_true, if_false]
        exact Ev.now _
  · refine ⟨T, L, C, false, ⟨hT, hL, hC⟩, ?_, ?_⟩
    · simp only [spec_Add18.f, hcp, Option.bind_some]
      refine Ev.bind ps ?_
      simp only [if_neg h1, if_neg h2, wL, wC, l1In_eq2, decide_eq_false hA, Option.bind_some, Bool.false_eq_true, if_false]
      split <;> exact no
    · simp only [impl_Add18.f]
      refine Ev.bind hown (Ev.bind pi ?_)
      simp only [if_neg h1, if_neg h2, wL, wC, in_eq2, decide_eq_false hA, Option.bind_some, Bool.false_eq_true, if_false]
      exact Ev.now _
def laws_FnExactAdd18.Pure : Prop := ∀ (T : List S54) (L C : List Int) (a b c : Int), T.length ≤ maxLen → L.length ≤ maxLen → C.length ≤ maxLen → ∃ k, laws_FnExactAdd18.f k T L C a b c = some true
theorem FnExactAdd18 : laws_FnExactAdd18.Pure := by
  intro T L C x y z hT hL hC
  refine Ev.rounds (g := fun k => laws_FnExactAdd18.f k T L C x y z) ?_
  obtain ⟨v, hv, hsm⟩ := szBook_some T L C hT hL hC
  unfold laws_FnExactAdd18.f
  simp only [hv, Option.bind_some, laws_toTalk.f]
  by_cases hb : v < 0
  · simp only [if_pos hb]
    exact Ev.now _
  simp only [if_neg hb]
  obtain ⟨nT, nL, nC⟩ := hsm hb
  have ht := toBook_ev T L C nT nL nC
  have hl : (T.map asTalk).length ≤ 1048576 := by simpa using nT
  obtain ⟨a, b, c, o, ⟨ha, hbl, hc⟩, p, q⟩ := add18_both (T.map asTalk) L C ⟨x, y, z⟩ hl nL nC
  have hre := eqBook_ev a b c (by omega) (by omega) (by omega)
  have hmk := markBook_ev a b c (by omega) (by omega) (by omega)
  have hhb := heldBook_ev a.length b.length c.length (by omega) (by omega) (by omega)
  refine Ev.bind ht (Ev.bind p (Ev.bind ht (Ev.bind q (Ev.bind hre ?_))))
  simp only [↓reduceIte, bne_self_eq_false]
  refine ev_unroll ?_
  simp only [laws_FnExactAdd18.j0, Bool.false_eq_true, ↓reduceIte]
  refine Ev.bind ht (Ev.bind (eqBook_ev _ L C hl nL nC) ?_)
  simp only [↓reduceIte]
  refine Ev.bind (markBook_ev (T.map asTalk) L C hl nL nC) ?_
  refine ev_ifneg (by simp only; omega) ?_
  refine Ev.bind hre ?_
  simp only [↓reduceIte, bne_self_eq_false]
  refine ev_unroll ?_
  simp only [laws_FnExactAdd18.j1, Bool.false_eq_true, ↓reduceIte]
  refine Ev.bind hmk (Ev.bind hhb ?_)
  refine ev_ifneg (by omega) ?_
  simp only [↓reduceIte, laws_toTalk.f, Option.bind_some]
  refine Ev.bind ht (Ev.bind q (Ev.bind hre ?_))
  simp only [↓reduceIte, bne_self_eq_false]
  refine ev_unroll ?_
  simp only [laws_FnExactAdd18.j2, Bool.false_eq_true, ↓reduceIte]
  refine Ev.bind hhb ?_
  refine ev_ifneg (by omega) ?_
  simp only [↓reduceIte]
  exact Ev.now _

end Go.Proofs.Ytngnkfpciloamaa.Pure
