/- The law FnExactBookOk: for all books the program's BookOk and the reference's tell the same, and the book stays as it was. -/
import Derived.Test.YthhbeekokbcnfaaMFnExactBookOkx5
import Derived.Test.YthhbeekokbcnfaaKit
namespace Go.Proofs.Ythhbeekokbcnfaa.Pure
set_option linter.unusedSimpArgs false
set_option linter.unusedVariables false
set_option linter.unusedSectionVars false
open Go Go.RowKit Go.Proofs.Ythhbeekokbcnfaa.MFnExactBookOk Go.Proofs.YthhbeekokbcnfaaW.PrintWords Go.Proofs.YthhbeekokbcnfaaW.PrintLast Go.Proofs.Ythhbeekokbcnfaa.Mine

theorem toIntS_ev (x0 : List Int) (hn : x0.length ≤ 1048576) : Ev (fun k => laws_toIntS.f k x0) x0 := by
  have key : ∀ (d : Nat) (x3 : List Int) (i : Nat), x0.length - i = d → i ≤ x0.length → x3.length = x0.length → x3.take i = x0.take i → Ev (fun k => laws_toIntS.l0 k x0 x3 (i : Int)) x0 := by
    intro d
    induction d with
    | zero =>
      intro x3 i hd hi hl ht
      have e : x3 = x0 := by
        have h : i = x0.length := by omega
        rw [h, List.take_length, ← hl, List.take_length] at ht
        exact ht
      subst e
      refine ev_unroll ?_
      simp (disch := omega) only [laws_toIntS.l0, ↓if_neg]
      exact Ev.now _
    | succ d ih =>
      intro x3 i hd hi hl ht
      refine ev_unroll ?_
      simp (disch := omega) only [laws_toIntS.l0, ↓if_pos, w64]
      have h := ih (x3.set i (rd x0 i)) (i + 1) (by omega) (by omega) (by simp [hl]) (by rw [rd_nat]; exact take_set_succ 0 hl ht (by omega))
      simpa using h
  have h := key _ (List.replicate x0.length 0) 0 rfl (by omega) (by simp) (by simp)
  simp (disch := omega) only [laws_toIntS.f, ↓if_pos]
  simpa using h
theorem eqIntS_ev (x0 : List Int) (hn : x0.length ≤ 1048576) : Ev (fun k => laws_eqIntS.f k x0 x0) true := by
  have key : ∀ (d : Nat) (i : Nat), x0.length - i = d → i ≤ x0.length → Ev (fun k => laws_eqIntS.l0 k x0 x0 (i : Int)) true := by
    intro d
    induction d with
    | zero =>
      intro i hd hi
      refine ev_unroll ?_
      simp (disch := omega) only [laws_eqIntS.l0, ↓if_neg]
      exact Ev.now _
    | succ d ih =>
      intro i hd hi
      refine ev_unroll ?_
      simp (disch := omega) only [laws_eqIntS.l0, ↓if_pos, w64]
      have h := ih (i + 1) (by omega) (by omega)
      simpa using h
  have h := key _ 0 rfl (by omega)
  simp (disch := omega) only [laws_eqIntS.f, ↓if_pos]
  simpa using h
theorem in_t {a b c : Int} (h : b ≤ a) (h2 : a ≤ c) : impl_in.f a b c = some true := by
  unfold impl_in.f
  rw [if_pos (by omega)]; simp [h2]
theorem in_f {a b c : Int} (h : ¬ (b ≤ a ∧ a ≤ c)) : impl_in.f a b c = some false := by
  unfold impl_in.f
  by_cases g : a ≥ b
  · rw [if_pos g]; simp; omega
  · rw [if_neg g]
theorem l1In_t {a b c : Int} (h : b ≤ a) (h2 : a ≤ c) : spec_l1In.f a b c = some true := by
  unfold spec_l1In.f
  rw [if_pos (by omega)]; simp [h2]
theorem l1In_f {a b c : Int} (h : ¬ (b ≤ a ∧ a ≤ c)) : spec_l1In.f a b c = some false := by
  unfold spec_l1In.f
  by_cases g : a ≥ b
  · rw [if_pos g]; simp; omega
  · rw [if_neg g]
def VOk (L : List Int) (i : Int) : Prop := -1 ≤ rd L i ∧ rd L i ≤ 30
def TOk (T : List S72) (L C : List Int) (i : Int) : Prop := (0 ≤ (rd_T72 T i).f0 ∧ (rd_T72 T i).f0 ≤ (L.length : Int) - 1) ∧ (0 ≤ (rd_T72 T i).f1 ∧ (rd_T72 T i).f1 ≤ (L.length : Int) - 1) ∧ (-1 ≤ (rd_T72 T i).f2 ∧ (rd_T72 T i).f2 ≤ (C.length : Int) - 1)
section
variable (T : List S72) (L C : List Int) (hT : T.length ≤ 1048576) (hL : L.length ≤ 1048576) (hC : C.length ≤ 1048576)
include hT hL hC
theorem spec_b2 : ∀ (d : Nat) (i : Int), (C.length : Int) - i ≤ d → 0 ≤ i → ∃ b : Bool, (b = true ↔ ∀ j : Int, i ≤ j → j < (C.length : Int) → VOk C j) ∧ Ev (fun k => spec_BookOk.l2 k i T L C) b := by
  have last : ∀ i : Int, (C.length : Int) ≤ i → ∃ b : Bool, (b = true ↔ ∀ j : Int, i ≤ j → j < (C.length : Int) → VOk C j) ∧ Ev (fun k => spec_BookOk.l2 k i T L C) b := by
    intro i hi
    refine ⟨true, ⟨fun _ j h1 h2 => by omega, fun _ => rfl⟩, ev_unroll ?_⟩
    simp (disch := omega) only [spec_BookOk.l2, ↓if_pos, ↓if_neg, if_pos, if_neg, ↓reduceIte, w64, in_t, in_f, l1In_t, l1In_f, Option.bind_some, Bool.not_true, Bool.not_false, Bool.false_eq_true, tmod_nonneg, tdiv_nonneg]
    exact Ev.now _
  intro d
  induction d with
  | zero => exact fun i hd i0 => last i (by omega)
  | succ d ih =>
    intro i hd i0
    by_cases hi : i < (C.length : Int)
    · by_cases hv : -1 ≤ rd C i ∧ rd C i ≤ 30
      · obtain ⟨b, o, p⟩ := ih (i + 1) (by omega) (by omega)
        refine ⟨b, o.trans ⟨fun h j h1 h2 => ?_, fun h j h1 h2 => h j (by omega) h2⟩, ev_unroll ?_⟩
        · by_cases e : j = i
          · rw [e]; exact hv
          · exact h j (by omega) h2
        · simp (disch := omega) only [spec_BookOk.l2, ↓if_pos, ↓if_neg, if_pos, if_neg, ↓reduceIte, w64, in_t, in_f, l1In_t, l1In_f, Option.bind_some, Bool.not_true, Bool.not_false, Bool.false_eq_true, tmod_nonneg, tdiv_nonneg]
          exact p
      · refine ⟨false, ⟨fun h => by simp at h, fun h => absurd (h i (by omega) hi) hv⟩, ev_unroll ?_⟩
        simp (disch := omega) only [spec_BookOk.l2, ↓if_pos, ↓if_neg, if_pos, if_neg, ↓reduceIte, w64, in_t, in_f, l1In_t, l1In_f, Option.bind_some, Bool.not_true, Bool.not_false, Bool.false_eq_true, tmod_nonneg, tdiv_nonneg]
        exact Ev.now _
    · exact last i (by omega)
theorem spec_b1 : ∀ (d : Nat) (i : Int), (L.length : Int) - i ≤ d → 0 ≤ i → ∃ b : Bool, (b = true ↔ (∀ j : Int, i ≤ j → j < (L.length : Int) → VOk L j) ∧ (∀ j : Int, 0 ≤ j → j < (C.length : Int) → VOk C j)) ∧ Ev (fun k => spec_BookOk.l1 k i T L C) b := by
  have last : ∀ i : Int, (L.length : Int) ≤ i → ∃ b : Bool, (b = true ↔ (∀ j : Int, i ≤ j → j < (L.length : Int) → VOk L j) ∧ (∀ j : Int, 0 ≤ j → j < (C.length : Int) → VOk C j)) ∧ Ev (fun k => spec_BookOk.l1 k i T L C) b := by
    intro i hi
    obtain ⟨b, o, p⟩ := spec_b2 T L C hT hL hC C.length 0 (by omega) (by omega)
    refine ⟨b, o.trans ⟨fun h => ⟨fun j h1 h2 => by omega, h⟩, fun h => h.2⟩, ev_unroll ?_⟩
    simp (disch := omega) only [spec_BookOk.l1, ↓if_pos, ↓if_neg, if_pos, if_neg, ↓reduceIte, w64, in_t, in_f, l1In_t, l1In_f, Option.bind_some, Bool.not_true, Bool.not_false, Bool.false_eq_true, tmod_nonneg, tdiv_nonneg]
    exact p
  intro d
  induction d with
  | zero => exact fun i hd i0 => last i (by omega)
  | succ d ih =>
    intro i hd i0
    by_cases hi : i < (L.length : Int)
    · by_cases hv : -1 ≤ rd L i ∧ rd L i ≤ 30
      · obtain ⟨b, o, p⟩ := ih (i + 1) (by omega) (by omega)
        refine ⟨b, o.trans ⟨fun h => ⟨fun j h1 h2 => ?_, h.2⟩, fun h => ⟨fun j h1 h2 => h.1 j (by omega) h2, h.2⟩⟩, ev_unroll ?_⟩
        · by_cases e : j = i
          · rw [e]; exact hv
          · exact h.1 j (by omega) h2
        · simp (disch := omega) only [spec_BookOk.l1, ↓if_pos, ↓if_neg, if_pos, if_neg, ↓reduceIte, w64, in_t, in_f, l1In_t, l1In_f, Option.bind_some, Bool.not_true, Bool.not_false, Bool.false_eq_true, tmod_nonneg, tdiv_nonneg]
          exact p
      · refine ⟨false, ⟨fun h => by simp at h, fun h => absurd (h.1 i (by omega) hi) hv⟩, ev_unroll ?_⟩
        simp (disch := omega) only [spec_BookOk.l1, ↓if_pos, ↓if_neg, if_pos, if_neg, ↓reduceIte, w64, in_t, in_f, l1In_t, l1In_f, Option.bind_some, Bool.not_true, Bool.not_false, Bool.false_eq_true, tmod_nonneg, tdiv_nonneg]
        exact Ev.now _
    · exact last i (by omega)
theorem spec_b0 : ∀ (d : Nat) (i : Int), (T.length : Int) - i ≤ d → 0 ≤ i → ∃ b : Bool, (b = true ↔ (∀ j : Int, i ≤ j → j < (T.length : Int) → TOk T L C j) ∧ ((∀ j : Int, 0 ≤ j → j < (L.length : Int) → VOk L j) ∧ (∀ j : Int, 0 ≤ j → j < (C.length : Int) → VOk C j))) ∧ Ev (fun k => spec_BookOk.l0 k i T L C) b := by
  have last : ∀ i : Int, (T.length : Int) ≤ i → ∃ b : Bool, (b = true ↔ (∀ j : Int, i ≤ j → j < (T.length : Int) → TOk T L C j) ∧ ((∀ j : Int, 0 ≤ j → j < (L.length : Int) → VOk L j) ∧ (∀ j : Int, 0 ≤ j → j < (C.length : Int) → VOk C j))) ∧ Ev (fun k => spec_BookOk.l0 k i T L C) b := by
    intro i hi
    obtain ⟨b, o, p⟩ := spec_b1 T L C hT hL hC L.length 0 (by omega) (by omega)
    refine ⟨b, o.trans ⟨fun h => ⟨fun j h1 h2 => by omega, h⟩, fun h => h.2⟩, ev_unroll ?_⟩
    simp (disch := omega) only [spec_BookOk.l0, ↓if_pos, ↓if_neg, if_pos, if_neg, ↓reduceIte, w64, in_t, in_f, l1In_t, l1In_f, Option.bind_some, Bool.not_true, Bool.not_false, Bool.false_eq_true, tmod_nonneg, tdiv_nonneg]
    exact p
  intro d
  induction d with
  | zero => exact fun i hd i0 => last i (by omega)
  | succ d ih =>
    intro i hd i0
    by_cases hi : i < (T.length : Int)
    · have no : ∀ h : ¬ TOk T L C i, (false = true ↔ (∀ j : Int, i ≤ j → j < (T.length : Int) → TOk T L C j) ∧ ((∀ j : Int, 0 ≤ j → j < (L.length : Int) → VOk L j) ∧ (∀ j : Int, 0 ≤ j → j < (C.length : Int) → VOk C j))) := fun h => ⟨fun h2 => by simp at h2, fun h2 => absurd (h2.1 i (by omega) hi) h⟩
      by_cases c0 : 0 ≤ (rd_T72 T i).f0 ∧ (rd_T72 T i).f0 ≤ (L.length : Int) - 1
      · by_cases c1 : 0 ≤ (rd_T72 T i).f1 ∧ (rd_T72 T i).f1 ≤ (L.length : Int) - 1
        · by_cases c2 : -1 ≤ (rd_T72 T i).f2 ∧ (rd_T72 T i).f2 ≤ (C.length : Int) - 1
          · obtain ⟨b, o, p⟩ := ih (i + 1) (by omega) (by omega)
            refine ⟨b, o.trans ⟨fun h => ⟨fun j h1 h2 => ?_, h.2⟩, fun h => ⟨fun j h1 h2 => h.1 j (by omega) h2, h.2⟩⟩, ev_unroll ?_⟩
            · by_cases e : j = i
              · rw [e]; exact ⟨c0, c1, c2⟩
              · exact h.1 j (by omega) h2
            · simp (disch := omega) only [spec_BookOk.l0, ↓if_pos, ↓if_neg, if_pos, if_neg, ↓reduceIte, w64, in_t, in_f, l1In_t, l1In_f, Option.bind_some, Bool.not_true, Bool.not_false, Bool.false_eq_true, tmod_nonneg, tdiv_nonneg]
              exact p
          · refine ⟨false, no (fun h => c2 h.2.2), ev_unroll ?_⟩
            simp (disch := omega) only [spec_BookOk.l0, ↓if_pos, ↓if_neg, if_pos, if_neg, ↓reduceIte, w64, in_t, in_f, l1In_t, l1In_f, Option.bind_some, Bool.not_true, Bool.not_false, Bool.false_eq_true, tmod_nonneg, tdiv_nonneg]
            exact Ev.now _
        · refine ⟨false, no (fun h => c1 h.2.1), ev_unroll ?_⟩
          simp (disch := omega) only [spec_BookOk.l0, ↓if_pos, ↓if_neg, if_pos, if_neg, ↓reduceIte, w64, in_t, in_f, l1In_t, l1In_f, Option.bind_some, Bool.not_true, Bool.not_false, Bool.false_eq_true, tmod_nonneg, tdiv_nonneg]
          exact Ev.now _
      · refine ⟨false, no (fun h => c0 h.1), ev_unroll ?_⟩
        simp (disch := omega) only [spec_BookOk.l0, ↓if_pos, ↓if_neg, if_pos, if_neg, ↓reduceIte, w64, in_t, in_f, l1In_t, l1In_f, Option.bind_some, Bool.not_true, Bool.not_false, Bool.false_eq_true, tmod_nonneg, tdiv_nonneg]
        exact Ev.now _
    · exact last i (by omega)
theorem impl_b2 : ∀ (d : Nat) (i : Int), (T.length : Int) - i ≤ d → 0 ≤ i → ∃ b : Bool, (b = true ↔ (∀ j : Int, i ≤ j → j < (T.length : Int) → TOk T L C j) ∧ (T.length : Int) ≤ 30) ∧ Ev (fun k => impl_BookOk.l2 k T (T.length : Int) i T L C) b := by
  have last : ∀ i : Int, (T.length : Int) ≤ i → ∃ b : Bool, (b = true ↔ (∀ j : Int, i ≤ j → j < (T.length : Int) → TOk T L C j) ∧ (T.length : Int) ≤ 30) ∧ Ev (fun k => impl_BookOk.l2 k T (T.length : Int) i T L C) b := by
    intro i hi
    refine ⟨decide ((T.length : Int) ≤ 30), ⟨fun h => ⟨fun j h1 h2 => by omega, of_decide_eq_true h⟩, fun h => decide_eq_true h.2⟩, ev_unroll ?_⟩
    simp (disch := omega) only [impl_BookOk.l2, ↓if_pos, ↓if_neg, if_pos, if_neg, ↓reduceIte, w64, in_t, in_f, l1In_t, l1In_f, Option.bind_some, Bool.not_true, Bool.not_false, Bool.false_eq_true, tmod_nonneg, tdiv_nonneg]
    exact Ev.now _
  intro d
  induction d with
  | zero => exact fun i hd i0 => last i (by omega)
  | succ d ih =>
    intro i hd i0
    by_cases hi : i < (T.length : Int)
    · have no : ∀ h : ¬ TOk T L C i, (false = true ↔ (∀ j : Int, i ≤ j → j < (T.length : Int) → TOk T L C j) ∧ (T.length : Int) ≤ 30) := fun h => ⟨fun h2 => by simp at h2, fun h2 => absurd (h2.1 i (by omega) hi) h⟩
      by_cases c0 : 0 ≤ (rd_T72 T i).f0 ∧ (rd_T72 T i).f0 ≤ (L.length : Int) - 1
      · by_cases c1 : 0 ≤ (rd_T72 T i).f1 ∧ (rd_T72 T i).f1 ≤ (L.length : Int) - 1
        · by_cases c2 : -1 ≤ (rd_T72 T i).f2 ∧ (rd_T72 T i).f2 ≤ (C.length : Int) - 1
          · obtain ⟨b, o, p⟩ := ih (i + 1) (by omega) (by omega)
            refine ⟨b, o.trans ⟨fun h => ⟨fun j h1 h2 => ?_, h.2⟩, fun h => ⟨fun j h1 h2 => h.1 j (by omega) h2, h.2⟩⟩, ev_unroll ?_⟩
            · by_cases e : j = i
              · rw [e]; exact ⟨c0, c1, c2⟩
              · exact h.1 j (by omega) h2
            · simp (disch := omega) only [impl_BookOk.l2, ↓if_pos, ↓if_neg, if_pos, if_neg, ↓reduceIte, w64, in_t, in_f, l1In_t, l1In_f, Option.bind_some, Bool.not_true, Bool.not_false, Bool.false_eq_true, tmod_nonneg, tdiv_nonneg]
              exact p
          · refine ⟨false, no (fun h => c2 h.2.2), ev_unroll ?_⟩
            simp (disch := omega) only [impl_BookOk.l2, ↓if_pos, ↓if_neg, if_pos, if_neg, ↓reduceIte, w64, in_t, in_f, l1In_t, l1In_f, Option.bind_some, Bool.not_true, Bool.not_false, Bool.false_eq_true, tmod_nonneg, tdiv_nonneg]
            exact Ev.now _
        · refine ⟨false, no (fun h => c1 h.2.1), ev_unroll ?_⟩
          simp (disch := omega) only [impl_BookOk.l2, ↓if_pos, ↓if_neg, if_pos, if_neg, ↓reduceIte, w64, in_t, in_f, l1In_t, l1In_f, Option.bind_some, Bool.not_true, Bool.not_false, Bool.false_eq_true, tmod_nonneg, tdiv_nonneg]
          exact Ev.now _
      · refine ⟨false, no (fun h => c0 h.1), ev_unroll ?_⟩
        simp (disch := omega) only [impl_BookOk.l2, ↓if_pos, ↓if_neg, if_pos, if_neg, ↓reduceIte, w64, in_t, in_f, l1In_t, l1In_f, Option.bind_some, Bool.not_true, Bool.not_false, Bool.false_eq_true, tmod_nonneg, tdiv_nonneg]
        exact Ev.now _
    · exact last i (by omega)
theorem impl_b1 (l : List Int) (hl : l.length ≤ 1048576) (x13 : List (List Int)) (x15 : Int) (Q : Prop) (H : ∃ b : Bool, (b = true ↔ Q) ∧ Ev (fun k => impl_BookOk.l0 k x13 2 (wrap64 (x15 + 1)) T L C) b) : ∀ (d : Nat) (i : Int), (l.length : Int) - i ≤ d → 0 ≤ i → ∃ b : Bool, (b = true ↔ ((∀ j : Int, i ≤ j → j < (l.length : Int) → VOk l j) ∧ (l.length : Int) ≤ 30) ∧ Q) ∧ Ev (fun k => impl_BookOk.l1 k l x13 2 x15 l (l.length : Int) i T L C) b := by
  have last : ∀ i : Int, (l.length : Int) ≤ i → ∃ b : Bool, (b = true ↔ ((∀ j : Int, i ≤ j → j < (l.length : Int) → VOk l j) ∧ (l.length : Int) ≤ 30) ∧ Q) ∧ Ev (fun k => impl_BookOk.l1 k l x13 2 x15 l (l.length : Int) i T L C) b := by
    intro i hi
    by_cases h30 : (l.length : Int) > 30
    · refine ⟨false, ⟨fun h => by simp at h, fun h => by have := h.1.2; omega⟩, ev_unroll ?_⟩
      simp (disch := omega) only [impl_BookOk.l1, ↓if_pos, ↓if_neg, if_pos, if_neg, ↓reduceIte, w64, in_t, in_f, l1In_t, l1In_f, Option.bind_some, Bool.not_true, Bool.not_false, Bool.false_eq_true, tmod_nonneg, tdiv_nonneg]
      exact Ev.now _
    · obtain ⟨b, o, p⟩ := H
      refine ⟨b, o.trans ⟨fun h => ⟨⟨fun j h1 h2 => by omega, by omega⟩, h⟩, fun h => h.2⟩, ev_unroll ?_⟩
      simp (disch := omega) only [impl_BookOk.l1, ↓if_neg]
      exact p
  intro d
  induction d with
  | zero => exact fun i hd i0 => last i (by omega)
  | succ d ih =>
    intro i hd i0
    by_cases hi : i < (l.length : Int)
    · by_cases hv : -1 ≤ rd l i ∧ rd l i ≤ 30
      · obtain ⟨b, o, p⟩ := ih (i + 1) (by omega) (by omega)
        refine ⟨b, o.trans ⟨fun h => ⟨⟨fun j h1 h2 => ?_, h.1.2⟩, h.2⟩, fun h => ⟨⟨fun j h1 h2 => h.1.1 j (by omega) h2, h.1.2⟩, h.2⟩⟩, ev_unroll ?_⟩
        · by_cases e : j = i
          · rw [e]; exact hv
          · exact h.1.1 j (by omega) h2
        · simp (disch := omega) only [impl_BookOk.l1, ↓if_pos, ↓if_neg, if_pos, if_neg, ↓reduceIte, w64, in_t, in_f, l1In_t, l1In_f, Option.bind_some, Bool.not_true, Bool.not_false, Bool.false_eq_true, tmod_nonneg, tdiv_nonneg]
          exact p
      · refine ⟨false, ⟨fun h => by simp at h, fun h => absurd (h.1.1 i (by omega) hi) hv⟩, ev_unroll ?_⟩
        simp (disch := omega) only [impl_BookOk.l1, ↓if_pos, ↓if_neg, if_pos, if_neg, ↓reduceIte, w64, in_t, in_f, l1In_t, l1In_f, Option.bind_some, Bool.not_true, Bool.not_false, Bool.false_eq_true, tmod_nonneg, tdiv_nonneg]
        exact Ev.now _
    · exact last i (by omega)
theorem impl_b0 : ∃ b : Bool, (b = true ↔ ((∀ j : Int, 0 ≤ j → j < (L.length : Int) → VOk L j) ∧ (L.length : Int) ≤ 30) ∧ ((∀ j : Int, 0 ≤ j → j < (C.length : Int) → VOk C j) ∧ (C.length : Int) ≤ 30) ∧ (∀ j : Int, 0 ≤ j → j < (T.length : Int) → TOk T L C j) ∧ (T.length : Int) ≤ 30) ∧ Ev (fun k => impl_BookOk.f k T L C) b := by
  have h2 : ∃ b : Bool, (b = true ↔ (∀ j : Int, 0 ≤ j → j < (T.length : Int) → TOk T L C j) ∧ (T.length : Int) ≤ 30) ∧ Ev (fun k => impl_BookOk.l0 k [L, C] 2 (wrap64 (1 + 1)) T L C) b := by
    obtain ⟨b, o, p⟩ := impl_b2 T L C hT hL hC T.length 0 (by omega) (by omega)
    refine ⟨b, o, ev_unroll ?_⟩
    simp (disch := omega) only [impl_BookOk.l0, ↓if_pos, ↓if_neg, if_pos, if_neg, ↓reduceIte, w64, in_t, in_f, l1In_t, l1In_f, Option.bind_some, Bool.not_true, Bool.not_false, Bool.false_eq_true, tmod_nonneg, tdiv_nonneg]
    exact p
  have h1 : ∃ b : Bool, (b = true ↔ ((∀ j : Int, 0 ≤ j → j < (C.length : Int) → VOk C j) ∧ (C.length : Int) ≤ 30) ∧ (∀ j : Int, 0 ≤ j → j < (T.length : Int) → TOk T L C j) ∧ (T.length : Int) ≤ 30) ∧ Ev (fun k => impl_BookOk.l0 k [L, C] 2 (wrap64 (0 + 1)) T L C) b := by
    obtain ⟨b, o, p⟩ := impl_b1 T L C hT hL hC C hC [L, C] 1 _ h2 C.length 0 (by omega) (by omega)
    refine ⟨b, o, ev_unroll ?_⟩
    have e : wrap64 (0 + 1) = 1 := by unfold wrap64; omega
    rw [e]
    simp only [impl_BookOk.l0, show rd_L3 [L, C] 1 = C from rfl, show ((1 : Int) < 2) = True by simp, show ((0 : Int) ≤ 1) = True by simp, show ((1 : Int) < (([L, C] : List (List Int)).length : Int)) = True by simp, ↓reduceIte]
    exact p
  obtain ⟨b, o, p⟩ := impl_b1 T L C hT hL hC L hL [L, C] 0 _ h1 L.length 0 (by omega) (by omega)
  refine ⟨b, o, ?_⟩
  simp only [impl_BookOk.f, Option.bind_some, show ((([L, C] : List (List Int)).length : Nat) : Int) = 2 from rfl]
  refine ev_unroll ?_
  simp only [impl_BookOk.l0, show rd_L3 [L, C] 0 = L from rfl, show ((0 : Int) < 2) = True by simp, show ((0 : Int) ≤ 0) = True by simp, show ((0 : Int) < (([L, C] : List (List Int)).length : Int)) = True by simp, ↓reduceIte]
  exact p
end
theorem spec_ok (T : List S72) (L C : List Int) (hT : T.length ≤ 1048576) (hL : L.length ≤ 1048576) (hC : C.length ≤ 1048576) : ∃ b : Bool, (b = true ↔ ((T.length : Int) ≤ 30 ∧ (L.length : Int) ≤ 30 ∧ (C.length : Int) ≤ 30) ∧ (∀ j : Int, 0 ≤ j → j < (T.length : Int) → TOk T L C j) ∧ (∀ j : Int, 0 ≤ j → j < (L.length : Int) → VOk L j) ∧ (∀ j : Int, 0 ≤ j → j < (C.length : Int) → VOk C j)) ∧ Ev (fun k => spec_BookOk.f k T L C) b := by
  have no : ¬ ((T.length : Int) ≤ 30 ∧ (L.length : Int) ≤ 30 ∧ (C.length : Int) ≤ 30) → (false = true ↔ ((T.length : Int) ≤ 30 ∧ (L.length : Int) ≤ 30 ∧ (C.length : Int) ≤ 30) ∧ (∀ j : Int, 0 ≤ j → j < (T.length : Int) → TOk T L C j) ∧ (∀ j : Int, 0 ≤ j → j < (L.length : Int) → VOk L j) ∧ (∀ j : Int, 0 ≤ j → j < (C.length : Int) → VOk C j)) := fun h => ⟨fun h2 => by simp at h2, fun h2 => absurd h2.1 h⟩
  have fall : Ev (fun k => spec_BookOk.j0 k true T L C) false := by
    refine ev_unroll ?_
    simp only [spec_BookOk.j0, ↓reduceIte]
    exact Ev.now _
  by_cases c0 : (T.length : Int) > 30
  · refine ⟨false, no (by omega), ?_⟩
    simp only [spec_BookOk.f, if_pos c0]
    exact fall
  · by_cases c1 : (L.length : Int) > 30
    · refine ⟨false, no (by omega), ?_⟩
      simp only [spec_BookOk.f, if_neg c0, if_pos c1]
      exact fall
    · by_cases c2 : (C.length : Int) > 30
      · refine ⟨false, no (by omega), ?_⟩
        simp only [spec_BookOk.f, if_neg c0, if_neg c1, decide_eq_true c2]
        exact fall
      · obtain ⟨b, o, p⟩ := spec_b0 T L C hT hL hC T.length 0 (by omega) (by omega)
        refine ⟨b, o.trans ⟨fun h => ⟨⟨by omega, by omega, by omega⟩, h⟩, fun h => h.2⟩, ?_⟩
        simp only [spec_BookOk.f, if_neg c0, if_neg c1, decide_eq_false c2]
        refine ev_unroll ?_
        simp only [spec_BookOk.j0, Bool.false_eq_true, ↓reduceIte]
        exact p
theorem both (T : List S72) (L C : List Int) (hT : T.length ≤ 1048576) (hL : L.length ≤ 1048576) (hC : C.length ≤ 1048576) : ∃ b : Bool, Ev (fun k => spec_BookOk.f k T L C) b ∧ Ev (fun k => impl_BookOk.f k T L C) b := by
  obtain ⟨b, o, p⟩ := spec_ok T L C hT hL hC
  obtain ⟨b2, o2, q⟩ := impl_b0 T L C hT hL hC
  have e : b = b2 := by
    have h : b = true ↔ b2 = true := o.trans ⟨fun h => o2.2 ⟨⟨h.2.2.1, h.1.2.1⟩, ⟨h.2.2.2, h.1.2.2⟩, h.2.1, h.1.1⟩, fun h2 => by
      have h := o2.1 h2
      exact ⟨⟨h.2.2.2, h.1.2, h.2.1.2⟩, h.2.2.1, h.1.1, h.2.1.1⟩⟩
    cases b <;> cases b2 <;> simp_all
  subst e
  exact ⟨b, p, q⟩
def asTalk (t : S90) : S72 := ⟨t.f0, t.f1, t.f2⟩
theorem toTalkS_ev (x0 : List S90) (hn : x0.length ≤ 1048576) : Ev (fun k => laws_toTalkS.f k x0) (x0.map asTalk) := by
  have key : ∀ (d : Nat) (x3 : List S72) (i : Nat), x0.length - i = d → i ≤ x0.length → x3.length = x0.length → x3.take i = (x0.map asTalk).take i → Ev (fun k => laws_toTalkS.l0 k x0 x3 (i : Int)) (x0.map asTalk) := by
    intro d
    induction d with
    | zero =>
      intro x3 i hd hi hl ht
      have e : x3 = x0.map asTalk := by
        rw [List.take_of_length_le (by omega), List.take_of_length_le (by simp; omega)] at ht
        exact ht
      subst e
      refine ev_unroll ?_
      simp (disch := omega) only [laws_toTalkS.l0, ↓if_neg]
      exact Ev.now _
    | succ d ih =>
      intro x3 i hd hi hl ht
      have e : (x0.map asTalk).getD i z72 = (⟨(rd_T90 x0 (i : Int)).f0, (rd_T90 x0 (i : Int)).f1, (rd_T90 x0 (i : Int)).f2⟩ : S72) := by
        have hi2 : i < x0.length := by omega
        simp [rd_T90, asTalk, hi2]
      have hs := take_set_succ (l := x3) (m := x0.map asTalk) z72 (by simpa using hl) ht (by simp; omega)
      rw [e] at hs
      have h := ih _ (i + 1) (by omega) (by omega) (by simp [hl]) hs
      refine ev_unroll ?_
      simp (disch := omega) only [laws_toTalkS.l0, laws_toTalk.f, Option.bind_some, ↓if_pos, w64]
      simpa using h
  have h := key _ (List.replicate x0.length z72) 0 rfl (by omega) (by simp) (by simp)
  simp (disch := omega) only [laws_toTalkS.f, ↓if_pos]
  simpa using h
theorem eqTalkS_ev (x0 : List S72) (hn : x0.length ≤ 1048576) : Ev (fun k => laws_eqTalkS.f k x0 x0) true := by
  have key : ∀ (d : Nat) (i : Nat), x0.length - i = d → i ≤ x0.length → Ev (fun k => laws_eqTalkS.l0 k x0 x0 (i : Int)) true := by
    intro d
    induction d with
    | zero =>
      intro i hd hi
      refine ev_unroll ?_
      simp (disch := omega) only [laws_eqTalkS.l0, ↓if_neg]
      exact Ev.now _
    | succ d ih =>
      intro i hd hi
      have h := ih (i + 1) (by omega) (by omega)
      refine ev_unroll ?_
      simp (disch := omega) only [laws_eqTalkS.l0, laws_eqTalk.f, Option.bind_some, ↓if_pos, ↓reduceIte, w64]
      simpa using h
  have h := key _ 0 rfl (by omega)
  simp (disch := omega) only [laws_eqTalkS.f, ↓if_pos]
  simpa using h
def laws_FnExactBookOk.Pure : Prop := ∀ (T : List S90) (L C : List Int), T.length ≤ maxLen → L.length ≤ maxLen → C.length ≤ maxLen → ∃ k, laws_FnExactBookOk.f k T L C = some true
theorem FnExactBookOk : laws_FnExactBookOk.Pure := by
  intro T L C hT hL hC
  have hM : maxLen = 9223372036854775807 := rfl
  refine Ev.rounds (g := fun k => laws_FnExactBookOk.f k T L C) ?_
  simp only [laws_FnExactBookOk.f, laws_szBook.f, laws_szTalkS.f, laws_szIntS.f]
  by_cases c0 : 1048576 - (T.length : Int) < 0
  · simp (disch := omega) only [w64, ↓if_pos, Option.bind_some]
    exact Ev.now _
  by_cases c1 : 1048576 - (T.length : Int) - (L.length : Int) < 0
  · simp (disch := omega) only [w64, ↓if_pos, ↓if_neg, Option.bind_some]
    exact Ev.now _
  by_cases c2 : 1048576 - (T.length : Int) - (L.length : Int) - (C.length : Int) < 0
  · simp (disch := omega) only [w64, ↓if_pos, ↓if_neg, Option.bind_some]
    exact Ev.now _
  simp (disch := omega) only [w64, ↓if_pos, ↓if_neg, Option.bind_some]
  have ht : Ev (fun k => laws_toBook.f k T L C) (T.map asTalk, L, C) := by
    simp only [laws_toBook.f]
    exact Ev.bind (toTalkS_ev T (by omega)) (Ev.bind (toIntS_ev L (by omega)) (Ev.bind (toIntS_ev C (by omega)) (Ev.now _)))
  have hl : (T.map asTalk).length ≤ 1048576 := by simp; omega
  obtain ⟨b, p, q⟩ := both (T.map asTalk) L C hl (by omega) (by omega)
  refine Ev.bind ht (Ev.bind p (Ev.bind ht (Ev.bind q ?_)))
  simp only [bne_self_eq_false, Bool.false_eq_true, ↓reduceIte]
  refine Ev.bind ht ?_
  have he : Ev (fun k => laws_eqBook.f k (T.map asTalk) L C (T.map asTalk) L C) true := by
    simp only [laws_eqBook.f]
    refine Ev.bind (eqTalkS_ev _ hl) ?_
    simp only [↓reduceIte]
    refine Ev.bind (eqIntS_ev L (by omega)) ?_
    simp only [↓reduceIte]
    refine Ev.bind (eqIntS_ev C (by omega)) ?_
    simp only [↓reduceIte]
    exact Ev.now _
  refine Ev.bind he ?_
  simp only [↓reduceIte]
  exact Ev.now _

end Go.Proofs.Ythhbeekokbcnfaa.Pure
