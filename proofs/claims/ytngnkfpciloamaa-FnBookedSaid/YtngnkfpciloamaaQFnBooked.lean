/- The law FnBooked, the plain side: whatever the book and the talk, the plain functions answer as the law asks: a talk that is added stands in the book and leaves it without faults. -/
import Derived.Test.YtngnkfpciloamaaMFnBookedx21
import Derived.Test.YtngnkfpciloamaaKitFnBooked
namespace Go.Proofs.Ytngnkfpciloamaa.Pure
set_option linter.unusedSimpArgs false
set_option linter.unusedVariables false
set_option linter.unusedSectionVars false
open Go Go.RowKit Go.Proofs.Ytngnkfpciloamaa.MFnBooked Go.Proofs.YtngnkfpciloamaaW.PrintWords Go.Proofs.YtngnkfpciloamaaW.PrintLast Go.Proofs.Ytngnkfpciloamaa.Mine
theorem in_t {a b c : Int} (h : b ≤ a) (h2 : a ≤ c) : impl_in.f a b c = some true := by
  unfold impl_in.f
  rw [if_pos (by omega)]; simp [h2]
theorem in_f {a b c : Int} (h : ¬ (b ≤ a ∧ a ≤ c)) : impl_in.f a b c = some false := by
  unfold impl_in.f
  by_cases g : a ≥ b
  · rw [if_pos g]; simp; omega
  · rw [if_neg g]
theorem l1In_t {a b c : Int} (h : b ≤ a) (h2 : a ≤ c) : spec_l1In.f a b c = some true := by
  unfold spec_l1In.f
  rw [if_pos (by omega)]; simp [h2]
theorem l1In_f {a b c : Int} (h : ¬ (b ≤ a ∧ a ≤ c)) : spec_l1In.f a b c = some false := by
  unfold spec_l1In.f
  by_cases g : a ≥ b
  · rw [if_pos g]; simp; omega
  · rw [if_neg g]
theorem l1New_ev (x0 : List Int) : ∃ h, Ev (fun k => spec_l1New.f k x0) (x0, 0, h) := by
  have key : ∀ (d : Nat) (i h : Int), 4000 - i ≤ d → 0 ≤ i → ∃ h', Ev (fun k => spec_l1New.l0 k x0 h i) (x0, 0, h') := by
    intro d
    induction d with
    | zero =>
      intro i h hd h0
      refine ⟨h, ev_unroll ?_⟩
      by_cases hlt : i < (x0.length : Int)
      · simp (disch := omega) only [spec_l1New.l0, ↓if_pos, ↓if_neg, if_pos, if_neg, ↓reduceIte, w64, in_t, in_f, l1In_t, l1In_f, Option.bind_some, Bool.not_true, Bool.not_false, Bool.false_eq_true, tmod_nonneg, tdiv_nonneg]
        exact Ev.now _
      · simp (disch := omega) only [spec_l1New.l0, ↓if_pos, ↓if_neg, if_pos, if_neg, ↓reduceIte, w64, in_t, in_f, l1In_t, l1In_f, Option.bind_some, Bool.not_true, Bool.not_false, Bool.false_eq_true, tmod_nonneg, tdiv_nonneg]
        exact Ev.now _
    | succ d ih =>
      intro i h hd h0
      by_cases hlt : i < (x0.length : Int)
      · by_cases h4 : i < 4000
        · obtain ⟨h', p⟩ := ih (i + 1) (Go.bits .and .i64 (wrap64 ((wrap64 ((wrap64 (h * 131)) + (wrap64 (rd x0 i)))) + 7)) 1073741823) (by omega) (by omega)
          refine ⟨h', ev_unroll ?_⟩
          simp only [spec_l1New.l0, if_pos hlt, if_pos h4, if_pos h0]
          rw [w64 (x := i + 1) (by omega) (by omega)]
          exact p
        · refine ⟨h, ev_unroll ?_⟩
          simp (disch := omega) only [spec_l1New.l0, ↓if_pos, ↓if_neg, if_pos, if_neg, ↓reduceIte, w64, in_t, in_f, l1In_t, l1In_f, Option.bind_some, Bool.not_true, Bool.not_false, Bool.false_eq_true, tmod_nonneg, tdiv_nonneg]
          exact Ev.now _
      · refine ⟨h, ev_unroll ?_⟩
        simp (disch := omega) only [spec_l1New.l0, ↓if_pos, ↓if_neg, if_pos, if_neg, ↓reduceIte, w64, in_t, in_f, l1In_t, l1In_f, Option.bind_some, Bool.not_true, Bool.not_false, Bool.false_eq_true, tmod_nonneg, tdiv_nonneg]
        exact Ev.now _
  obtain ⟨h', p⟩ := key 4000 0 (wrap64 (71933 + (x0.length : Int))) (by omega) (by omega)
  exact ⟨h', p⟩
theorem l1Byte_some (b : List Int) (i h : Int) (hb : b.length ≤ 1048576) (h0 : 0 ≤ i) (h1 : i ≤ 1048576) :
    ∃ v i' h', spec_l1Byte.f b i h = some (v, i', h') ∧ 0 ≤ v ∧ v ≤ 255 ∧ 0 ≤ i' ∧ i' ≤ 1048576 := by
  unfold spec_l1Byte.f
  by_cases hlt : i < (b.length : Int)
  · rw [if_pos hlt, if_pos h0, w64 (x := i + 1) (by omega) (by omega)]
    refine ⟨_, _, _, rfl, ?_, ?_, by omega, by omega⟩
    · rw [and255]; omega
    · rw [and255]; omega
  · rw [if_neg hlt]
    refine ⟨_, _, _, rfl, ?_, ?_, h0, h1⟩
    · rw [and255]; omega
    · rw [and255]; omega
theorem l1Below_some (b : List Int) (i h n : Int) (hb : b.length ≤ 1048576) (h0 : 0 ≤ i) (h1 : i ≤ 1048576) :
    ∃ v i' h', spec_l1Below.f b i h n = some (v, i', h') ∧ 0 ≤ v ∧ (0 < n → v < n) ∧ (n ≤ 0 → v = 0) ∧ 0 ≤ i' ∧ i' ≤ 1048576 := by
  unfold spec_l1Below.f
  by_cases hn : n ≤ 0
  · rw [if_pos hn]
    exact ⟨0, i, h, rfl, by omega, by omega, fun _ => rfl, h0, h1⟩
  rw [if_neg hn]
  by_cases hm : n ≤ 256
  · rw [if_pos hm]
    obtain ⟨v, i1, s1, e1, p1, p2, p3, p4⟩ := l1Byte_some b i h hb h0 h1
    rw [e1]
    simp only [Option.bind_some]
    rw [if_neg (by omega), tmod_nonneg p1]
    exact ⟨_, _, _, rfl, Int.emod_nonneg _ (by omega), fun _ => Int.emod_lt_of_pos _ (by omega), fun h => absurd h hn, p3, p4⟩
  · rw [if_neg hm]
    obtain ⟨v1, i1, s1, e1, p1, p2, p3, p4⟩ := l1Byte_some b i h hb h0 h1
    obtain ⟨v2, i2, s2, e2, q1, q2, q3, q4⟩ := l1Byte_some b i1 s1 hb p3 p4
    obtain ⟨v3, i3, s3, e3, r1, r2, r3, r4⟩ := l1Byte_some b i2 s2 hb q3 q4
    obtain ⟨v4, i4, s4, e4, t1, t2, t3, t4⟩ := l1Byte_some b i3 s3 hb r3 r4
    rw [e1]
    simp only [Option.bind_some]
    rw [e2]
    simp only [Option.bind_some]
    rw [e3]
    simp only [Option.bind_some]
    rw [e4]
    simp only [Option.bind_some]
    rw [if_neg (by omega)]
    refine ⟨_, _, _, rfl, ?_, ?_, fun h => absurd h hn, t3, t4⟩
    · simp (disch := omega) only [w64]
      rw [tmod_nonneg (by omega)]
      exact Int.emod_nonneg _ (by omega)
    · intro _
      simp (disch := omega) only [w64]
      rw [tmod_nonneg (by omega)]
      exact Int.emod_lt_of_pos _ (by omega)
def VOk (L : List Int) (i : Int) : Prop := -1 ≤ rd L i ∧ rd L i ≤ 30
def TOk (T : List S50) (L C : List Int) (i : Int) : Prop := (0 ≤ (rd_T50 T i).f0 ∧ (rd_T50 T i).f0 ≤ (L.length : Int) - 1) ∧ (0 ≤ (rd_T50 T i).f1 ∧ (rd_T50 T i).f1 ≤ (L.length : Int) - 1) ∧ (-1 ≤ (rd_T50 T i).f2 ∧ (rd_T50 T i).f2 ≤ (C.length : Int) - 1)
section
variable (T : List S50) (L C : List Int) (hT : T.length ≤ 1048576) (hL : L.length ≤ 1048576) (hC : C.length ≤ 1048576)
include hT hL hC
theorem spec_b2 : ∀ (d : Nat) (i : Int), (C.length : Int) - i ≤ d → 0 ≤ i → ∃ b : Bool, (b = true ↔ ∀ j : Int, i ≤ j → j < (C.length : Int) → VOk C j) ∧ Ev (fun k => spec_BookOk.l2 k i T L C) b := by
  have last : ∀ i : Int, (C.length : Int) ≤ i → ∃ b : Bool, (b = true ↔ ∀ j : Int, i ≤ j → j < (C.length : Int) → VOk C j) ∧ Ev (fun k => spec_BookOk.l2 k i T L C) b := by
    intro i hi
    refine ⟨true, ⟨fun _ j h1 h2 => by omega, fun _ => rfl⟩, ev_unroll ?_⟩
    simp (disch := omega) only [spec_BookOk.l2, ↓if_pos, ↓if_neg, if_pos, if_neg, ↓reduceIte, w64, in_t, in_f, l1In_t, l1In_f, Option.bind_some, Bool.not_true, Bool.not_false, Bool.false_eq_true, tmod_nonneg, tdiv_nonneg]
    exact Ev.now _
  intro d
  induction d with
  | zero => exact fun i hd i0 => last i (by omega)
  | succ d ih =>
    intro i hd i0
    by_cases hi : i < (C.length : Int)
    · by_cases hv : -1 ≤ rd C i ∧ rd C i ≤ 30
      · obtain ⟨b, o, p⟩ := ih (i + 1) (by omega) (by omega)
        refine ⟨b, o.trans ⟨fun h j h1 h2 => ?_, fun h j h1 h2 => h j (by omega) h2⟩, ev_unroll ?_⟩
        · by_cases e : j = i
          · rw [e]; exact hv
          · exact h j (by omega) h2
        · simp (disch := omega) only [spec_BookOk.l2, ↓if_pos, ↓if_neg, if_pos, if_neg, ↓reduceIte, w64, in_t, in_f, l1In_t, l1In_f, Option.bind_some, Bool.not_true, Bool.not_false, Bool.false_eq_true, tmod_nonneg, tdiv_nonneg]
          exact p
      · refine ⟨false, ⟨fun h => by simp at h, fun h => absurd (h i (by omega) hi) hv⟩, ev_unroll ?_⟩
        simp (disch := omega) only [spec_BookOk.l2, ↓if_pos, ↓if_neg, if_pos, if_neg, ↓reduceIte, w64, in_t, in_f, l1In_t, l1In_f, Option.bind_some, Bool.not_true, Bool.not_false, Bool.false_eq_true, tmod_nonneg, tdiv_nonneg]
        exact Ev.now _
    · exact last i (by omega)
theorem spec_b1 : ∀ (d : Nat) (i : Int), (L.length : Int) - i ≤ d → 0 ≤ i → ∃ b : Bool, (b = true ↔ (∀ j : Int, i ≤ j → j < (L.length : Int) → VOk L j) ∧ (∀ j : Int, 0 ≤ j → j < (C.length : Int) → VOk C j)) ∧ Ev (fun k => spec_BookOk.l1 k i T L C) b := by
  have last : ∀ i : Int, (L.length : Int) ≤ i → ∃ b : Bool, (b = true ↔ (∀ j : Int, i ≤ j → j < (L.length : Int) → VOk L j) ∧ (∀ j : Int, 0 ≤ j → j < (C.length : Int) → VOk C j)) ∧ Ev (fun k => spec_BookOk.l1 k i T L C) b := by
    intro i hi
    obtain ⟨b, o, p⟩ := spec_b2 T L C hT hL hC C.length 0 (by omega) (by omega)
    refine ⟨b, o.trans ⟨fun h => ⟨fun j h1 h2 => by omega, h⟩, fun h => h.2⟩, ev_unroll ?_⟩
    simp (disch := omega) only [spec_BookOk.l1, ↓if_pos, ↓if_neg, if_pos, if_neg, ↓reduceIte, w64, in_t, in_f, l1In_t, l1In_f, Option.bind_some, Bool.not_true, Bool.not_false, Bool.false_eq_true, tmod_nonneg, tdiv_nonneg]
    exact p
  intro d
  induction d with
  | zero => exact fun i hd i0 => last i (by omega)
  | succ d ih =>
    intro i hd i0
    by_cases hi : i < (L.length : Int)
    · by_cases hv : -1 ≤ rd L i ∧ rd L i ≤ 30
      · obtain ⟨b, o, p⟩ := ih (i + 1) (by omega) (by omega)
        refine ⟨b, o.trans ⟨fun h => ⟨fun j h1 h2 => ?_, h.2⟩, fun h => ⟨fun j h1 h2 => h.1 j (by omega) h2, h.2⟩⟩, ev_unroll ?_⟩
        · by_cases e : j = i
          · rw [e]; exact hv
          · exact h.1 j (by omega) h2
        · simp (disch := omega) only [spec_BookOk.l1, ↓if_pos, ↓if_neg, if_pos, if_neg, ↓reduceIte, w64, in_t, in_f, l1In_t, l1In_f, Option.bind_some, Bool.not_true, Bool.not_false, Bool.false_eq_true, tmod_nonneg, tdiv_nonneg]
          exact p
      · refine ⟨false, ⟨fun h => by simp at h, fun h => absurd (h.1 i (by omega) hi) hv⟩, ev_unroll ?_⟩
        simp (disch := omega) only [spec_BookOk.l1, ↓if_pos, ↓if_neg, if_pos, if_neg, ↓reduceIte, w64, in_t, in_f, l1In_t, l1In_f, Option.bind_some, Bool.not_true, Bool.not_false, Bool.false_eq_true, tmod_nonneg, tdiv_nonneg]
        exact Ev.now _
    · exact last i (by omega)
theorem spec_b0 : ∀ (d : Nat) (i : Int), (T.length : Int) - i ≤ d → 0 ≤ i → ∃ b : Bool, (b = true ↔ (∀ j : Int, i ≤ j → j < (T.length : Int) → TOk T L C j) ∧ ((∀ j : Int, 0 ≤ j → j < (L.length : Int) → VOk L j) ∧ (∀ j : Int, 0 ≤ j → j < (C.length : Int) → VOk C j))) ∧ Ev (fun k => spec_BookOk.l0 k i T L C) b := by
  have last : ∀ i : Int, (T.length : Int) ≤ i → ∃ b : Bool, (b = true ↔ (∀ j : Int, i ≤ j → j < (T.length : Int) → TOk T L C j) ∧ ((∀ j : Int, 0 ≤ j → j < (L.length : Int) → VOk L j) ∧ (∀ j : Int, 0 ≤ j → j < (C.length : Int) → VOk C j))) ∧ Ev (fun k => spec_BookOk.l0 k i T L C) b := by
    intro i hi
    obtain ⟨b, o, p⟩ := spec_b1 T L C hT hL hC L.length 0 (by omega) (by omega)
    refine ⟨b, o.trans ⟨fun h => ⟨fun j h1 h2 => by omega, h⟩, fun h => h.2⟩, ev_unroll ?_⟩
    simp (disch := omega) only [spec_BookOk.l0, ↓if_pos, ↓if_neg, if_pos, if_neg, ↓reduceIte, w64, in_t, in_f, l1In_t, l1In_f, Option.bind_some, Bool.not_true, Bool.not_false, Bool.false_eq_true, tmod_nonneg, tdiv_nonneg]
    exact p
  intro d
  induction d with
  | zero => exact fun i hd i0 => last i (by omega)
  | succ d ih =>
    intro i hd i0
    by_cases hi : i < (T.length : Int)
    · have no : ∀ h : ¬ TOk T L C i, (false = true ↔ (∀ j : Int, i ≤ j → j < (T.length : Int) → TOk T L C j) ∧ ((∀ j : Int, 0 ≤ j → j < (L.length : Int) → VOk L j) ∧ (∀ j : Int, 0 ≤ j → j < (C.length : Int) → VOk C j))) := fun h => ⟨fun h2 => by simp at h2, fun h2 => absurd (h2.1 i (by omega) hi) h⟩
      by_cases c0 : 0 ≤ (rd_T50 T i).f0 ∧ (rd_T50 T i).f0 ≤ (L.length : Int) - 1
      · by_cases c1 : 0 ≤ (rd_T50 T i).f1 ∧ (rd_T50 T i).f1 ≤ (L.length : Int) - 1
        · by_cases c2 : -1 ≤ (rd_T50 T i).f2 ∧ (rd_T50 T i).f2 ≤ (C.length : Int) - 1
          · obtain ⟨b, o, p⟩ := ih (i + 1) (by omega) (by omega)
            refine ⟨b, o.trans ⟨fun h => ⟨fun j h1 h2 => ?_, h.2⟩, fun h => ⟨fun j h1 h2 => h.1 j (by omega) h2, h.2⟩⟩, ev_unroll ?_⟩
            · by_cases e : j = i
              · rw [e]; exact ⟨c0, c1, c2⟩
              · exact h.1 j (by omega) h2
            · simp (disch := omega) only [spec_BookOk.l0, ↓if_pos, ↓if_neg, if_pos, if_neg, ↓reduceIte, w64, in_t, in_f, l1In_t, l1In_f, Option.bind_some, Bool.not_true, Bool.not_false, Bool.false_eq_true, tmod_nonneg, tdiv_nonneg]
              exact p
          · refine ⟨false, no (fun h => c2 h.2.2), ev_unroll ?_⟩
            simp (disch := omega) only [spec_BookOk.l0, ↓if_pos, ↓if_neg, if_pos, if_neg, ↓reduceIte, w64, in_t, in_f, l1In_t, l1In_f, Option.bind_some, Bool.not_true, Bool.not_false, Bool.false_eq_true, tmod_nonneg, tdiv_nonneg]
            exact Ev.now _
        · refine ⟨false, no (fun h => c1 h.2.1), ev_unroll ?_⟩
          simp (disch := omega) only [spec_BookOk.l0, ↓if_pos, ↓if_neg, if_pos, if_neg, ↓reduceIte, w64, in_t, in_f, l1In_t, l1In_f, Option.bind_some, Bool.not_true, Bool.not_false, Bool.false_eq_true, tmod_nonneg, tdiv_nonneg]
          exact Ev.now _
      · refine ⟨false, no (fun h => c0 h.1), ev_unroll ?_⟩
        simp (disch := omega) only [spec_BookOk.l0, ↓if_pos, ↓if_neg, if_pos, if_neg, ↓reduceIte, w64, in_t, in_f, l1In_t, l1In_f, Option.bind_some, Bool.not_true, Bool.not_false, Bool.false_eq_true, tmod_nonneg, tdiv_nonneg]
        exact Ev.now _
    · exact last i (by omega)
theorem impl_b2 : ∀ (d : Nat) (i : Int), (T.length : Int) - i ≤ d → 0 ≤ i → ∃ b : Bool, (b = true ↔ (∀ j : Int, i ≤ j → j < (T.length : Int) → TOk T L C j) ∧ (T.length : Int) ≤ 30) ∧ Ev (fun k => impl_BookOk.l2 k T (T.length : Int) i T L C) b := by
  have last : ∀ i : Int, (T.length : Int) ≤ i → ∃ b : Bool, (b = true ↔ (∀ j : Int, i ≤ j → j < (T.length : Int) → TOk T L C j) ∧ (T.length : Int) ≤ 30) ∧ Ev (fun k => impl_BookOk.l2 k T (T.length : Int) i T L C) b := by
    intro i hi
    refine ⟨decide ((T.length : Int) ≤ 30), ⟨fun h => ⟨fun j h1 h2 => by omega, of_decide_eq_true h⟩, fun h => decide_eq_true h.2⟩, ev_unroll ?_⟩
    simp (disch := omega) only [impl_BookOk.l2, ↓if_pos, ↓if_neg, if_pos, if_neg, ↓reduceIte, w64, in_t, in_f, l1In_t, l1In_f, Option.bind_some, Bool.not_true, Bool.not_false, Bool.false_eq_true, tmod_nonneg, tdiv_nonneg]
    exact Ev.now _
  intro d
  induction d with
  | zero => exact fun i hd i0 => last i (by omega)
  | succ d ih =>
    intro i hd i0
    by_cases hi : i < (T.length : Int)
    · have no : ∀ h : ¬ TOk T L C i, (false = true ↔ (∀ j : Int, i ≤ j → j < (T.length : Int) → TOk T L C j) ∧ (T.length : Int) ≤ 30) := fun h => ⟨fun h2 => by simp at h2, fun h2 => absurd (h2.1 i (by omega) hi) h⟩
      by_cases c0 : 0 ≤ (rd_T50 T i).f0 ∧ (rd_T50 T i).f0 ≤ (L.length : Int) - 1
      · by_cases c1 : 0 ≤ (rd_T50 T i).f1 ∧ (rd_T50 T i).f1 ≤ (L.length : Int) - 1
        · by_cases c2 : -1 ≤ (rd_T50 T i).f2 ∧ (rd_T50 T i).f2 ≤ (C.length : Int) - 1
          · obtain ⟨b, o, p⟩ := ih (i + 1) (by omega) (by omega)
            refine ⟨b, o.trans ⟨fun h => ⟨fun j h1 h2 => ?_, h.2⟩, fun h => ⟨fun j h1 h2 => h.1 j (by omega) h2, h.2⟩⟩, ev_unroll ?_⟩
            · by_cases e : j = i
              · rw [e]; exact ⟨c0, c1, c2⟩
              · exact h.1 j (by omega) h2
            · simp (disch := omega) only [impl_BookOk.l2, ↓if_pos, ↓if_neg, if_pos, if_neg, ↓reduceIte, w64, in_t, in_f, l1In_t, l1In_f, Option.bind_some, Bool.not_true, Bool.not_false, Bool.false_eq_true, tmod_nonneg, tdiv_nonneg]
              exact p
          · refine ⟨false, no (fun h => c2 h.2.2), ev_unroll ?_⟩
            simp (disch := omega) only [impl_BookOk.l2, ↓if_pos, ↓if_neg, if_pos, if_neg, ↓reduceIte, w64, in_t, in_f, l1In_t, l1In_f, Option.bind_some, Bool.not_true, Bool.not_false, Bool.false_eq_true, tmod_nonneg, tdiv_nonneg]
            exact Ev.now _
        · refine ⟨false, no (fun h => c1 h.2.1), ev_unroll ?_⟩
          simp (disch := omega) only [impl_BookOk.l2, ↓if_pos, ↓if_neg, if_pos, if_neg, ↓reduceIte, w64, in_t, in_f, l1In_t, l1In_f, Option.bind_some, Bool.not_true, Bool.not_false, Bool.false_eq_true, tmod_nonneg, tdiv_nonneg]
          exact Ev.now _
      · refine ⟨false, no (fun h => c0 h.1), ev_unroll ?_⟩
        simp (disch := omega) only [impl_BookOk.l2, ↓if_pos, ↓if_neg, if_pos, if_neg, ↓reduceIte, w64, in_t, in_f, l1In_t, l1In_f, Option.bind_some, Bool.not_true, Bool.not_false, Bool.false_eq_true, tmod_nonneg, tdiv_nonneg]
        exact Ev.now _
    · exact last i (by omega)
theorem impl_b1 (l : List Int) (hl : l.length ≤ 1048576) (x13 : List (List Int)) (x15 : Int) (Q : Prop) (H : ∃ b : Bool, (b = true ↔ Q) ∧ Ev (fun k => impl_BookOk.l0 k x13 2 (wrap64 (x15 + 1)) T L C) b) : ∀ (d : Nat) (i : Int), (l.length : Int) - i ≤ d → 0 ≤ i → ∃ b : Bool, (b = true ↔ ((∀ j : Int, i ≤ j → j < (l.length : Int) → VOk l j) ∧ (l.length : Int) ≤ 30) ∧ Q) ∧ Ev (fun k => impl_BookOk.l1 k l x13 2 x15 l (l.length : Int) i T L C) b := by
  have last : ∀ i : Int, (l.length : Int) ≤ i → ∃ b : Bool, (b = true ↔ ((∀ j : Int, i ≤ j → j < (l.length : Int) → VOk l j) ∧ (l.length : Int) ≤ 30) ∧ Q) ∧ Ev (fun k => impl_BookOk.l1 k l x13 2 x15 l (l.length : Int) i T L C) b := by
    intro i hi
    by_cases h30 : (l.length : Int) > 30
    · refine ⟨false, ⟨fun h => by simp at h, fun h => by have := h.1.2; omega⟩, ev_unroll ?_⟩
      simp (disch := omega) only [impl_BookOk.l1, ↓if_pos, ↓if_neg, if_pos, if_neg, ↓reduceIte, w64, in_t, in_f, l1In_t, l1In_f, Option.bind_some, Bool.not_true, Bool.not_false, Bool.false_eq_true, tmod_nonneg, tdiv_nonneg]
      exact Ev.now _
    · obtain ⟨b, o, p⟩ := H
      refine ⟨b, o.trans ⟨fun h => ⟨⟨fun j h1 h2 => by omega, by omega⟩, h⟩, fun h => h.2⟩, ev_unroll ?_⟩
      simp (disch := omega) only [impl_BookOk.l1, ↓if_neg]
      exact p
  intro d
  induction d with
  | zero => exact fun i hd i0 => last i (by omega)
  | succ d ih =>
    intro i hd i0
    by_cases hi : i < (l.length : Int)
    · by_cases hv : -1 ≤ rd l i ∧ rd l i ≤ 30
      · obtain ⟨b, o, p⟩ := ih (i + 1) (by omega) (by omega)
        refine ⟨b, o.trans ⟨fun h => ⟨⟨fun j h1 h2 => ?_, h.1.2⟩, h.2⟩, fun h => ⟨⟨fun j h1 h2 => h.1.1 j (by omega) h2, h.1.2⟩, h.2⟩⟩, ev_unroll ?_⟩
        · by_cases e : j = i
          · rw [e]; exact hv
          · exact h.1.1 j (by omega) h2
        · simp (disch := omega) only [impl_BookOk.l1, ↓if_pos, ↓if_neg, if_pos, if_neg, ↓reduceIte, w64, in_t, in_f, l1In_t, l1In_f, Option.bind_some, Bool.not_true, Bool.not_false, Bool.false_eq_true, tmod_nonneg, tdiv_nonneg]
          exact p
      · refine ⟨false, ⟨fun h => by simp at h, fun h => absurd (h.1.1 i (by omega) hi) hv⟩, ev_unroll ?_⟩
        simp (disch := omega) only [impl_BookOk.l1, ↓if_pos, ↓if_neg, if_pos, if_neg, ↓reduceIte, w64, in_t, in_f, l1In_t, l1In_f, Option.bind_some, Bool.not_true, Bool.not_false, Bool.false_eq_true, tmod_nonneg, tdiv_nonneg]
        exact Ev.now _
    · exact last i (by omega)
theorem impl_b0 : ∃ b : Bool, (b = true ↔ ((∀ j : Int, 0 ≤ j → j < (L.length : Int) → VOk L j) ∧ (L.length : Int) ≤ 30) ∧ ((∀ j : Int, 0 ≤ j → j < (C.length : Int) → VOk C j) ∧ (C.length : Int) ≤ 30) ∧ (∀ j : Int, 0 ≤ j → j < (T.length : Int) → TOk T L C j) ∧ (T.length : Int) ≤ 30) ∧ Ev (fun k => impl_BookOk.f k T L C) b := by
  have h2 : ∃ b : Bool, (b = true ↔ (∀ j : Int, 0 ≤ j → j < (T.length : Int) → TOk T L C j) ∧ (T.length : Int) ≤ 30) ∧ Ev (fun k => impl_BookOk.l0 k [L, C] 2 (wrap64 (1 + 1)) T L C) b := by
    obtain ⟨b, o, p⟩ := impl_b2 T L C hT hL hC T.length 0 (by omega) (by omega)
    refine ⟨b, o, ev_unroll ?_⟩
    simp (disch := omega) only [impl_BookOk.l0, ↓if_pos, ↓if_neg, if_pos, if_neg, ↓reduceIte, w64, in_t, in_f, l1In_t, l1In_f, Option.bind_some, Bool.not_true, Bool.not_false, Bool.false_eq_true, tmod_nonneg, tdiv_nonneg]
    exact p
  have h1 : ∃ b : Bool, (b = true ↔ ((∀ j : Int, 0 ≤ j → j < (C.length : Int) → VOk C j) ∧ (C.length : Int) ≤ 30) ∧ (∀ j : Int, 0 ≤ j → j < (T.length : Int) → TOk T L C j) ∧ (T.length : Int) ≤ 30) ∧ Ev (fun k => impl_BookOk.l0 k [L, C] 2 (wrap64 (0 + 1)) T L C) b := by
    obtain ⟨b, o, p⟩ := impl_b1 T L C hT hL hC C hC [L, C] 1 _ h2 C.length 0 (by omega) (by omega)
    refine ⟨b, o, ev_unroll ?_⟩
    have e : wrap64 (0 + 1) = 1 := by unfold wrap64; omega
    rw [e]
    simp only [impl_BookOk.l0, show rd_L3 [L, C] 1 = C from rfl, show ((1 : Int) < 2) = True by simp, show ((0 : Int) ≤ 1) = True by simp, show ((1 : Int) < (([L, C] : List (List Int)).length : Int)) = True by simp, ↓reduceIte]
    exact p
  obtain ⟨b, o, p⟩ := impl_b1 T L C hT hL hC L hL [L, C] 0 _ h1 L.length 0 (by omega) (by omega)
  refine ⟨b, o, ?_⟩
  simp only [impl_BookOk.f, Option.bind_some, show ((([L, C] : List (List Int)).length : Nat) : Int) = 2 from rfl]
  refine ev_unroll ?_
  simp only [impl_BookOk.l0, show rd_L3 [L, C] 0 = L from rfl, show ((0 : Int) < 2) = True by simp, show ((0 : Int) ≤ 0) = True by simp, show ((0 : Int) < (([L, C] : List (List Int)).length : Int)) = True by simp, ↓reduceIte]
  exact p
end
theorem spec_ok (T : List S50) (L C : List Int) (hT : T.length ≤ 1048576) (hL : L.length ≤ 1048576) (hC : C.length ≤ 1048576) : ∃ b : Bool, (b = true ↔ ((T.length : Int) ≤ 30 ∧ (L.length : Int) ≤ 30 ∧ (C.length : Int) ≤ 30) ∧ (∀ j : Int, 0 ≤ j → j < (T.length : Int) → TOk T L C j) ∧ (∀ j : Int, 0 ≤ j → j < (L.length : Int) → VOk L j) ∧ (∀ j : Int, 0 ≤ j → j < (C.length : Int) → VOk C j)) ∧ Ev (fun k => spec_BookOk.f k T L C) b := by
  have no : ¬ ((T.length : Int) ≤ 30 ∧ (L.length : Int) ≤ 30 ∧ (C.length : Int) ≤ 30) → (false = true ↔ ((T.length : Int) ≤ 30 ∧ (L.length : Int) ≤ 30 ∧ (C.length : Int) ≤ 30) ∧ (∀ j : Int, 0 ≤ j → j < (T.length : Int) → TOk T L C j) ∧ (∀ j : Int, 0 ≤ j → j < (L.length : Int) → VOk L j) ∧ (∀ j : Int, 0 ≤ j → j < (C.length : Int) → VOk C j)) := fun h => ⟨fun h2 => by simp at h2, fun h2 => absurd h2.1 h⟩
  have fall : Ev (fun k => spec_BookOk.j0 k true T L C) false := by
    refine ev_unroll ?_
    simp only [spec_BookOk.j0, ↓reduceIte]
    exact Ev.now _
  by_cases c0 : (T.length : Int) > 30
  · refine ⟨false, no (by omega), ?_⟩
    simp only [spec_BookOk.f, if_pos c0]
    exact fall
  · by_cases c1 : (L.length : Int) > 30
    · refine ⟨false, no (by omega), ?_⟩
      simp only [spec_BookOk.f, if_neg c0, if_pos c1]
      exact fall
    · by_cases c2 : (C.length : Int) > 30
      · refine ⟨false, no (by omega), ?_⟩
        simp only [spec_BookOk.f, if_neg c0, if_neg c1, decide_eq_true c2]
        exact fall
      · obtain ⟨b, o, p⟩ := spec_b0 T L C hT hL hC T.length 0 (by omega) (by omega)
        refine ⟨b, o.trans ⟨fun h => ⟨⟨by omega, by omega, by omega⟩, h⟩, fun h => h.2⟩, ?_⟩
        simp only [spec_BookOk.f, if_neg c0, if_neg c1, decide_eq_false c2]
        refine ev_unroll ?_
        simp only [spec_BookOk.j0, Bool.false_eq_true, ↓reduceIte]
        exact p
theorem book_both0 (T : List S50) (L C : List Int) (hT : T.length ≤ 1048576) (hL : L.length ≤ 1048576) (hC : C.length ≤ 1048576) : ∃ b : Bool, Ev (fun k => spec_BookOk.f k T L C) b ∧ Ev (fun k => impl_BookOk.f k T L C) b := by
  obtain ⟨b, o, p⟩ := spec_ok T L C hT hL hC
  obtain ⟨b2, o2, q⟩ := impl_b0 T L C hT hL hC
  have e : b = b2 := by
    have h : b = true ↔ b2 = true := o.trans ⟨fun h => o2.2 ⟨⟨h.2.2.1, h.1.2.1⟩, ⟨h.2.2.2, h.1.2.2⟩, h.2.1, h.1.1⟩, fun h2 => by
      have h := o2.1 h2
      exact ⟨⟨h.2.2.2, h.1.2, h.2.1.2⟩, h.2.2.1, h.1.1, h.2.1.1⟩⟩
    cases b <;> cases b2 <;> simp_all
  subst e
  exact ⟨b, p, q⟩
theorem ev_ifpos {c : Prop} [Decidable c] {α : Type} {f g : Nat → Option α} {r : α} (h : c) (p : Ev f r) : Ev (fun n => if c then f n else g n) r := by simp only [if_pos h]; exact p
theorem ev_ifneg {c : Prop} [Decidable c] {α : Type} {f g : Nat → Option α} {r : α} (h : ¬ c) (p : Ev g r) : Ev (fun n => if c then f n else g n) r := by simp only [if_neg h]; exact p
def InBook (T : List S50) (L C : List Int) : Prop := (T.length ≤ 30 ∧ L.length ≤ 30 ∧ C.length ≤ 30) ∧ ∀ j : Nat, (hj : j < T.length) → (0 ≤ T[j].f0 ∧ T[j].f0 < L.length) ∧ (0 ≤ T[j].f1 ∧ T[j].f1 < L.length) ∧ (-1 ≤ T[j].f2 ∧ T[j].f2 < C.length)
theorem book_both (T : List S50) (L C : List Int) (hT : T.length ≤ 1048576) (hL : L.length ≤ 1048576) (hC : C.length ≤ 1048576) : ∃ b : Bool, Ev (fun k => spec_BookOk.f k T L C) b ∧ Ev (fun k => impl_BookOk.f k T L C) b ∧ (b = true → InBook T L C) := by
  obtain ⟨b, o, p⟩ := spec_ok T L C hT hL hC
  obtain ⟨b2, p2, q2⟩ := book_both0 T L C hT hL hC
  obtain rfl := ev_unique p p2
  refine ⟨b, p, q2, fun hb => ?_⟩
  obtain ⟨⟨h1, h2, h3⟩, h4, _, _⟩ := o.mp hb
  refine ⟨⟨by omega, by omega, by omega⟩, fun j hj => ?_⟩
  have h := h4 (j : Int) (by omega) (by omega)
  unfold TOk at h
  rw [rd50_get T j hj] at h
  omega
theorem shares_eq (t u : S50) : spec_l18Shares.f t.f0 t.f1 t.f2 u.f0 u.f1 u.f2 = some (meetB t u) := meets_eq t u
def ff (p : S50 → Bool) (T : List S50) (i : Nat) : Int := match (T.drop i).findIdx? p with
  | some j => ((i + j : Nat) : Int)
  | none => -1
theorem ff_end (p : S50 → Bool) (T : List S50) (i : Nat) (h : T.length ≤ i) : ff p T i = -1 := by
  unfold ff; rw [List.drop_eq_nil_of_le h]; rfl
theorem ff_step (p : S50 → Bool) (T : List S50) (i : Nat) (h : i < T.length) : ff p T i = if p T[i] = true then (i : Int) else ff p T (i + 1) := by
  unfold ff
  rw [List.drop_eq_getElem_cons h, List.findIdx?_cons]
  by_cases c : p T[i] = true
  · rw [if_pos c, if_pos c]; simp
  · rw [if_neg c, if_neg c]
    cases (T.drop (i + 1)).findIdx? p with
    | none => rfl
    | some j => simp; omega
theorem ff_ge (p : S50 → Bool) (T : List S50) (i : Nat) : -1 ≤ ff p T i ∧ ff p T i < T.length := by
  unfold ff
  cases h : (T.drop i).findIdx? p with
  | none => simp; omega
  | some j =>
    have := List.findIdx?_eq_some_iff_findIdx_eq.mp h
    simp at this ⊢
    omega
def pl (x : Nat) (t : S50) : Bool := decide (t.f0 = (x : Int)) || decide (t.f1 = (x : Int))
def pc (x : Nat) (t : S50) : Bool := decide (t.f2 = (x : Int))
def linesF (T : List S50) (n i : Nat) : List Int := (List.range n).map fun x => ff (pl x) T i
def circF (T : List S50) (n i : Nat) : List Int := (List.range n).map fun x => ff (pc x) T i
theorem linesF_len (T : List S50) (n i : Nat) : (linesF T n i).length = n := by simp [linesF]
theorem circF_len (T : List S50) (n i : Nat) : (circF T n i).length = n := by simp [circF]
theorem rd_linesF (T : List S50) (n i x : Nat) (h : x < n) : rd (linesF T n i) (x : Int) = ff (pl x) T i := by simp [rd, linesF, h]
theorem rd_circF (T : List S50) (n i x : Nat) (h : x < n) : rd (circF T n i) (x : Int) = ff (pc x) T i := by simp [rd, circF, h]
theorem linesF_step (T : List S50) (n i : Nat) (hi : i < T.length) (a0 : 0 ≤ T[i].f0) (b0 : 0 ≤ T[i].f1) : ((linesF T n (i + 1)).set T[i].f0.toNat (i : Int)).set T[i].f1.toNat (i : Int) = linesF T n i := by
  apply List.ext_getElem
  · simp [linesF]
  · intro x h1 h2
    have hx : x < n := by simpa [linesF] using h2
    simp only [List.getElem_set, linesF, List.getElem_map, List.getElem_range]
    rw [ff_step (pl x) T i hi]
    unfold pl
    by_cases c1 : T[i].f1.toNat = x
    · rw [if_pos c1, if_pos (by simp; omega)]
    · rw [if_neg c1]
      by_cases c2 : T[i].f0.toNat = x
      · rw [if_pos c2, if_pos (by simp; omega)]
      · rw [if_neg c2, if_neg (by simp; omega)]
theorem circF_step (T : List S50) (n i : Nat) (hi : i < T.length) (a0 : 0 ≤ T[i].f2) : (circF T n (i + 1)).set T[i].f2.toNat (i : Int) = circF T n i := by
  apply List.ext_getElem
  · simp [circF]
  · intro x h1 h2
    have hx : x < n := by simpa [circF] using h2
    simp only [List.getElem_set, circF, List.getElem_map, List.getElem_range]
    rw [ff_step (pc x) T i hi]
    unfold pc
    by_cases c1 : T[i].f2.toNat = x
    · rw [if_pos c1, if_pos (by simp; omega)]
    · rw [if_neg c1, if_neg (by simp; omega)]
theorem circF_skip (T : List S50) (n i : Nat) (hi : i < T.length) (a0 : T[i].f2 < 0) : circF T n (i + 1) = circF T n i := by
  unfold circF
  apply List.map_congr_left
  intro x _
  rw [ff_step (pc x) T i hi, if_neg]
  unfold pc
  simp; omega
theorem said_from (T : List S50) (L C : List Int) (hb : InBook T L C) : ∀ i : Nat, i ≤ T.length → Ev (fun k => impl_said.l0 k (linesF T L.length i) (circF T C.length i) ((i : Int) - 1) T L C) (linesF T L.length 0, circF T C.length 0) := by
  intro i
  induction i with
  | zero =>
    intro _
    refine ev_unroll ?_
    simp only [impl_said.l0, if_neg (show ¬ ((0 : Nat) : Int) - 1 ≥ 0 by decide)]
    exact Ev.now _
  | succ i ih =>
    intro hi
    have h := ih (by omega)
    obtain ⟨⟨a0, a1⟩, ⟨b0, b1⟩, c0, c1⟩ := hb.2 i (by omega)
    have hll := linesF_len T L.length (i + 1)
    have hcl := circF_len T C.length (i + 1)
    have hT := hb.1.1
    have hw := Aside0.mk (show wrap64 ((i : Int) - 1) = (i : Int) - 1 from w64 (by omega) (by omega))
    rw [show (((i + 1 : Nat) : Int) - 1) = (i : Int) by omega]
    refine ev_unroll ?_
    simp only [impl_said.l0, rd50_get T i (by omega), if_pos (show (i : Int) ≥ 0 by omega), if_pos (show (0 : Int) ≤ (i : Int) by omega), if_pos (show (i : Int) < (T.length : Int) by omega), if_pos a0, if_pos (show T[i].f0 < ((linesF T L.length (i + 1)).length : Int) by omega), if_pos b0, if_pos (show T[i].f1 < ((linesF T L.length (i + 1)).length : Int) by omega), Option.bind_some, linesF_step T L.length i (by omega) a0 b0, hw.out]
    by_cases hc : T[i].f2 ≥ 0
    · simp only [if_pos hc, if_pos (show 0 ≤ T[i].f2 from hc), if_pos (show T[i].f2 < ((circF T C.length (i + 1)).length : Int) by omega), circF_step T C.length i (by omega) hc]
      exact h
    · simp only [if_neg hc, circF_skip T C.length i (by omega) (by omega)]
      exact h
theorem linesF_end (T : List S50) (n : Nat) : List.replicate n (-1 : Int) = linesF T n T.length := by
  apply List.ext_getElem
  · simp [linesF]
  · intro x h1 h2
    simp [linesF, ff_end _ T T.length (Nat.le_refl _)]
theorem circF_end (T : List S50) (n : Nat) : List.replicate n (-1 : Int) = circF T n T.length := by
  apply List.ext_getElem
  · simp [circF]
  · intro x h1 h2
    simp [circF, ff_end _ T T.length (Nat.le_refl _)]
theorem said_ev (T : List S50) (L C : List Int) (hb : InBook T L C) : Ev (fun k => impl_said.f k T L C) (linesF T L.length 0, circF T C.length 0) := by
  have hT := hb.1
  have hrep : ∀ n : Nat, n ≤ 30 → Ev (fun k => slices_Repeat_int_int.f k ([(-1)] : List Int) (n : Int)) (List.replicate n (-1)) := by
    intro n hn
    refine ⟨0, fun k _ => ?_⟩
    show slices_Repeat_int_int.f k ([(-1)] : List Int) (n : Int) = _
    unfold slices_Repeat_int_int.f
    rw [if_pos (show ([(-1)] : List Int).length = 1 from rfl), if_pos (by omega), if_pos (by omega), Int.toNat_natCast]
    rfl
  unfold impl_said.f
  refine Ev.bind (hrep L.length hT.2.1) (Ev.bind (hrep C.length hT.2.2) ?_)
  have h := said_from T L C hb T.length (Nat.le_refl _)
  rw [← linesF_end, ← circF_end] at h
  rw [w64 (by omega) (by omega)]
  exact h
theorem first_ev (T : List S50) (L C : List Int) (hT : T.length ≤ 1048576) (x : Nat) (c : Bool) : Ev (fun k => spec_l18First.f k T L C (x : Int) c) (ff (if c = true then pc x else pl x) T 0) := by
  have key : ∀ d i : Nat, T.length - i ≤ d → Ev (fun k => spec_l18First.l0 k (x : Int) c (i : Int) T L C) (ff (if c = true then pc x else pl x) T i) := by
    intro d
    induction d with
    | zero =>
      intro i hd
      refine ev_unroll ?_
      simp only [spec_l18First.l0, if_neg (show ¬ (i : Int) < (T.length : Int) by omega), ff_end _ T i (by omega)]
      exact Ev.now _
    | succ d ih =>
      intro i hd
      by_cases hi : i < T.length
      · have h := ih (i + 1) (by omega)
        have hw := Aside0.mk (show wrap64 ((i : Int) + 1) = ((i + 1 : Nat) : Int) from (w64 (by omega) (by omega)).trans (by omega))
        rw [ff_step _ T i hi]
        refine ev_unroll ?_
        simp only [spec_l18First.l0, rd50_get T i hi, if_pos (show (i : Int) < (T.length : Int) by omega), if_pos (show (0 : Int) ≤ (i : Int) by omega), hw.out]
        cases c
        · simp only [Bool.false_eq_true, if_false] at h ⊢
          unfold pl at h ⊢
          by_cases c1 : T[i].f0 = (x : Int)
          · simp only [if_pos c1, decide_eq_true c1, Bool.true_or, if_true]
            exact Ev.now _
          · by_cases c2 : T[i].f1 = (x : Int)
            · simp only [if_neg c1, if_pos c2, decide_eq_true c2, Bool.or_true, if_true]
              exact Ev.now _
            · simp only [if_neg c1, if_neg c2, decide_eq_false c1, decide_eq_false c2, Bool.or_false, Bool.false_eq_true, if_false]
              exact h
        · simp only [if_true] at h ⊢
          unfold pc at h ⊢
          by_cases c1 : T[i].f2 = (x : Int)
          · simp only [if_pos c1, decide_eq_true c1, if_true]
            exact Ev.now _
          · simp only [if_neg c1, decide_eq_false c1, Bool.false_eq_true, if_false]
            exact h
      · refine ev_unroll ?_
        simp only [spec_l18First.l0, if_neg (show ¬ (i : Int) < (T.length : Int) by omega), ff_end _ T i (by omega)]
        exact Ev.now _
  have h := key T.length 0 (by omega)
  exact h
def saidF (T : List S50) (c : Bool) (n : Nat) : List Int := if c = true then circF T n 0 else linesF T n 0
theorem rd_saidF (T : List S50) (c : Bool) (n x : Nat) (h : x < n) : rd (saidF T c n) (x : Int) = ff (if c = true then pc x else pl x) T 0 := by
  cases c
  · exact rd_linesF T n 0 x h
  · exact rd_circF T n 0 x h
theorem told_ev (T : List S50) (L C : List Int) (hT : T.length ≤ 1048576) (l : List Int) (hl : l.length ≤ 1048576) (c : Bool) (k1 k2 : Int) :
    Ev (fun k => spec_l18Told.f k T L C l c k1 k2) (tolA l (saidF T c l.length) k1 l.length ++ tolB l (saidF T c l.length) k2 l.length) := by
  have l1 : ∀ (Z : List S69), Z.length ≤ 1048576 → ∀ d i : Nat, l.length - i ≤ d → i ≤ l.length → Ev (fun k => spec_l18Told.l1 k l c k2 (Z ++ tolB l (saidF T c l.length) k2 i) (i : Int) T L C) (Z ++ tolB l (saidF T c l.length) k2 l.length) := by
    intro Z hZ d
    have last : ∀ i : Nat, i = l.length → Ev (fun k => spec_l18Told.l1 k l c k2 (Z ++ tolB l (saidF T c l.length) k2 i) (i : Int) T L C) (Z ++ tolB l (saidF T c l.length) k2 l.length) := by
      intro i hi
      subst hi
      refine ev_unroll ?_
      simp only [spec_l18Told.l1, if_neg (show ¬ (l.length : Int) < (l.length : Int) by omega)]
      exact Ev.now _
    induction d with
    | zero => exact fun i hd hi => last i (by omega)
    | succ d ih =>
      intro i hd hi
      by_cases hlt : i < l.length
      · have h := ih (i + 1) (by omega) (by omega)
        have hw := Aside0.mk (show wrap64 ((i : Int) + 1) = ((i + 1 : Nat) : Int) from (w64 (by omega) (by omega)).trans (by omega))
        have hf := first_ev T L C hT i c
        have hs := rd_saidF T c l.length i hlt
        have hbl := tolB_len l (saidF T c l.length) k2 i
        rw [tolB, hs] at h
        generalize ff (if c = true then pc i else pl i) T 0 = F at hf h
        refine ev_unroll ?_
        simp only [spec_l18Told.l1, if_pos (show (i : Int) < (l.length : Int) by omega)]
        refine Ev.bind hf ?_
        by_cases c1 : F < 0
        · by_cases c2 : rd l (i : Int) ≥ 0
          · simp only [if_pos c1, if_pos (show (0 : Int) ≤ (i : Int) by omega), if_pos c2, hw.out]
            refine ev_ifpos (by rw [List.length_append]; omega) ?_
            rw [if_pos ⟨c1, c2⟩, ← List.append_assoc] at h
            exact h
          · simp only [if_pos c1, if_pos (show (0 : Int) ≤ (i : Int) by omega), if_neg c2, hw.out]
            rw [if_neg (fun h => c2 h.2), List.append_nil] at h
            exact h
        · simp only [if_neg c1, hw.out]
          rw [if_neg (fun h => c1 h.1), List.append_nil] at h
          exact h
      · exact last i (by omega)
  have l0 : ∀ d i : Nat, l.length - i ≤ d → i ≤ l.length → Ev (fun k => spec_l18Told.l0 k l c k1 k2 (tolA l (saidF T c l.length) k1 i) (i : Int) T L C) (tolA l (saidF T c l.length) k1 l.length ++ tolB l (saidF T c l.length) k2 l.length) := by
    intro d
    have last : ∀ i : Nat, i = l.length → Ev (fun k => spec_l18Told.l0 k l c k1 k2 (tolA l (saidF T c l.length) k1 i) (i : Int) T L C) (tolA l (saidF T c l.length) k1 l.length ++ tolB l (saidF T c l.length) k2 l.length) := by
      intro i hi
      subst hi
      refine ev_unroll ?_
      simp only [spec_l18Told.l0, if_neg (show ¬ (l.length : Int) < (l.length : Int) by omega)]
      have h := l1 (tolA l (saidF T c l.length) k1 l.length) (Nat.le_trans (tolA_len _ _ _ _) hl) l.length 0 (by omega) (by omega)
      rw [tolB, List.append_nil] at h
      exact h
    induction d with
    | zero => exact fun i hd hi => last i (by omega)
    | succ d ih =>
      intro i hd hi
      by_cases hlt : i < l.length
      · have h := ih (i + 1) (by omega) (by omega)
        have hw := Aside0.mk (show wrap64 ((i : Int) + 1) = ((i + 1 : Nat) : Int) from (w64 (by omega) (by omega)).trans (by omega))
        have hf := first_ev T L C hT i c
        have hs := rd_saidF T c l.length i hlt
        have hal := tolA_len l (saidF T c l.length) k1 i
        rw [tolA, hs] at h
        generalize ff (if c = true then pc i else pl i) T 0 = F at hf h
        refine ev_unroll ?_
        simp only [spec_l18Told.l0, if_pos (show (i : Int) < (l.length : Int) by omega)]
        refine Ev.bind hf ?_
        by_cases c1 : F ≥ 0
        · by_cases c2 : rd l (i : Int) = F
          · simp only [if_pos c1, if_pos (show (0 : Int) ≤ (i : Int) by omega), if_pos c2, hw.out]
            rw [if_neg (fun h => h.2 c2), List.append_nil] at h
            exact h
          · simp only [if_pos c1, if_pos (show (0 : Int) ≤ (i : Int) by omega), if_neg c2, hw.out]
            refine ev_ifpos (by omega) ?_
            rw [if_pos ⟨c1, c2⟩] at h
            exact h
        · simp only [if_neg c1, hw.out]
          rw [if_neg (fun h => c1 h.1), List.append_nil] at h
          exact h
      · exact last i (by omega)
  have h := l0 l.length 0 (by omega) (by omega)
  exact h
def faultsL (T : List S50) (L C : List Int) : List S69 := twA T T.length ++ slA T T.length ++ tolA L (linesF T L.length 0) 3 L.length ++ tolB L (linesF T L.length 0) 4 L.length ++ tolA C (circF T C.length 0) 5 C.length ++ tolB C (circF T C.length 0) 6 C.length
theorem faultsL_len (T : List S50) (L C : List Int) (h : T.length ≤ 30 ∧ L.length ≤ 30 ∧ C.length ≤ 30) : (faultsL T L C).length ≤ 1000 := by
  have h1 := twA_len T T.length
  have h2 := slA_len T T.length
  have h3 := tolA_len L (linesF T L.length 0) 3 L.length
  have h4 := tolB_len L (linesF T L.length 0) 4 L.length
  have h5 := tolA_len C (circF T C.length 0) 5 C.length
  have h6 := tolB_len C (circF T C.length 0) 6 C.length
  unfold faultsL
  simp only [List.length_append]
  omega
theorem drop_any (t : S50) (T : List S50) (i j : Nat) (hj : j < i) (hi : i ≤ T.length) : ((T.take i).drop j).any (meetB t) = (meetB t (rd_T50 T (j : Int)) || ((T.take i).drop (j + 1)).any (meetB t)) := by
  have hl : j < (T.take i).length := by rw [List.length_take]; omega
  rw [rd50_get T j (by omega), List.drop_eq_getElem_cons hl, List.any_cons, List.getElem_take]
theorem spec_faults_ev (T : List S50) (L C : List Int) (hb : InBook T L C) (hB : Ev (fun k => spec_BookOk.f k T L C) true) : Ev (fun k => spec_Faults.f k T L C) (faultsL T L C) := by
  have hT := hb.1
  have t1 := told_ev T L C (by omega) L (by omega) false 3 4
  have t2 := told_ev T L C (by omega) C (by omega) true 5 6
  have e1 : saidF T false L.length = linesF T L.length 0 := rfl
  have e2 : saidF T true C.length = circF T C.length 0 := rfl
  rw [e1] at t1
  rw [e2] at t2
  have ltw := twA_len T
  have lsl := slA_len T
  have l2 : ∀ d i : Nat, T.length - i ≤ d → i ≤ T.length → Ev (fun k => spec_Faults.l2 k (twA T T.length ++ slA T i) (i : Int) T L C) (faultsL T L C) := by
    intro d
    have last : ∀ i : Nat, i = T.length → Ev (fun k => spec_Faults.l2 k (twA T T.length ++ slA T i) (i : Int) T L C) (faultsL T L C) := by
      intro i hi
      subst hi
      have q1 := ltw T.length
      have q2 := lsl T.length
      have q3 := tolA_len L (linesF T L.length 0) 3 L.length
      have q4 := tolB_len L (linesF T L.length 0) 4 L.length
      have q5 := tolA_len C (circF T C.length 0) 5 C.length
      have q6 := tolB_len C (circF T C.length 0) 6 C.length
      refine ev_unroll ?_
      simp only [spec_Faults.l2, if_neg (show ¬ (T.length : Int) < (T.length : Int) by omega)]
      refine Ev.bind t1 ?_
      refine ev_ifpos (by simp only [List.length_append]; omega) ?_
      simp only [Option.bind_some]
      refine Ev.bind t2 ?_
      refine ev_ifpos (by simp only [List.length_append]; omega) ?_
      refine ev_eq (Ev.now _) ?_
      unfold faultsL
      simp only [List.append_assoc]
    induction d with
    | zero => exact fun i hd hi => last i (by omega)
    | succ d ih =>
      intro i hd hi
      by_cases hlt : i < T.length
      · have h := ih (i + 1) (by omega) (by omega)
        have hw := Aside0.mk (show wrap64 ((i : Int) + 1) = ((i + 1 : Nat) : Int) from (w64 (by omega) (by omega)).trans (by omega))
        have q1 := ltw T.length
        have q2 := lsl i
        rw [slA] at h
        refine ev_unroll ?_
        simp only [spec_Faults.l2, if_pos (show (i : Int) < (T.length : Int) by omega), if_pos (show (0 : Int) ≤ (i : Int) by omega), hw.out]
        by_cases c1 : (rd_T50 T (i : Int)).f0 = (rd_T50 T (i : Int)).f1
        · rw [if_pos c1, ← List.append_assoc] at h
          simp only [if_pos c1]
          refine ev_ifpos (by simp only [List.length_append]; omega) ?_
          exact h
        · rw [if_neg c1, List.append_nil] at h
          simp only [if_neg c1]
          exact h
      · exact last i (by omega)
  have l0 : ∀ d i : Nat, T.length - i ≤ d → i ≤ T.length → Ev (fun k => spec_Faults.l0 k (twA T i) (i : Int) T L C) (faultsL T L C) := by
    intro d
    have last : ∀ i : Nat, i = T.length → Ev (fun k => spec_Faults.l0 k (twA T i) (i : Int) T L C) (faultsL T L C) := by
      intro i hi
      subst hi
      refine ev_unroll ?_
      simp only [spec_Faults.l0, if_neg (show ¬ (T.length : Int) < (T.length : Int) by omega)]
      have h := l2 T.length 0 (by omega) (by omega)
      rw [slA, List.append_nil] at h
      exact h
    induction d with
    | zero => exact fun i hd hi => last i (by omega)
    | succ d ih =>
      intro i hd hi
      by_cases hlt : i < T.length
      · have h := ih (i + 1) (by omega) (by omega)
        have hw := Aside0.mk (show wrap64 ((i : Int) + 1) = ((i + 1 : Nat) : Int) from (w64 (by omega) (by omega)).trans (by omega))
        have q1 := ltw i
        rw [twA] at h
        have inner : ∀ e j : Nat, i - j ≤ e → j ≤ i → ((T.take i).drop j).any (meetB (rd_T50 T (i : Int))) = (T.take i).any (meetB (rd_T50 T (i : Int))) → Ev (fun k => spec_Faults.l1 k (twA T i) (i : Int) (j : Int) T L C) (faultsL T L C) := by
          intro e
          have stop : ∀ j : Nat, j = i → ((T.take i).drop j).any (meetB (rd_T50 T (i : Int))) = (T.take i).any (meetB (rd_T50 T (i : Int))) → Ev (fun k => spec_Faults.l1 k (twA T i) (i : Int) (j : Int) T L C) (faultsL T L C) := by
            intro j hj ha
            subst hj
            rw [List.drop_eq_nil_of_le (by rw [List.length_take]; omega), List.any_nil] at ha
            rw [← ha, if_neg (by decide), List.append_nil] at h
            refine ev_unroll ?_
            simp only [spec_Faults.l1, if_neg (show ¬ (j : Int) < (j : Int) by omega), hw.out]
            exact h
          induction e with
          | zero => exact fun j hd2 hj ha => stop j (by omega) ha
          | succ e ihe =>
            intro j hd2 hj ha
            by_cases hjl : j < i
            · have hw2 := Aside0.mk (show wrap64 ((j : Int) + 1) = ((j + 1 : Nat) : Int) from (w64 (by omega) (by omega)).trans (by omega))
              have hda := drop_any (rd_T50 T (i : Int)) T i j hjl (by omega)
              rw [hda] at ha
              have hsh := shares_eq (rd_T50 T (i : Int)) (rd_T50 T (j : Int))
              refine ev_unroll ?_
              simp only [spec_Faults.l1, if_pos (show (j : Int) < (i : Int) by omega), if_pos (show (0 : Int) ≤ (i : Int) by omega), if_pos (show (i : Int) < (T.length : Int) by omega), if_pos (show (0 : Int) ≤ (j : Int) by omega), if_pos (show (j : Int) < (T.length : Int) by omega), hsh, Option.bind_some, hw.out, hw2.out]
              cases hm : meetB (rd_T50 T (i : Int)) (rd_T50 T (j : Int))
              · simp only [Bool.false_eq_true, if_false]
                rw [hm, Bool.false_or] at ha
                exact ihe (j + 1) (by omega) (by omega) ha
              · rw [hm, Bool.true_or] at ha
                rw [← ha, if_pos rfl] at h
                simp only [if_true]
                refine ev_ifpos (by omega) ?_
                exact h
            · exact stop j (by omega) ha
        refine ev_unroll ?_
        simp only [spec_Faults.l0, if_pos (show (i : Int) < (T.length : Int) by omega)]
        have h3 := inner i 0 (by omega) (by omega) (by rw [List.drop_zero])
        exact h3
      · exact last i (by omega)
  unfold spec_Faults.f
  simp only [Option.bind_some]
  refine Ev.bind hB ?_
  simp only [if_true]
  have h := l0 T.length 0 (by omega) (by omega)
  rw [twA] at h
  exact h
theorem faults_both (T : List S50) (L C : List Int) (hT : T.length ≤ 1048576) (hL : L.length ≤ 1048576) (hC : C.length ≤ 1048576) : ∃ r : List S69, r.length ≤ 1000 ∧ Ev (fun k => spec_Faults.f k T L C) r ∧ Ev (fun k => impl_Faults.f k T L C) r := by
  obtain ⟨b, p, q, hb⟩ := book_both T L C hT hL hC
  cases b
  · refine ⟨[⟨7, 0⟩], by decide, ?_, ?_⟩
    · unfold spec_Faults.f
      simp only [Option.bind_some]
      refine Ev.bind p ?_
      simp only [Bool.false_eq_true, if_false]
      refine ev_ifpos (by decide) ?_
      exact Ev.now _
    · unfold impl_Faults.f
      refine Ev.bind q ?_
      simp only [Bool.false_eq_true, if_false]
      exact Ev.now _
  · have hbk := hb rfl
    refine ⟨faultsL T L C, faultsL_len T L C hbk.1, spec_faults_ev T L C hbk p, ?_⟩
    unfold impl_Faults.f
    refine Ev.bind q ?_
    have hT2 := hbk.1
    simp only [if_true]
    refine ev_ifpos ⟨by omega, by omega, by omega⟩ ?_
    refine Ev.bind (said_ev T L C hbk) ?_
    refine ev_ifpos ⟨linesF_len _ _ _, circF_len _ _ _⟩ ?_
    exact Ev.now _
def mendG : List S50 → Nat → List Int → List S50 → List S50 × List Int
  | [], _, g, kp => (kp, g)
  | t :: ts, i, g, kp => if t.f0 = t.f1 ∨ kp.any (meetB t) = true then mendG ts (i + 1) (g ++ [(i : Int)]) kp else mendG ts (i + 1) g (kp ++ [t])
def TkIn (a b : Nat) (t : S50) : Prop := (0 ≤ t.f0 ∧ t.f0 < a) ∧ (0 ≤ t.f1 ∧ t.f1 < a) ∧ (-1 ≤ t.f2 ∧ t.f2 < b)
theorem mendG_in (a b : Nat) : ∀ (ts : List S50) (i : Nat) (g : List Int) (kp : List S50), (∀ t ∈ ts, TkIn a b t) → (∀ t ∈ kp, TkIn a b t) → (mendG ts i g kp).1.length ≤ kp.length + ts.length ∧ (mendG ts i g kp).2.length ≤ g.length + ts.length ∧ ∀ t ∈ (mendG ts i g kp).1, TkIn a b t := by
  intro ts
  induction ts with
  | nil => intro i g kp _ h; exact ⟨by simp [mendG], by simp [mendG], h⟩
  | cons t ts ih =>
    intro i g kp h1 h2
    unfold mendG
    split
    · obtain ⟨p, q, r⟩ := ih (i + 1) (g ++ [(i : Int)]) kp (fun u hu => h1 u (List.mem_cons_of_mem _ hu)) h2
      refine ⟨?_, ?_, r⟩
      · simp only [List.length_cons]; omega
      · simp only [List.length_cons, List.length_append, List.length_nil] at q ⊢; omega
    · obtain ⟨p, q, r⟩ := ih (i + 1) g (kp ++ [t]) (fun u hu => h1 u (List.mem_cons_of_mem _ hu)) (fun u hu => (List.mem_append.mp hu).elim (h2 u) fun e => by rw [List.mem_singleton.mp e]; exact h1 t List.mem_cons_self)
      refine ⟨?_, ?_, r⟩
      · simp only [List.length_cons, List.length_append, List.length_nil] at p ⊢; omega
      · simp only [List.length_cons]; omega
theorem inBook_of (T : List S50) (L C : List Int) (h1 : T.length ≤ 30) (h2 : L.length ≤ 30) (h3 : C.length ≤ 30) (h : ∀ t ∈ T, TkIn L.length C.length t) : InBook T L C := ⟨⟨h1, h2, h3⟩, fun j hj => h T[j] (List.getElem_mem hj)⟩
theorem of_inBook (T : List S50) (L C : List Int) (h : InBook T L C) : ∀ t ∈ T, TkIn L.length C.length t := fun t ht => by
  obtain ⟨j, hj, rfl⟩ := List.getElem_of_mem ht
  exact h.2 j hj
theorem linesF_succ (T : List S50) (n i : Nat) : linesF T n i ++ [ff (pl n) T i] = linesF T (n + 1) i := by simp [linesF, List.range_succ]
theorem circF_succ (T : List S50) (n i : Nat) : circF T n i ++ [ff (pc n) T i] = circF T (n + 1) i := by simp [circF, List.range_succ]
theorem write_ev (T : List S50) (a b : Nat) (hT : T.length ≤ 30) (ha : a ≤ 30) (hb : b ≤ 30) : Ev (fun k => spec_l18Write.f k T (a : Int) (b : Int)) (T, linesF T a 0, circF T b 0) := by
  have l1 : ∀ (X : List Int) (d i : Nat), b - i ≤ d → i ≤ b → Ev (fun k => spec_l18Write.l1 k (b : Int) (i : Int) T X (circF T i 0)) (T, X, circF T b 0) := by
    intro X d
    have last : ∀ i : Nat, i = b → Ev (fun k => spec_l18Write.l1 k (b : Int) (i : Int) T X (circF T i 0)) (T, X, circF T b 0) := by
      intro i hi
      subst hi
      refine ev_unroll ?_
      simp only [spec_l18Write.l1, if_neg (show ¬ (i : Int) < (i : Int) by omega)]
      exact Ev.now _
    induction d with
    | zero => exact fun i hd hi => last i (by omega)
    | succ d ih =>
      intro i hd hi
      by_cases hlt : i < b
      · have h := ih (i + 1) (by omega) (by omega)
        have hw := Aside0.mk (show wrap64 ((i : Int) + 1) = ((i + 1 : Nat) : Int) from (w64 (by omega) (by omega)).trans (by omega))
        have hcl := circF_len T i 0
        refine ev_unroll ?_
        simp only [spec_l18Write.l1, if_pos (show (i : Int) < (b : Int) by omega)]
        refine Ev.bind (first_ev T X (circF T i 0) (by omega) i true) ?_
        simp only [if_true, if_pos (show (circF T i 0).length < 17592186044416 by omega), circF_succ, hw.out]
        exact h
      · exact last i (by omega)
  have l0 : ∀ (d i : Nat), a - i ≤ d → i ≤ a → Ev (fun k => spec_l18Write.l0 k (a : Int) (b : Int) (i : Int) T (linesF T i 0)) (T, linesF T a 0, circF T b 0) := by
    intro d
    have last : ∀ i : Nat, i = a → Ev (fun k => spec_l18Write.l0 k (a : Int) (b : Int) (i : Int) T (linesF T i 0)) (T, linesF T a 0, circF T b 0) := by
      intro i hi
      subst hi
      have h := l1 (linesF T i 0) b 0 (by omega) (by omega)
      refine ev_unroll ?_
      simp only [spec_l18Write.l0, if_neg (show ¬ (i : Int) < (i : Int) by omega)]
      exact h
    induction d with
    | zero => exact fun i hd hi => last i (by omega)
    | succ d ih =>
      intro i hd hi
      by_cases hlt : i < a
      · have h := ih (i + 1) (by omega) (by omega)
        have hw := Aside0.mk (show wrap64 ((i : Int) + 1) = ((i + 1 : Nat) : Int) from (w64 (by omega) (by omega)).trans (by omega))
        have hcl := linesF_len T i 0
        refine ev_unroll ?_
        simp only [spec_l18Write.l0, if_pos (show (i : Int) < (a : Int) by omega)]
        refine Ev.bind (first_ev T (linesF T i 0) ([] : List Int) (by omega) i false) ?_
        simp only [Bool.false_eq_true, if_false, if_pos (show (linesF T i 0).length < 17592186044416 by omega), linesF_succ, hw.out]
        exact h
      · exact last i (by omega)
  have h := l0 a 0 (by omega) (by omega)
  simp only [spec_l18Write.f, Option.bind_some, List.length_nil, Nat.zero_add, List.nil_append, if_pos (show T.length < 5864062014805 by omega)]
  exact h
def mendR (L C : List Int) (r : List S50 × List Int) : List S50 × List Int × List Int × List Int := (r.1, linesF r.1 L.length 0, circF r.1 C.length 0, r.2)
theorem drop_cons (T : List S50) (i : Nat) (h : i < T.length) : T.drop i = T[i] :: T.drop (i + 1) := List.drop_eq_getElem_cons h
theorem spec_mend (T : List S50) (L C : List Int) (hb : InBook T L C) : ∀ (d i : Nat) (g : List Int) (kp : List S50), T.length - i ≤ d → i ≤ T.length → g.length ≤ i → kp.length ≤ i → Ev (fun k => spec_MendBook.l0 k g kp (i : Int) T L C) (mendR L C (mendG (T.drop i) i g kp)) := by
  obtain ⟨⟨n1, n2, n3⟩, _⟩ := hb
  intro d
  have last : ∀ (i : Nat) (g : List Int) (kp : List S50), i = T.length → g.length ≤ i → kp.length ≤ i → Ev (fun k => spec_MendBook.l0 k g kp (i : Int) T L C) (mendR L C (mendG (T.drop i) i g kp)) := by
    intro i g kp hi hg hk
    subst hi
    rw [List.drop_length]
    refine ev_unroll ?_
    simp only [spec_MendBook.l0, if_neg (show ¬ (T.length : Int) < (T.length : Int) by omega)]
    exact Ev.bind (write_ev kp L.length C.length (by omega) n2 n3) (Ev.now _)
  induction d with
  | zero => exact fun i g kp hd hi hg hk => last i g kp (by omega) hg hk
  | succ d ih =>
    intro i g kp hd hi hg hk
    by_cases hlt : i < T.length
    · have hw := Aside0.mk (show wrap64 ((i : Int) + 1) = ((i + 1 : Nat) : Int) from (w64 (by omega) (by omega)).trans (by omega))
      have fin : ∀ b : Bool, (b = true ↔ ¬ (T[i].f0 = T[i].f1 ∨ kp.any (meetB T[i]) = true)) → Ev (fun k => if b = true then (if kp.length < 5864062014805 then (spec_MendBook.l0 k g (kp ++ [(⟨T[i].f0, T[i].f1, T[i].f2⟩ : S50)]) ((i + 1 : Nat) : Int) T L C) else (none)) else (if g.length < 17592186044416 then (spec_MendBook.l0 k (g ++ [(i : Int)]) kp ((i + 1 : Nat) : Int) T L C) else (none))) (mendR L C (mendG (T.drop i) i g kp)) := by
        intro b hbb
        rw [drop_cons T i hlt]
        unfold mendG
        by_cases c : T[i].f0 = T[i].f1 ∨ kp.any (meetB T[i]) = true
        · have e : b = false := by cases b with
            | false => rfl
            | true => exact absurd c (hbb.mp rfl)
          subst e
          have h := ih (i + 1) (g ++ [(i : Int)]) kp (by omega) (by omega) (by rw [List.length_append]; simp only [List.length_cons, List.length_nil]; omega) (by omega)
          rw [if_pos c]
          simp only [Bool.false_eq_true, if_false, if_pos (show g.length < 17592186044416 by omega)]
          exact h
        · have e : b = true := hbb.mpr c
          subst e
          have h := ih (i + 1) g (kp ++ [T[i]]) (by omega) (by omega) (by omega) (by rw [List.length_append]; simp only [List.length_cons, List.length_nil]; omega)
          rw [if_neg c]
          simp only [if_true, if_pos (show kp.length < 5864062014805 by omega)]
          exact h
      have inner : ∀ (e j : Nat) (b : Bool), kp.length - j ≤ e → (b = true ↔ ¬ (T[i].f0 = T[i].f1 ∨ (kp.take j).any (meetB T[i]) = true)) → j ≤ kp.length → Ev (fun k => spec_MendBook.l1 k g kp (i : Int) b (j : Int) T L C T[i].f0 T[i].f1 T[i].f2) (mendR L C (mendG (T.drop i) i g kp)) := by
        intro e
        have done : ∀ (j : Nat) (b : Bool), j = kp.length → (b = true ↔ ¬ (T[i].f0 = T[i].f1 ∨ (kp.take j).any (meetB T[i]) = true)) → Ev (fun k => spec_MendBook.l1 k g kp (i : Int) b (j : Int) T L C T[i].f0 T[i].f1 T[i].f2) (mendR L C (mendG (T.drop i) i g kp)) := by
          intro j b hj hbb
          subst hj
          rw [List.take_length] at hbb
          refine ev_unroll ?_
          simp only [spec_MendBook.l1, if_neg (show ¬ (kp.length : Int) < (kp.length : Int) by omega), hw.out]
          exact fin b hbb
        induction e with
        | zero => exact fun j b hd2 hbb hj => done j b (by omega) hbb
        | succ e ih2 =>
          intro j b hd2 hbb hj
          by_cases hj2 : j < kp.length
          · have hwj := Aside0.mk (show wrap64 ((j : Int) + 1) = ((j + 1 : Nat) : Int) from (w64 (by omega) (by omega)).trans (by omega))
            have hany : (kp.take (j + 1)).any (meetB T[i]) = ((kp.take j).any (meetB T[i]) || meetB T[i] kp[j]) := by
              rw [List.take_succ_eq_append_getElem hj2, List.any_append]; simp
            refine ev_unroll ?_
            simp only [spec_MendBook.l1, if_pos (show (j : Int) < (kp.length : Int) by omega), if_pos (show (0 : Int) ≤ (j : Int) by omega), rd50_get kp j hj2, shares_eq, Option.bind_some, hwj.out]
            cases b with
            | true =>
              simp only [if_true]
              refine ih2 (j + 1) _ (by omega) ?_ (by omega)
              rw [hany]
              have hn := hbb.mp rfl
              cases hm : meetB T[i] kp[j] <;> simp_all
            | false =>
              simp only [Bool.false_eq_true, if_false]
              refine ih2 (j + 1) _ (by omega) ?_ (by omega)
              rw [hany]
              refine ⟨fun h => by simp at h, fun h => ?_⟩
              exact hbb.mpr fun hh => h (hh.elim Or.inl fun h3 => Or.inr (by rw [h3]; rfl))
          · exact done j b (by omega) hbb
      have h := inner kp.length 0 (T[i].f0 != T[i].f1) (by omega) (by simp) (by omega)
      refine ev_unroll ?_
      simp only [spec_MendBook.l0, if_pos (show (i : Int) < (T.length : Int) by omega), if_pos (show (0 : Int) ≤ (i : Int) by omega), rd50_get T i hlt]
      exact h
    · exact last i g kp (by omega) hg hk
theorem impl_mend (T : List S50) (L C : List Int) (hb : InBook T L C) : ∀ (d i : Nat) (g : List Int) (kp : List S50), T.length - i ≤ d → i ≤ T.length → g.length ≤ i → kp.length ≤ i → (∀ t ∈ kp, TkIn L.length C.length t) → Ev (fun k => impl_MendBook.l0 k g T (T.length : Int) (i : Int) kp L C) (mendR L C (mendG (T.drop i) i g kp)) := by
  have hin := of_inBook T L C hb
  obtain ⟨⟨n1, n2, n3⟩, _⟩ := hb
  intro d
  have last : ∀ (i : Nat) (g : List Int) (kp : List S50), i = T.length → g.length ≤ i → kp.length ≤ i → (∀ t ∈ kp, TkIn L.length C.length t) → Ev (fun k => impl_MendBook.l0 k g T (T.length : Int) (i : Int) kp L C) (mendR L C (mendG (T.drop i) i g kp)) := by
    intro i g kp hi hg hk ht
    subst hi
    rw [List.drop_length]
    refine ev_unroll ?_
    simp only [impl_MendBook.l0, if_neg (show ¬ (T.length : Int) < (T.length : Int) by omega)]
    exact Ev.bind (said_ev kp L C (inBook_of kp L C (by omega) n2 n3 ht)) (Ev.now _)
  induction d with
  | zero => exact fun i g kp hd hi hg hk ht => last i g kp (by omega) hg hk ht
  | succ d ih =>
    intro i g kp hd hi hg hk ht
    by_cases hlt : i < T.length
    · have hw := Aside0.mk (show wrap64 ((i : Int) + 1) = ((i + 1 : Nat) : Int) from (w64 (by omega) (by omega)).trans (by omega))
      have h1 := ih (i + 1) (g ++ [(i : Int)]) kp (by omega) (by omega) (by rw [List.length_append]; simp only [List.length_cons, List.length_nil]; omega) (by omega) ht
      have h2 := ih (i + 1) g (kp ++ [T[i]]) (by omega) (by omega) (by omega) (by rw [List.length_append]; simp only [List.length_cons, List.length_nil]; omega) (fun u hu => (List.mem_append.mp hu).elim (ht u) fun e => by rw [List.mem_singleton.mp e]; exact hin _ (List.getElem_mem hlt))
      rw [drop_cons T i hlt]
      unfold mendG
      refine ev_unroll ?_
      simp only [impl_MendBook.l0, if_pos (show (i : Int) < (T.length : Int) by omega), if_pos (show (0 : Int) ≤ (i : Int) by omega), rd50_get T i hlt, impl_Talk_42.f, if_pos (show kp.length ≤ 1048576 by omega), Option.bind_some, hw.out, if_pos (show g.length < 17592186044416 by omega), if_pos (show kp.length < 5864062014805 by omega)]
      by_cases c1 : T[i].f0 = T[i].f1
      · simp only [if_pos c1, if_pos (show T[i].f0 = T[i].f1 ∨ kp.any (meetB T[i]) = true from Or.inl c1)]
        exact h1
      · by_cases c2 : kp.any (meetB T[i]) = true
        · simp only [if_neg c1, if_pos c2, if_pos (show T[i].f0 = T[i].f1 ∨ kp.any (meetB T[i]) = true from Or.inr c2)]
          exact h1
        · simp only [if_neg c1, if_neg c2, if_neg (show ¬ (T[i].f0 = T[i].f1 ∨ kp.any (meetB T[i]) = true) from fun h => h.elim c1 c2)]
          exact h2
    · exact last i g kp (by omega) hg hk ht
theorem mend_both (T : List S50) (L C : List Int) (hT : T.length ≤ 1048576) (hL : L.length ≤ 1048576) (hC : C.length ≤ 1048576) : ∃ (a : List S50) (b c d : List Int), (a.length ≤ 30 ∧ b.length ≤ 30 ∧ c.length ≤ 30 ∧ d.length ≤ 30) ∧ Ev (fun k => spec_MendBook.f k T L C) (a, b, c, d) ∧ Ev (fun k => impl_MendBook.f k T L C) (a, b, c, d) := by
  obtain ⟨b, p, q, hb⟩ := book_both T L C hT hL hC
  cases b
  · refine ⟨[], [], [], [], by simp, ?_, ?_⟩
    · simp only [spec_MendBook.f, Option.bind_some]
      refine Ev.bind p ?_
      simp only [Bool.false_eq_true, if_false]
      exact Ev.now _
    · simp only [impl_MendBook.f]
      refine Ev.bind q ?_
      simp only [Bool.false_eq_true, if_false]
      exact Ev.now _
  · have hb := hb rfl
    have n := hb.1
    have hin := of_inBook T L C hb
    obtain ⟨r1, r2, _⟩ := mendG_in L.length C.length T 0 [] [] hin (by simp)
    simp only [List.length_nil, Nat.zero_add] at r1 r2
    refine ⟨(mendG T 0 [] []).1, linesF (mendG T 0 [] []).1 L.length 0, circF (mendG T 0 [] []).1 C.length 0, (mendG T 0 [] []).2, ⟨by omega, by rw [linesF_len]; omega, by rw [circF_len]; omega, by omega⟩, ?_, ?_⟩
    · have h := spec_mend T L C hb T.length 0 [] [] (by omega) (by omega) (by simp) (by simp)
      simp only [spec_MendBook.f, Option.bind_some]
      refine Ev.bind p ?_
      simp only [if_true]
      exact h
    · have h := impl_mend T L C hb T.length 0 [] [] (by omega) (by omega) (by simp) (by simp) (by simp)
      simp only [impl_MendBook.f]
      refine Ev.bind q ?_
      simp only [if_true, slices_Clone_int_int.f, if_pos (show L.length ≤ 1048576 by omega), if_pos (show C.length ≤ 1048576 by omega), Option.bind_some]
      exact h
theorem sameInts_ev (x0 : List Int) (x1 : List Int) (hn : x0.length ≤ 1048576) : Ev (fun k => laws_sameInts.f k x0 x1) (decide (x0 = x1)) := by
  by_cases hl : x0.length = x1.length
  · have key : ∀ (d : Nat) (i : Nat), x0.length - i = d → i ≤ x0.length → Ev (fun k => laws_sameInts.l0 k x0 x1 (i : Int)) (decide (x0.drop i = x1.drop i)) := by
      intro d
      induction d with
      | zero =>
        intro i hd hi
        rw [List.drop_eq_nil_of_le (show x0.length ≤ i by omega), List.drop_eq_nil_of_le (show x1.length ≤ i by omega)]
        refine ev_unroll ?_
        simp (disch := omega) only [laws_sameInts.l0, ↓if_neg, decide_true]
        exact Ev.now _
      | succ d ih =>
        intro i hd hi
        have h := ih (i + 1) (by omega) (by omega)
        rw [drop_rd (show i < x0.length by omega), drop_rd (show i < x1.length by omega)]
        by_cases he : rd x0 (i : Int) = rd x1 (i : Int)
        · refine ev_unroll ?_
          simp (disch := omega) only [laws_sameInts.l0, ↓if_pos, w64]
          simpa [he] using h
        · refine ev_unroll ?_
          simp (disch := omega) only [laws_sameInts.l0, ↓if_pos, ↓if_neg]
          rw [decide_eq_false (by intro h2; injection h2 with h3 h4; exact he h3)]
          exact Ev.now _
    have h := key _ 0 rfl (by omega)
    simp (disch := omega) only [laws_sameInts.f, ↓if_pos]
    simpa using h
  · have he : x0 ≠ x1 := fun h => hl (by rw [h])
    simp (disch := omega) only [laws_sameInts.f, ↓if_neg]
    rw [decide_eq_false he]
    exact Ev.now _
def Tidy : List S50 → List S50 → Prop
  | _, [] => True
  | kp, t :: ts => (t.f0 ≠ t.f1 ∧ kp.any (meetB t) = false) ∧ Tidy (kp ++ [t]) ts
theorem tidy_snoc : ∀ (ts kp : List S50) (t : S50), Tidy kp ts → t.f0 ≠ t.f1 → (kp ++ ts).any (meetB t) = false → Tidy kp (ts ++ [t]) := by
  intro ts
  induction ts with
  | nil => intro kp t _ h1 h2; exact ⟨⟨h1, by simpa using h2⟩, trivial⟩
  | cons u ts ih => intro kp t h h1 h2; exact ⟨h.1, ih (kp ++ [u]) t h.2 h1 (by simpa using h2)⟩
theorem mendG_tidy : ∀ (ts : List S50) (i : Nat) (g : List Int) (kp : List S50), Tidy [] kp → Tidy [] (mendG ts i g kp).1 ∧ (mendG ts i g kp).1.length + (mendG ts i g kp).2.length = kp.length + g.length + ts.length := by
  intro ts
  induction ts with
  | nil => intro i g kp h; exact ⟨h, by simp [mendG]⟩
  | cons t ts ih =>
    intro i g kp h
    unfold mendG
    split
    · obtain ⟨p, q⟩ := ih (i + 1) (g ++ [(i : Int)]) kp h
      exact ⟨p, by rw [q]; simp; omega⟩
    · rename_i hc
      have hc1 : t.f0 ≠ t.f1 := fun e => hc (.inl e)
      have hc2 : kp.any (meetB t) = false := Bool.eq_false_iff.mpr fun e => hc (.inr e)
      obtain ⟨p, q⟩ := ih (i + 1) g (kp ++ [t]) (tidy_snoc kp [] t h hc1 (by simpa using hc2))
      exact ⟨p, by rw [q]; simp; omega⟩
theorem mendG_id : ∀ (ts : List S50) (i : Nat) (g : List Int) (kp : List S50), Tidy kp ts → mendG ts i g kp = (kp ++ ts, g) := by
  intro ts
  induction ts with
  | nil => intro i g kp _; simp [mendG]
  | cons t ts ih =>
    intro i g kp h
    unfold mendG
    rw [if_neg (fun hc => hc.elim h.1.1 fun e => by rw [h.1.2] at e; simp at e), ih (i + 1) g (kp ++ [t]) h.2]
    simp
theorem tidy_at : ∀ (ts kp : List S50) (j : Nat) (hj : j < ts.length), Tidy kp ts → ts[j].f0 ≠ ts[j].f1 ∧ (kp ++ ts.take j).any (meetB ts[j]) = false := by
  intro ts
  induction ts with
  | nil => intro kp j hj; simp at hj
  | cons t ts ih =>
    intro kp j hj h
    cases j with
    | zero => exact ⟨h.1.1, by simpa using h.1.2⟩
    | succ j =>
      have hj' : j < ts.length := by simpa using hj
      have := ih (kp ++ [t]) j hj' h.2
      simpa using this
theorem tidy_of : ∀ (ts kp : List S50), (∀ (j : Nat) (hj : j < ts.length), ts[j].f0 ≠ ts[j].f1 ∧ (kp ++ ts.take j).any (meetB ts[j]) = false) → Tidy kp ts := by
  intro ts
  induction ts with
  | nil => intro kp _; trivial
  | cons t ts ih =>
    intro kp h
    refine ⟨?_, ih (kp ++ [t]) fun j hj => ?_⟩
    · have := h 0 (by simp)
      simpa using this
    · have := h (j + 1) (by simp; omega)
      simpa using this
theorem tw_nil (T : List S50) (h : Tidy [] T) : ∀ n, n ≤ T.length → twA T n = [] := by
  intro n
  induction n with
  | zero => intro _; rfl
  | succ n ih =>
    intro hn
    have := (tidy_at T [] n (by omega) h).2
    rw [List.nil_append] at this
    rw [twA, ih (by omega), rd50_get T n (by omega), this]
    simp
theorem sl_nil (T : List S50) (h : Tidy [] T) : ∀ n, n ≤ T.length → slA T n = [] := by
  intro n
  induction n with
  | zero => intro _; rfl
  | succ n ih =>
    intro hn
    have := (tidy_at T [] n (by omega) h).1
    rw [slA, ih (by omega), rd50_get T n (by omega), if_neg this]
    simp
theorem tolA_nil (l : List Int) (k : Int) : ∀ n, tolA l l k n = [] := by
  intro n
  induction n with
  | zero => rfl
  | succ n ih => rw [tolA, ih, if_neg (fun h => h.2 rfl)]; simp
theorem tolB_nil (l : List Int) (k : Int) : ∀ n, tolB l l k n = [] := by
  intro n
  induction n with
  | zero => rfl
  | succ n ih => rw [tolB, ih, if_neg (fun h => by omega)]; simp
theorem tw_tidy (T : List S50) : ∀ n, n ≤ T.length → twA T n = [] → ∀ (j : Nat) (hj : j < T.length), j < n → (T.take j).any (meetB T[j]) = false := by
  intro n
  induction n with
  | zero => intro _ _ j _ h; omega
  | succ n ih =>
    intro hn h j hj hjn
    rw [twA] at h
    obtain ⟨h1, h2⟩ := List.append_eq_nil_iff.mp h
    by_cases e : j = n
    · subst e
      rw [rd50_get T j hj] at h2
      cases hm : (T.take j).any (meetB T[j])
      · rfl
      · rw [hm] at h2; simp at h2
    · exact ih (by omega) h1 j hj (by omega)
theorem sl_tidy (T : List S50) : ∀ n, n ≤ T.length → slA T n = [] → ∀ (j : Nat) (hj : j < T.length), j < n → T[j].f0 ≠ T[j].f1 := by
  intro n
  induction n with
  | zero => intro _ _ j _ h; omega
  | succ n ih =>
    intro hn h j hj hjn
    rw [slA] at h
    obtain ⟨h1, h2⟩ := List.append_eq_nil_iff.mp h
    by_cases e : j = n
    · subst e
      rw [rd50_get T j hj] at h2
      intro he
      rw [if_pos he] at h2
      simp at h2
    · exact ih (by omega) h1 j hj (by omega)
theorem tidy_of_faults (T : List S50) (L C : List Int) (h : faultsL T L C = []) : Tidy [] T := by
  unfold faultsL at h
  simp only [List.append_eq_nil_iff] at h
  obtain ⟨⟨⟨⟨⟨h1, h2⟩, _⟩, _⟩, _⟩, _⟩ := h
  exact tidy_of T [] fun j hj => ⟨sl_tidy T T.length (Nat.le_refl _) h2 j hj hj, by simpa using tw_tidy T T.length (Nat.le_refl _) h1 j hj hj⟩
theorem faultsL_nil (T : List S50) (n m : Nat) (h : Tidy [] T) : faultsL T (linesF T n 0) (circF T m 0) = [] := by
  unfold faultsL
  rw [tw_nil T h _ (Nat.le_refl _), sl_nil T h _ (Nat.le_refl _), linesF_len, circF_len]
  simp only [tolA_nil, tolB_nil, List.append_nil]
theorem book_ok (T : List S50) (n m : Nat) (hT : T.length ≤ 30) (hn : n ≤ 30) (hm : m ≤ 30) (h : ∀ t ∈ T, TkIn n m t) : Ev (fun k => spec_BookOk.f k T (linesF T n 0) (circF T m 0)) true ∧ Ev (fun k => impl_BookOk.f k T (linesF T n 0) (circF T m 0)) true := by
  have l1 := linesF_len T n 0
  have l2 := circF_len T m 0
  obtain ⟨b, o, p⟩ := spec_ok T (linesF T n 0) (circF T m 0) (by omega) (by omega) (by omega)
  obtain ⟨b2, p2, q2⟩ := book_both0 T (linesF T n 0) (circF T m 0) (by omega) (by omega) (by omega)
  obtain rfl := ev_unique p p2
  have hb : b = true := o.mpr ⟨by rw [l1, l2]; omega, fun j h0 hj => by
    obtain ⟨x, rfl⟩ := Int.eq_ofNat_of_zero_le h0
    have hx : x < T.length := by omega
    have := h T[x] (List.getElem_mem hx)
    unfold TkIn at this
    unfold TOk
    rw [rd50_get T x hx, l1, l2]
    omega, fun j h0 hj => by
    obtain ⟨x, rfl⟩ := Int.eq_ofNat_of_zero_le h0
    unfold VOk
    rw [rd_linesF T n 0 x (by omega)]
    have := ff_ge (pl x) T 0
    omega, fun j h0 hj => by
    obtain ⟨x, rfl⟩ := Int.eq_ofNat_of_zero_le h0
    unfold VOk
    rw [rd_circF T m 0 x (by omega)]
    have := ff_ge (pc x) T 0
    omega⟩
  subst hb
  exact ⟨p, q2⟩
theorem faults_ok (T : List S50) (L C : List Int) (p : Ev (fun k => spec_BookOk.f k T L C) true) (q : Ev (fun k => impl_BookOk.f k T L C) true) (hbk : InBook T L C) : Ev (fun k => spec_Faults.f k T L C) (faultsL T L C) ∧ Ev (fun k => impl_Faults.f k T L C) (faultsL T L C) := by
  refine ⟨spec_faults_ev T L C hbk p, ?_⟩
  unfold impl_Faults.f
  refine Ev.bind q ?_
  have hT2 := hbk.1
  simp only [if_true]
  refine ev_ifpos ⟨by omega, by omega, by omega⟩ ?_
  refine Ev.bind (said_ev T L C hbk) ?_
  refine ev_ifpos ⟨linesF_len _ _ _, circF_len _ _ _⟩ ?_
  exact Ev.now _
theorem inBook_said (T : List S50) (n m : Nat) (hT : T.length ≤ 30) (hn : n ≤ 30) (hm : m ≤ 30) (h : ∀ t ∈ T, TkIn n m t) : InBook T (linesF T n 0) (circF T m 0) :=
  inBook_of T _ _ hT (by rw [linesF_len]; exact hn) (by rw [circF_len]; exact hm) (by rw [linesF_len, circF_len]; exact h)
theorem faults_none (T : List S50) (n m : Nat) (hT : T.length ≤ 30) (hn : n ≤ 30) (hm : m ≤ 30) (h : ∀ t ∈ T, TkIn n m t) (ht : Tidy [] T) : Ev (fun k => spec_Faults.f k T (linesF T n 0) (circF T m 0)) [] ∧ Ev (fun k => impl_Faults.f k T (linesF T n 0) (circF T m 0)) [] := by
  obtain ⟨p, q⟩ := book_ok T n m hT hn hm h
  have := faults_ok T _ _ p q (inBook_said T n m hT hn hm h)
  rw [faultsL_nil T n m ht] at this
  exact this
theorem mend_in (T : List S50) (L C : List Int) (q : Ev (fun k => impl_BookOk.f k T L C) true) (hb : InBook T L C) : Ev (fun k => impl_MendBook.f k T L C) (mendR L C (mendG T 0 [] [])) := by
  have n := hb.1
  have h := impl_mend T L C hb T.length 0 [] [] (by omega) (by omega) (by simp) (by simp) (by simp)
  simp only [impl_MendBook.f]
  refine Ev.bind q ?_
  simp only [if_true, slices_Clone_int_int.f, if_pos (show L.length ≤ 1048576 by omega), if_pos (show C.length ≤ 1048576 by omega), Option.bind_some]
  exact h
theorem restart_in (T : List S50) (L C : List Int) (d : Int) (hd : 1 ≤ d ∧ d ≤ 3) (q : Ev (fun k => impl_BookOk.f k T L C) true) (hb : InBook T L C) : Ev (fun k => impl_Restart.f k T L C d) (if d = 2 then ((mendR L C (mendG T 0 [] [])).1, (mendR L C (mendG T 0 [] [])).2.1, (mendR L C (mendG T 0 [] [])).2.2.1, true) else if d = 3 then ([], linesF [] L.length 0, circF [] C.length 0, true) else (T, L, C, true)) := by
  have n := hb.1
  have hown : Ev (fun k => impl_ownBook.f k T L C) (T, L, C) := by
    simp only [impl_ownBook.f, impl_Talk_66.f, slices_Clone_int_int.f, if_pos (show T.length ≤ 1048576 by omega), if_pos (show L.length ≤ 1048576 by omega), if_pos (show C.length ≤ 1048576 by omega), Option.bind_some]
    exact Ev.now _
  have hi : impl_in.f d 1 3 = some true := by
    unfold impl_in.f
    rw [if_pos hd.1, decide_eq_true hd.2]
  unfold impl_Restart.f
  refine Ev.bind q ?_
  simp only [if_true, hi, Option.bind_some, Bool.not_true]
  refine ev_unroll ?_
  by_cases h2 : d = 2
  · simp only [impl_Restart.j0, Bool.false_eq_true, if_false, if_pos h2]
    exact Ev.bind hown (Ev.bind (mend_in T L C q hb) (Ev.now _))
  · by_cases h3 : d = 3
    · simp only [impl_Restart.j0, Bool.false_eq_true, if_false, if_neg h2, if_pos h3]
      exact Ev.bind hown (Ev.bind (said_ev [] L C (inBook_of [] L C (by simp) n.2.1 n.2.2 (by simp))) (Ev.now _))
    · simp only [impl_Restart.j0, Bool.false_eq_true, if_false, if_neg h2, if_neg h3]
      exact Ev.bind hown (Ev.now _)
theorem copy_ev (T : List S50) (L C : List Int) (hT : T.length ≤ 1048576) (hL : L.length ≤ 1048576) (hC : C.length ≤ 1048576) : spec_l18Copy.f T L C = some (T, L, C) := by
  simp only [spec_l18Copy.f, Option.bind_some, List.length_nil, Nat.zero_add, if_pos (show T.length < 5864062014805 by omega), if_pos (show L.length < 17592186044416 by omega), if_pos (show C.length < 17592186044416 by omega), List.nil_append]
theorem own_ev (T : List S50) (L C : List Int) (hT : T.length ≤ 1048576) (hL : L.length ≤ 1048576) (hC : C.length ≤ 1048576) : Ev (fun k => impl_ownBook.f k T L C) (T, L, C) := by
  simp only [impl_ownBook.f, impl_Talk_66.f, slices_Clone_int_int.f, if_pos hT, if_pos hL, if_pos hC, Option.bind_some]
  exact Ev.now _
theorem in_eq2 (x a b : Int) : impl_in.f x a b = some (decide (a ≤ x ∧ x ≤ b)) := by
  unfold impl_in.f
  by_cases h : x ≥ a
  · rw [if_pos h]; congr 1; simp [show a ≤ x from h]
  · rw [if_neg h, decide_eq_false (fun h2 => h h2.1)]
theorem l1In_eq2 (x a b : Int) : spec_l1In.f x a b = some (decide (a ≤ x ∧ x ≤ b)) := in_eq2 x a b
theorem spec_loop (T : List S50) (L C : List Int) (t : S50) (hT : T.length ≤ 29) (hL : L.length ≤ 30) (hC : C.length ≤ 30) : ∀ (d i : Nat), T.length - i ≤ d → i ≤ T.length →
    Ev (fun k => spec_Add18.l0 k (i : Int) T L C t.f0 t.f1 t.f2) (if (T.drop i).any (meetB t) = true then (T, L, C, false) else (T ++ [t], linesF (T ++ [t]) L.length 0, circF (T ++ [t]) C.length 0, true)) := by
  have hw := write_ev (T ++ [t]) L.length C.length (by simp; omega) hL hC
  intro d
  have last : ∀ i : Nat, i = T.length → Ev (fun k => spec_Add18.l0 k (i : Int) T L C t.f0 t.f1 t.f2) (if (T.drop i).any (meetB t) = true then (T, L, C, false) else (T ++ [t], linesF (T ++ [t]) L.length 0, circF (T ++ [t]) C.length 0, true)) := by
    intro i hi
    rw [hi, List.drop_length]
    simp only [List.any_nil, Bool.false_eq_true, if_false]
    refine ev_unroll ?_
    simp only [spec_Add18.l0, if_neg (show ¬ (T.length : Int) < (T.length : Int) by omega), if_pos (show T.length < 5864062014805 by omega)]
    refine Ev.bind hw ?_
    exact Ev.now _
  induction d with
  | zero => exact fun i hd hi => last i (by omega)
  | succ d ih =>
    intro i hd hi
    by_cases hlt : i < T.length
    · have e1 : rd_T50 T (i : Int) = T[i] := by simp [rd_T50, hlt]
      have h := ih (i + 1) (by omega) (by omega)
      rw [List.drop_eq_getElem_cons hlt, List.any_cons]
      refine ev_unroll ?_
      simp only [spec_Add18.l0, if_pos (show (i : Int) < (T.length : Int) by omega), if_pos (show (0 : Int) ≤ (i : Int) by omega), e1, shares_eq, Option.bind_some, w64 (x := (i : Int) + 1) (by omega) (by omega)]
      cases hm : meetB t T[i]
      · simp only [Bool.false_eq_true, if_false, Bool.false_or]
        simpa using h
      · simp only [if_true, Bool.true_or]
        exact Ev.now _
    · exact last i (by omega)
def AddR (T : List S50) (L C : List Int) (t : S50) (a : List S50) (b c : List Int) (o : Bool) : Prop :=
  (o = false ∧ a = T ∧ b = L ∧ c = C) ∨ (o = true ∧ T.length ≤ 29 ∧ Ev (fun k => impl_Faults.f k T L C) [] ∧ t.f0 ≠ t.f1 ∧ InBook T L C ∧ InBook (T ++ [t]) L C ∧ T.any (meetB t) = false ∧ a = T ++ [t] ∧ b = linesF (T ++ [t]) L.length 0 ∧ c = circF (T ++ [t]) C.length 0)
theorem add18_both (T : List S50) (L C : List Int) (t : S50) (hT : T.length ≤ 1048576) (hL : L.length ≤ 1048576) (hC : C.length ≤ 1048576) : ∃ (a : List S50) (b c : List Int) (o : Bool), AddR T L C t a b c o ∧ Ev (fun k => spec_Add18.f k T L C t.f0 t.f1 t.f2) (a, b, c, o) ∧ Ev (fun k => impl_Add18.f k T L C t.f0 t.f1 t.f2) (a, b, c, o) := by
  obtain ⟨r, hr, ps, pi⟩ := faults_both T L C hT hL hC
  have hcp := copy_ev T L C hT hL hC
  have hown := own_ev T L C hT hL hC
  have no : Ev (fun k => spec_Add18.j0 k true T L C t.f0 t.f1 t.f2) (T, L, C, false) := ev_unroll (by simp only [spec_Add18.j0, if_true]; exact Ev.now _)
  have sS : ∀ (g : Nat → List S69 → Option (List S50 × List Int × List Int × Bool)) (q : List S50 × List Int × List Int × Bool), True := fun _ _ => trivial
  by_cases h1 : (r.length : Int) > 0
  · refine ⟨T, L, C, false, .inl ⟨rfl, rfl, rfl, rfl⟩, ?_, ?_⟩
    · simp only [spec_Add18.f, hcp, Option.bind_some]
      refine Ev.bind ps ?_
      simp only [if_pos h1]
      exact no
    · simp only [impl_Add18.f]
      refine Ev.bind hown (Ev.bind pi ?_)
      simp only [if_pos h1]
      exact Ev.now _
  by_cases h2 : (T.length : Int) = 30
  · refine ⟨T, L, C, false, .inl ⟨rfl, rfl, rfl, rfl⟩, ?_, ?_⟩
    · simp only [spec_Add18.f, hcp, Option.bind_some]
      refine Ev.bind ps ?_
      simp only [if_neg h1, if_pos h2]
      exact no
    · simp only [impl_Add18.f]
      refine Ev.bind hown (Ev.bind pi ?_)
      simp only [if_neg h1, if_pos h2]
      exact Ev.now _
  have hb : InBook T L C := by
    obtain ⟨b, p, q, hb⟩ := book_both T L C hT hL hC
    cases b
    · have hz : Ev (fun k => impl_Faults.f k T L C) [(⟨7, 0⟩ : S69)] := by
        unfold impl_Faults.f
        refine Ev.bind q ?_
        simp only [Bool.false_eq_true, if_false]
        exact Ev.now _
      have e := ev_unique pi hz
      rw [e] at h1
      simp at h1
    · exact hb rfl
  have n := hb.1
  have wL : wrap64 ((L.length : Int) - 1) = (L.length : Int) - 1 := w64 (by omega) (by omega)
  have wC : wrap64 ((C.length : Int) - 1) = (C.length : Int) - 1 := w64 (by omega) (by omega)
  by_cases hA : 0 ≤ t.f0 ∧ t.f0 ≤ (L.length : Int) - 1
  · by_cases hB : 0 ≤ t.f1 ∧ t.f1 ≤ (L.length : Int) - 1
    · by_cases hc : -1 ≤ t.f2 ∧ t.f2 ≤ (C.length : Int) - 1
      · by_cases he : t.f0 = t.f1
        · refine ⟨T, L, C, false, .inl ⟨rfl, rfl, rfl, rfl⟩, ?_, ?_⟩
          · simp only [spec_Add18.f, hcp, Option.bind_some]
            refine Ev.bind ps ?_
            simp only [if_neg h1, if_neg h2, if_pos he]
            exact no
          · simp only [impl_Add18.f]
            refine Ev.bind hown (Ev.bind pi ?_)
            simp only [if_neg h1, if_neg h2, wL, wC, in_eq2, decide_eq_true hA, decide_eq_true hB, decide_eq_true hc, Option.bind_some, if_true, if_pos he]
            exact Ev.now _
        · have hin : InBook (T ++ [t]) L C := inBook_of _ L C (by simp; omega) n.2.1 n.2.2 (fun u hu => by
            rcases List.mem_append.mp hu with hu | hu
            · exact of_inBook T L C hb u hu
            · simp only [List.mem_singleton] at hu
              subst hu
              exact ⟨⟨hA.1, by omega⟩, ⟨hB.1, by omega⟩, ⟨hc.1, by omega⟩⟩)
          have hsd := said_ev (T ++ [t]) L C hin
          have hsp := spec_loop T L C t (by omega) n.2.1 n.2.2 T.length 0 (by omega) (by omega)
          simp only [List.drop_zero] at hsp
          have spec : ∀ q, Ev (fun k => spec_Add18.l0 k 0 T L C t.f0 t.f1 t.f2) q → Ev (fun k => spec_Add18.f k T L C t.f0 t.f1 t.f2) q := by
            intro q hq
            simp only [spec_Add18.f, hcp, Option.bind_some]
            refine Ev.bind ps ?_
            simp only [if_neg h1, if_neg h2, if_neg he, wL, wC, l1In_eq2, decide_eq_true hA, decide_eq_true hB, decide_eq_true hc, Option.bind_some, if_true, Bool.not_true]
            refine ev_unroll ?_
            simp only [spec_Add18.j0, Bool.false_eq_true, if_false]
            exact hq
          cases hm : T.any (meetB t)
          · rw [hm] at hsp
            simp only [Bool.false_eq_true, if_false] at hsp
            refine ⟨T ++ [t], linesF (T ++ [t]) L.length 0, circF (T ++ [t]) C.length 0, true, .inr ⟨rfl, by omega, ev_eq pi (List.eq_nil_of_length_eq_zero (by omega)), he, hb, hin, hm, rfl, rfl, rfl⟩, spec _ hsp, ?_⟩
            simp only [impl_Add18.f]
            refine Ev.bind hown (Ev.bind pi ?_)
            simp only [if_neg h1, if_neg h2, wL, wC, in_eq2, decide_eq_true hA, decide_eq_true hB, decide_eq_true hc, Option.bind_some, if_true, if_neg he, impl_Talk_42.f, if_pos hT, hm, Bool.false_eq_true, if_false, if_pos (show T.length < 5864062014805 by omega)]
            refine Ev.bind hsd ?_
            exact Ev.now _
          · rw [hm] at hsp
            simp only [if_true] at hsp
            refine ⟨T, L, C, false, .inl ⟨rfl, rfl, rfl, rfl⟩, spec _ hsp, ?_⟩
            simp only [impl_Add18.f]
            refine Ev.bind hown (Ev.bind pi ?_)
            simp only [if_neg h1, if_neg h2, wL, wC, in_eq2, decide_eq_true hA, decide_eq_true hB, decide_eq_true hc, Option.bind_some, if_true, if_neg he, impl_Talk_42.f, if_pos hT, hm]
            exact Ev.now _
      · refine ⟨T, L, C, false, .inl ⟨rfl, rfl, rfl, rfl⟩, ?_, ?_⟩
        · simp only [spec_Add18.f, hcp, Option.bind_some]
          refine Ev.bind ps ?_
          simp only [if_neg h1, if_neg h2, wL, wC, l1In_eq2, decide_eq_true hA, decide_eq_true hB, decide_eq_false hc, Option.bind_some, if_true, Bool.not_false]
          split <;> exact no
        · simp only [impl_Add18.f]
          refine Ev.bind hown (Ev.bind pi ?_)
          simp only [if_neg h1, if_neg h2, wL, wC, in_eq2, decide_eq_true hA, decide_eq_true hB, decide_eq_false hc, Option.bind_some, if_true, Bool.false_eq_true, if_false]
          exact Ev.now _
    · refine ⟨T, L, C, false, .inl ⟨rfl, rfl, rfl, rfl⟩, ?_, ?_⟩
      · simp only [spec_Add18.f, hcp, Option.bind_some]
        refine Ev.bind ps ?_
        simp only [if_neg h1, if_neg h2, wL, wC, l1In_eq2, decide_eq_true hA, decide_eq_false hB, Option.bind_some, if_true, Bool.false_eq_true, if_false]
        split <;> exact no
      · simp only [impl_Add18.f]
        refine Ev.bind hown (Ev.bind pi ?_)
        simp only [if_neg h1, if_neg h2, wL, wC, in_eq2, decide_eq_true hA, decide_eq_false hB, Option.bind_some, if_true, Bool.false_eq_true, if_false]
        exact Ev.now _
  · refine ⟨T, L, C, false, .inl ⟨rfl, rfl, rfl, rfl⟩, ?_, ?_⟩
    · simp only [spec_Add18.f, hcp, Option.bind_some]
      refine Ev.bind ps ?_
      simp only [if_neg h1, if_neg h2, wL, wC, l1In_eq2, decide_eq_false hA, Option.bind_some, Bool.false_eq_true, if_false]
      split <;> exact no
    · simp only [impl_Add18.f]
      refine Ev.bind hown (Ev.bind pi ?_)
      simp only [if_neg h1, if_neg h2, wL, wC, in_eq2, decide_eq_false hA, Option.bind_some, Bool.false_eq_true, if_false]
      exact Ev.now _
theorem evx {α : Type} {g : Nat → Option α} {r : α} (h : Ev g r) : ∃ k, g k = some r := Ev.rounds h
theorem same_self (l : List Int) (h : l.length ≤ 1048576) : ∃ k, laws_sameInts.f k l l = some true := by
  have := evx (sameInts_ev l l h)
  simpa using this
theorem facts : Facts where
  below := fun b i h n hb h0 h1 => l1Below_some b i h n hb h0 h1
  write := fun T a b hT ha0 ha hb0 hb => by
    obtain ⟨x, rfl⟩ := Int.eq_ofNat_of_zero_le ha0
    obtain ⟨y, rfl⟩ := Int.eq_ofNat_of_zero_le hb0
    obtain ⟨k, e⟩ := evx (write_ev T x y hT (by omega) (by omega))
    exact ⟨k, _, _, e, by rw [linesF_len], by rw [circF_len]⟩
  add := fun T L C x y z hT hL hC => by
    obtain ⟨a, b, c, o, hr, p, _⟩ := add18_both T L C ⟨x, y, z⟩ (by omega) (by omega) (by omega)
    obtain ⟨k, e⟩ := evx p
    refine ⟨k, a, b, c, o, e, ?_⟩
    rcases hr with ⟨_, rfl, rfl, rfl⟩ | ⟨_, h29, _, _, _, _, _, rfl, rfl, rfl⟩
    · exact ⟨hT, rfl, rfl⟩
    · exact ⟨by simp; omega, by rw [linesF_len], by rw [circF_len]⟩
theorem fm (T : List S50) (L C : List Int) (hT : T.length ≤ 31) (hL : L.length ≤ 31) (hC : C.length ≤ 31) : ∃ k T1 L1 C1 G, spec_MendBook.f k T L C = some (T1, L1, C1, G) ∧ T1.length ≤ 31 ∧ L1.length ≤ 31 ∧ C1.length ≤ 31 := by
  obtain ⟨a, b, c, d, ⟨h1, h2, h3, _⟩, p, _⟩ := mend_both T L C (by omega) (by omega) (by omega)
  obtain ⟨k, e⟩ := evx p
  exact ⟨k, a, b, c, d, e, by omega, by omega, by omega⟩
theorem ff_last (p : S50 → Bool) (T : List S50) (t : S50) (h : ∀ u ∈ T, p u = false) (ht : p t = true) : ∀ (d i : Nat), T.length - i = d → i ≤ T.length → ff p (T ++ [t]) i = (T.length : Int) := by
  intro d
  induction d with
  | zero =>
    intro i hd hi
    have e : i = T.length := by omega
    subst e
    rw [ff_step p (T ++ [t]) T.length (by simp)]
    simp [ht]
  | succ d ih =>
    intro i hd hi
    have hlt : i < T.length := by omega
    rw [ff_step p (T ++ [t]) i (by simp; omega)]
    have : (T ++ [t])[i]'(by simp; omega) = T[i] := List.getElem_append_left hlt
    rw [this, h T[i] (List.getElem_mem hlt)]
    simp only [Bool.false_eq_true, if_false]
    exact ih (i + 1) (by omega) (by omega)
theorem meet_no {t u : S50} (h : meetB t u = false) : t.f0 ≠ u.f0 ∧ t.f0 ≠ u.f1 ∧ t.f1 ≠ u.f0 ∧ t.f1 ≠ u.f1 := by
  unfold meetB at h
  refine ⟨?_, ?_, ?_, ?_⟩ <;> intro e <;> simp [e] at h
theorem said_at (T : List S50) (t : S50) (n : Nat) (x : Int) (hx : 0 ≤ x) (hn : x < n) (he : x = t.f0 ∨ x = t.f1) (hm : T.any (meetB t) = false) : rd (linesF (T ++ [t]) n 0) x = (T.length : Int) := by
  obtain ⟨y, rfl⟩ := Int.eq_ofNat_of_zero_le hx
  have hy : y < n := by omega
  have hc : ((y : Nat) : Int) = Int.ofNat y := rfl
  rw [rd_linesF (T ++ [t]) n 0 y hy]
  refine ff_last (pl y) T t (fun u hu => ?_) ?_ T.length 0 (by omega) (by omega)
  · have hmu : meetB t u = false := by
      have := List.any_eq_false.mp hm u hu
      simpa using this
    obtain ⟨h1, h2, h3, h4⟩ := meet_no hmu
    unfold pl
    rcases he with he | he <;> simp only [Bool.or_eq_false_iff, decide_eq_false_iff_not] <;> constructor <;> intro e <;> omega
  · unfold pl
    rcases he with he | he <;> simp only [Bool.or_eq_true, decide_eq_true_eq]
    · exact .inl (by omega)
    · exact .inr (by omega)
theorem add_yes (T : List S50) (L C : List Int) (t : S50) (hT : T.length ≤ 29) (hL : L.length ≤ 30) (hC : C.length ≤ 30) (pi : Ev (fun k => impl_Faults.f k T L C) []) (hA : 0 ≤ t.f0 ∧ t.f0 ≤ (L.length : Int) - 1) (hB : 0 ≤ t.f1 ∧ t.f1 ≤ (L.length : Int) - 1) (hc : -1 ≤ t.f2 ∧ t.f2 ≤ (C.length : Int) - 1) (he : t.f0 ≠ t.f1) (hm : T.any (meetB t) = false) (hin : InBook (T ++ [t]) L C) :
    Ev (fun k => impl_Add18.f k T L C t.f0 t.f1 t.f2) (T ++ [t], linesF (T ++ [t]) L.length 0, circF (T ++ [t]) C.length 0, true) := by
  have hown := own_ev T L C (by omega) (by omega) (by omega)
  have hsd := said_ev (T ++ [t]) L C hin
  have wL : wrap64 ((L.length : Int) - 1) = (L.length : Int) - 1 := w64 (by omega) (by omega)
  have wC : wrap64 ((C.length : Int) - 1) = (C.length : Int) - 1 := w64 (by omega) (by omega)
  have h1 : ¬ ((([] : List S69).length : Int) > 0) := by simp
  have h2 : ¬ ((T.length : Int) = 30) := by omega
  simp only [impl_Add18.f]
  refine Ev.bind hown (Ev.bind pi ?_)
  simp only [if_neg h1, if_neg h2, wL, wC, in_eq2, decide_eq_true hA, decide_eq_true hB, decide_eq_true hc, Option.bind_some, if_true, if_neg he, impl_Talk_42.f, if_pos (show T.length ≤ 1048576 by omega), hm, Bool.false_eq_true, if_false, if_pos (show T.length < 5864062014805 by omega)]
  refine Ev.bind hsd ?_
  exact Ev.now _
theorem mf (T : List S50) (L C : List Int) (t0 t1 t2 : Int) (hT : T.length ≤ 31) (hL : L.length ≤ 31) (hC : C.length ≤ 31) : Bf T L C t0 t1 t2 := by
  obtain ⟨a, b, c, o, hr, p, q⟩ := add18_both T L C ⟨t0, t1, t2⟩ (by omega) (by omega) (by omega)
  obtain ⟨k, e⟩ := evx p
  obtain ⟨k2, e2⟩ := evx q
  refine ⟨a, b, c, o, ⟨k2, e2⟩, ⟨k, _, _, _, e⟩, fun h => ?_, fun h => ?_⟩
  · rcases hr with ⟨_, rfl, _, _⟩ | ⟨ho, _⟩
    · rfl
    · rw [h] at ho; simp at ho
  rcases hr with ⟨ho, _⟩ | ⟨_, h29, hf, he, hb, hin, hm, rfl, rfl, rfl⟩
  · rw [h] at ho; simp at ho
  obtain ⟨x, px, qx, _⟩ := book_both T L C (by omega) (by omega) (by omega)
  have hx : x = true := by
    cases x
    · have hz : Ev (fun k => impl_Faults.f k T L C) [(⟨7, 0⟩ : S69)] := by
        unfold impl_Faults.f
        refine Ev.bind qx ?_
        simp only [Bool.false_eq_true, if_false]
        exact Ev.now _
      have := ev_unique hf hz
      simp at this
    · rfl
  subst hx
  have ht : Tidy [] T := tidy_of_faults T L C (ev_unique (faults_ok T L C px qx hb).2 hf)
  have ht2 : Tidy [] (T ++ [(⟨t0, t1, t2⟩ : S50)]) := tidy_snoc T [] _ ht he (by simpa using hm)
  have n := hb.1
  have h30 : (T ++ [(⟨t0, t1, t2⟩ : S50)]).length ≤ 30 := hin.1.1
  have tk := of_inBook _ L C hin
  have tt := tk ⟨t0, t1, t2⟩ (by simp)
  obtain ⟨⟨a0, a1⟩, ⟨b0, b1⟩, _⟩ := tt
  simp only at a0 a1 b0 b1
  obtain ⟨_, g1⟩ := faults_none _ L.length C.length h30 n.2.1 n.2.2 tk ht2
  obtain ⟨_, q1⟩ := book_ok _ L.length C.length h30 n.2.1 n.2.2 tk
  have rs := restart_in _ _ _ 1 (by omega) q1 (inBook_said _ L.length C.length h30 n.2.1 n.2.2 tk)
  rw [if_neg (by omega), if_neg (by omega)] at rs
  obtain ⟨k3, e3⟩ := evx g1
  obtain ⟨k4, e4⟩ := evx rs
  refine ⟨by simp, by rw [linesF_len], ?_, ⟨a0, by rw [linesF_len]; exact a1, said_at T ⟨t0, t1, t2⟩ L.length t0 a0 a1 (.inl rfl) hm⟩, ⟨b0, by rw [linesF_len]; exact b1, said_at T ⟨t0, t1, t2⟩ L.length t1 b0 b1 (.inr rfl) hm⟩, ⟨k3, _, e3, rfl⟩, ⟨k4, _, _, _, e4, by simp, same_self _ (by rw [linesF_len]; omega)⟩⟩
  rw [rd50_get _ T.length (by simp)]
  simp
theorem ms : Bs := by
  have hl : linesF [] 2 0 = [-1, -1] := by simp [linesF, ff, List.range_succ]
  have hcc : circF [] 0 0 = [] := by simp [circF]
  obtain ⟨_, g1⟩ := faults_none [] 2 0 (by simp) (by omega) (by omega) (by simp) trivial
  rw [hl, hcc] at g1
  have hin : InBook ([] ++ [(⟨0, 1, -1⟩ : S50)]) [-1, -1] [] := inBook_of _ _ _ (by simp) (by simp) (by simp) (by simp [TkIn])
  have h := add_yes [] [-1, -1] [] ⟨0, 1, -1⟩ (by simp) (by simp) (by simp) g1 (by simp) (by simp) (by simp) (by simp) (by simp) hin
  obtain ⟨k, e⟩ := evx h
  refine ⟨k, _, _, _, e, ?_⟩
  have h2 : linesF ([] ++ [(⟨0, 1, -1⟩ : S50)]) ([-1, -1] : List Int).length 0 = [0, 0] := by decide
  rw [h2]
  exact same_self [0, 0] (by simp)
theorem new (l : List Int) : ∃ k h, spec_l1New.f k l = some (l, 0, h) := by
  obtain ⟨h, p⟩ := l1New_ev l
  obtain ⟨k, e⟩ := evx p
  exact ⟨k, h, e⟩
end Go.Proofs.Ytngnkfpciloamaa.Pure
