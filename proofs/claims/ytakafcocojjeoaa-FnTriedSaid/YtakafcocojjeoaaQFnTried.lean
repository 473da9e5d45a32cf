/- The law FnTried: for every code, drawn arrivals that are refused found no more free circuits than their class may leave, and never more are busy than there are circuits. -/
import Derived.Test.YtakafcocojjeoaaMFnTriedx8
import Derived.Test.YtakafcocojjeoaaKitFnTried
namespace Go.Proofs.Ytakafcocojjeoaa.Pure
set_option linter.unusedSimpArgs false
set_option linter.unusedVariables false
set_option linter.unusedSectionVars false
open Go Go.RowKit Go.Proofs.Ytakafcocojjeoaa.MFnTried Go.Proofs.YtakafcocojjeoaaW.PrintWords Go.Proofs.YtakafcocojjeoaaW.PrintLast Go.Proofs.Ytakafcocojjeoaa.Mine

theorem in_t {a b c : Int} (h : b ≤ a) (h2 : a ≤ c) : impl_in.f a b c = some true := by
  unfold impl_in.f
  rw [if_pos (by omega)]; simp [h2]
theorem in_f {a b c : Int} (h : ¬ (b ≤ a ∧ a ≤ c)) : impl_in.f a b c = some false := by
  unfold impl_in.f
  by_cases g : a ≥ b
  · rw [if_pos g]; simp; omega
  · rw [if_neg g]
theorem l1In_t {a b c : Int} (h : b ≤ a) (h2 : a ≤ c) : spec_l1In.f a b c = some true := by
  unfold spec_l1In.f
  rw [if_pos (by omega)]; simp [h2]
theorem l1In_f {a b c : Int} (h : ¬ (b ≤ a ∧ a ≤ c)) : spec_l1In.f a b c = some false := by
  unfold spec_l1In.f
  by_cases g : a ≥ b
  · rw [if_pos g]; simp; omega
  · rw [if_neg g]
theorem l1New_ev (x0 : List Int) : ∃ h, Ev (fun k => spec_l1New.f k x0) (x0, 0, h) := by
  have key : ∀ (d : Nat) (i h : Int), 4000 - i ≤ d → 0 ≤ i → ∃ h', Ev (fun k => spec_l1New.l0 k x0 h i) (x0, 0, h') := by
    intro d
    induction d with
    | zero =>
      intro i h hd h0
      refine ⟨h, ev_unroll ?_⟩
      by_cases hlt : i < (x0.length : Int)
      · simp (disch := omega) only [spec_l1New.l0, ↓if_pos, ↓if_neg, if_pos, if_neg, ↓reduceIte, w64, in_t, in_f, l1In_t, l1In_f, Option.bind_some, Bool.not_true, Bool.not_false, Bool.false_eq_true, tmod_nonneg, tdiv_nonneg]
        exact Ev.now _
      · simp (disch := omega) only [spec_l1New.l0, ↓if_pos, ↓if_neg, if_pos, if_neg, ↓reduceIte, w64, in_t, in_f, l1In_t, l1In_f, Option.bind_some, Bool.not_true, Bool.not_false, Bool.false_eq_true, tmod_nonneg, tdiv_nonneg]
        exact Ev.now _
    | succ d ih =>
      intro i h hd h0
      by_cases hlt : i < (x0.length : Int)
      · by_cases h4 : i < 4000
        · obtain ⟨h', p⟩ := ih (i + 1) (Go.bits .and .i64 (wrap64 ((wrap64 ((wrap64 (h * 131)) + (wrap64 (rd x0 i)))) + 7)) 1073741823) (by omega) (by omega)
          refine ⟨h', ev_unroll ?_⟩
          simp only [spec_l1New.l0, if_pos hlt, if_pos h4, if_pos h0]
          rw [w64 (x := i + 1) (by omega) (by omega)]
          exact p
        · refine ⟨h, ev_unroll ?_⟩
          simp (disch := omega) only [spec_l1New.l0, ↓if_pos, ↓if_neg, if_pos, if_neg, ↓reduceIte, w64, in_t, in_f, l1In_t, l1In_f, Option.bind_some, Bool.not_true, Bool.not_false, Bool.false_eq_true, tmod_nonneg, tdiv_nonneg]
          exact Ev.now _
      · refine ⟨h, ev_unroll ?_⟩
        simp (disch := omega) only [spec_l1New.l0, ↓if_pos, ↓if_neg, if_pos, if_neg, ↓reduceIte, w64, in_t, in_f, l1In_t, l1In_f, Option.bind_some, Bool.not_true, Bool.not_false, Bool.false_eq_true, tmod_nonneg, tdiv_nonneg]
        exact Ev.now _
  obtain ⟨h', p⟩ := key 4000 0 (wrap64 (71933 + (x0.length : Int))) (by omega) (by omega)
  exact ⟨h', p⟩
theorem l1Byte_some (b : List Int) (i h : Int) (hb : b.length ≤ 1048576) (h0 : 0 ≤ i) (h1 : i ≤ 1048576) :
    ∃ v i' h', spec_l1Byte.f b i h = some (v, i', h') ∧ 0 ≤ v ∧ v ≤ 255 ∧ 0 ≤ i' ∧ i' ≤ 1048576 := by
  unfold spec_l1Byte.f
  by_cases hlt : i < (b.length : Int)
  · rw [if_pos hlt, if_pos h0, w64 (x := i + 1) (by omega) (by omega)]
    refine ⟨_, _, _, rfl, ?_, ?_, by omega, by omega⟩
    · rw [and255]; omega
    · rw [and255]; omega
  · rw [if_neg hlt]
    refine ⟨_, _, _, rfl, ?_, ?_, h0, h1⟩
    · rw [and255]; omega
    · rw [and255]; omega
theorem l1Below_some (b : List Int) (i h n : Int) (hb : b.length ≤ 1048576) (h0 : 0 ≤ i) (h1 : i ≤ 1048576) :
    ∃ v i' h', spec_l1Below.f b i h n = some (v, i', h') ∧ 0 ≤ v ∧ (0 < n → v < n) ∧ (n ≤ 0 → v = 0) ∧ 0 ≤ i' ∧ i' ≤ 1048576 := by
  unfold spec_l1Below.f
  by_cases hn : n ≤ 0
  · rw [if_pos hn]
    exact ⟨0, i, h, rfl, by omega, by omega, fun _ => rfl, h0, h1⟩
  rw [if_neg hn]
  by_cases hm : n ≤ 256
  · rw [if_pos hm]
    obtain ⟨v, i1, s1, e1, p1, p2, p3, p4⟩ := l1Byte_some b i h hb h0 h1
    rw [e1]
    simp only [Option.bind_some]
    rw [if_neg (by omega), tmod_nonneg p1]
    exact ⟨_, _, _, rfl, Int.emod_nonneg _ (by omega), fun _ => Int.emod_lt_of_pos _ (by omega), fun h => absurd h hn, p3, p4⟩
  · rw [if_neg hm]
    obtain ⟨v1, i1, s1, e1, p1, p2, p3, p4⟩ := l1Byte_some b i h hb h0 h1
    obtain ⟨v2, i2, s2, e2, q1, q2, q3, q4⟩ := l1Byte_some b i1 s1 hb p3 p4
    obtain ⟨v3, i3, s3, e3, r1, r2, r3, r4⟩ := l1Byte_some b i2 s2 hb q3 q4
    obtain ⟨v4, i4, s4, e4, t1, t2, t3, t4⟩ := l1Byte_some b i3 s3 hb r3 r4
    rw [e1]
    simp only [Option.bind_some]
    rw [e2]
    simp only [Option.bind_some]
    rw [e3]
    simp only [Option.bind_some]
    rw [e4]
    simp only [Option.bind_some]
    rw [if_neg (by omega)]
    refine ⟨_, _, _, rfl, ?_, ?_, fun h => absurd h hn, t3, t4⟩
    · simp (disch := omega) only [w64]
      rw [tmod_nonneg (by omega)]
      exact Int.emod_nonneg _ (by omega)
    · intro _
      simp (disch := omega) only [w64]
      rw [tmod_nonneg (by omega)]
      exact Int.emod_lt_of_pos _ (by omega)
theorem l1PickInt_some (b : List Int) (i h : Int) (l : List Int) (hl : 0 < l.length) (hb : b.length ≤ 1048576) (h0 : 0 ≤ i) (h1 : i ≤ 1048576) :
    ∃ v i' h', spec_l1PickInt.f b i h l = some (v, i', h') ∧ v ∈ l ∧ 0 ≤ i' ∧ i' ≤ 1048576 := by
  unfold spec_l1PickInt.f
  obtain ⟨v, i1, s1, e1, p1, p2, p3, p4, p5⟩ := l1Below_some b i h (l.length : Int) hb h0 h1
  rw [e1]
  simp only [Option.bind_some]
  rw [if_pos p1, if_pos (p2 (by omega))]
  exact ⟨_, _, _, rfl, rd_mem p1 (p2 (by omega)), p4, p5⟩
theorem sameInts_ev (x0 : List Int) (x1 : List Int) (hn : x0.length ≤ 1048576) : Ev (fun k => laws_sameInts.f k x0 x1) (decide (x0 = x1)) := by
  by_cases hl : x0.length = x1.length
  · have key : ∀ (d : Nat) (i : Nat), x0.length - i = d → i ≤ x0.length → Ev (fun k => laws_sameInts.l0 k x0 x1 (i : Int)) (decide (x0.drop i = x1.drop i)) := by
      intro d
      induction d with
      | zero =>
        intro i hd hi
        rw [List.drop_eq_nil_of_le (show x0.length ≤ i by omega), List.drop_eq_nil_of_le (show x1.length ≤ i by omega)]
        refine ev_unroll ?_
        simp (disch := omega) only [laws_sameInts.l0, ↓if_neg, decide_true]
        exact Ev.now _
      | succ d ih =>
        intro i hd hi
        have h := ih (i + 1) (by omega) (by omega)
        rw [drop_rd (show i < x0.length by omega), drop_rd (show i < x1.length by omega)]
        by_cases he : rd x0 (i : Int) = rd x1 (i : Int)
        · refine ev_unroll ?_
          simp (disch := omega) only [laws_sameInts.l0, ↓if_pos, w64]
          simpa [he] using h
        · refine ev_unroll ?_
          simp (disch := omega) only [laws_sameInts.l0, ↓if_pos, ↓if_neg]
          rw [decide_eq_false (by intro h2; injection h2 with h3 h4; exact he h3)]
          exact Ev.now _
    have h := key _ 0 rfl (by omega)
    simp (disch := omega) only [laws_sameInts.f, ↓if_pos]
    simpa using h
  · have he : x0 ≠ x1 := fun h => hl (by rw [h])
    simp (disch := omega) only [laws_sameInts.f, ↓if_neg]
    rw [decide_eq_false he]
    exact Ev.now _
/-- What is asked of the spare circuits, of an arrival. -/
def SpOk (s : List Int) : Prop := (s.length : Int) = 4 ∧ rd s 0 = 0 ∧ rd s 0 ≤ rd s 1 ∧ rd s 1 ≤ rd s 2 ∧ rd s 2 ≤ rd s 3 ∧ rd s 3 ≤ 64
def ArOk (a : S43) : Prop := (0 ≤ a.f0 ∧ a.f0 ≤ 1000000000) ∧ (0 ≤ a.f1 ∧ a.f1 ≤ 10000) ∧ (0 ≤ a.f2 ∧ a.f2 ≤ 3)
def Sorted (l : List S43) : Prop := ∀ j : Int, 1 ≤ j → j < (l.length : Int) → (rd_T43 l (j - 1)).f0 ≤ (rd_T43 l j).f0
theorem rd43_get (l : List S43) (i : Nat) (h : i < l.length) : rd_T43 l (i : Int) = l[i] := by simp [rd_T43, h]
theorem rd43_mem {l : List S43} {i : Int} (h0 : 0 ≤ i) (h1 : i < (l.length : Int)) : rd_T43 l i ∈ l := by
  have h : i.toNat < l.length := by omega
  have e : rd_T43 l i = l[i.toNat] := by simp [rd_T43, h]
  rw [e]; exact List.getElem_mem h
theorem drop43 (l : List S43) (i : Nat) (h : i < l.length) : l.drop i = rd_T43 l (i : Int) :: l.drop (i + 1) := by
  rw [rd43_get l i h, List.drop_eq_getElem_cons h]
/-- The reference's test of the spare circuits. -/
theorem spare_s (s : List Int) (hs : s.length ≤ 1048576) : ∀ (d i : Nat), s.length - i = d → i ≤ s.length →
    ∃ b, Ev (fun k => spec_l17Spare.l0 k s (i : Int)) b ∧ (b = true ↔ (s.length : Int) = 4 ∧ ∀ j : Nat, i ≤ j → j < s.length → (0 ≤ rd s (j : Int) ∧ rd s (j : Int) ≤ 64) ∧ (j = 0 → rd s (j : Int) = 0) ∧ (0 < j → rd s ((j : Int) - 1) ≤ rd s (j : Int))) := by
  intro d
  induction d with
  | zero =>
    intro i hd hi
    refine ⟨(s.length : Int) == 4, ev_unroll ?_, ?_⟩
    · simp only [spec_l17Spare.l0, if_neg (show ¬ (i : Int) < (s.length : Int) by omega)]
      exact Ev.now _
    · rw [beq_iff_eq]
      exact ⟨fun h => ⟨h, fun j h1 h2 => by omega⟩, fun h => h.1⟩
  | succ d ih =>
    intro i hd hi
    have hi2 : i < s.length := by omega
    obtain ⟨b, p, q⟩ := ih (i + 1) (by omega) (by omega)
    have e : ((i + 1 : Nat) : Int) = wrap64 ((i : Int) + 1) := by rw [w64 (by omega) (by omega)]; omega
    rw [e] at p
    by_cases c1 : 0 ≤ rd s (i : Int) ∧ rd s (i : Int) ≤ 64
    · by_cases c2 : i = 0
      · subst c2
        by_cases c3 : rd s ((0 : Nat) : Int) = 0
        · refine ⟨b, ev_unroll ?_, ?_⟩
          · simp only [spec_l17Spare.l0, if_pos (show ((0 : Nat) : Int) < (s.length : Int) by omega), if_pos (show (0 : Int) ≤ ((0 : Nat) : Int) by omega), l1In_t c1.1 c1.2, Option.bind_some, ↓reduceIte, if_pos (show ((0 : Nat) : Int) = 0 from rfl), if_pos c3, if_neg (show ¬ ((0 : Nat) : Int) > 0 by omega)]
            exact p
          · rw [q]
            refine ⟨fun h => ⟨h.1, fun j h1 h2 => ?_⟩, fun h => ⟨h.1, fun j h1 h2 => h.2 j (by omega) h2⟩⟩
            by_cases cj : j = 0
            · subst cj; exact ⟨c1, fun _ => c3, fun h => by omega⟩
            · exact h.2 j (by omega) h2
        · refine ⟨false, ev_unroll ?_, ?_⟩
          · simp only [spec_l17Spare.l0, if_pos (show ((0 : Nat) : Int) < (s.length : Int) by omega), if_pos (show (0 : Int) ≤ ((0 : Nat) : Int) by omega), l1In_t c1.1 c1.2, Option.bind_some, ↓reduceIte, if_pos (show ((0 : Nat) : Int) = 0 from rfl), if_neg c3]
            exact Ev.now _
          · exact ⟨(fun h => by cases h), fun h => absurd ((h.2 0 (Nat.le_refl _) hi2).2.1 rfl) c3⟩
      · have hw : wrap64 ((i : Int) - 1) = (i : Int) - 1 := w64 (by omega) (by omega)
        by_cases c3 : rd s ((i : Int) - 1) > rd s (i : Int)
        · refine ⟨false, ev_unroll ?_, ?_⟩
          · simp only [spec_l17Spare.l0, if_pos (show (i : Int) < (s.length : Int) by omega), if_pos (show (0 : Int) ≤ (i : Int) by omega), l1In_t c1.1 c1.2, Option.bind_some, ↓reduceIte, if_neg (show ¬ (i : Int) = 0 by omega), if_pos (show (i : Int) > 0 by omega), hw, if_pos (show 0 ≤ (i : Int) - 1 by omega), if_pos (show (i : Int) - 1 < (s.length : Int) by omega), if_pos c3]
            exact Ev.now _
          · refine ⟨(fun h => by cases h), fun h => ?_⟩
            have := (h.2 i (Nat.le_refl _) hi2).2.2 (by omega)
            omega
        · refine ⟨b, ev_unroll ?_, ?_⟩
          · simp only [spec_l17Spare.l0, if_pos (show (i : Int) < (s.length : Int) by omega), if_pos (show (0 : Int) ≤ (i : Int) by omega), l1In_t c1.1 c1.2, Option.bind_some, ↓reduceIte, if_neg (show ¬ (i : Int) = 0 by omega), if_pos (show (i : Int) > 0 by omega), hw, if_pos (show 0 ≤ (i : Int) - 1 by omega), if_pos (show (i : Int) - 1 < (s.length : Int) by omega), if_neg c3]
            exact p
          · rw [q]
            refine ⟨fun h => ⟨h.1, fun j h1 h2 => ?_⟩, fun h => ⟨h.1, fun j h1 h2 => h.2 j (by omega) h2⟩⟩
            by_cases cj : j = i
            · subst cj; exact ⟨c1, fun h => by omega, fun _ => by omega⟩
            · exact h.2 j (by omega) h2
    · refine ⟨false, ev_unroll ?_, ?_⟩
      · simp only [spec_l17Spare.l0, if_pos (show (i : Int) < (s.length : Int) by omega), if_pos (show (0 : Int) ≤ (i : Int) by omega), l1In_f c1, Option.bind_some, Bool.false_eq_true, ↓reduceIte]
        exact Ev.now _
      · exact ⟨(fun h => by cases h), fun h => absurd (h.2 i (Nat.le_refl _) hi2).1 c1⟩
theorem spare_spec (s : List Int) (hs : s.length ≤ 1048576) : ∃ b, Ev (fun k => spec_l17Spare.f k s) b ∧ (b = true ↔ SpOk s) := by
  obtain ⟨b, p, q⟩ := spare_s s hs s.length 0 rfl (Nat.zero_le _)
  refine ⟨b, p, q.trans ?_⟩
  unfold SpOk
  constructor
  · rintro ⟨h4, h⟩
    have a0 := h 0 (by omega) (by omega)
    have a1 := h 1 (by omega) (by omega)
    have a2 := h 2 (by omega) (by omega)
    have a3 := h 3 (by omega) (by omega)
    exact ⟨h4, a0.2.1 rfl, a1.2.2 (by omega), a2.2.2 (by omega), a3.2.2 (by omega), a3.1.2⟩
  · rintro ⟨h4, h0, h1, h2, h3, h5⟩
    refine ⟨h4, fun j _ hj => ?_⟩
    have hj4 : j = 0 ∨ j = 1 ∨ j = 2 ∨ j = 3 := by omega
    rcases hj4 with rfl | rfl | rfl | rfl
    · exact ⟨⟨by rw [show ((0 : Nat) : Int) = 0 from rfl, h0]; decide, by rw [show ((0 : Nat) : Int) = 0 from rfl, h0]; decide⟩, fun _ => h0, fun h => by omega⟩
    · exact ⟨⟨by rw [show ((1 : Nat) : Int) = 1 from rfl]; omega, by rw [show ((1 : Nat) : Int) = 1 from rfl]; omega⟩, fun h => by omega, fun _ => h1⟩
    · exact ⟨⟨by rw [show ((2 : Nat) : Int) = 2 from rfl]; omega, by rw [show ((2 : Nat) : Int) = 2 from rfl]; omega⟩, fun h => by omega, fun _ => h2⟩
    · exact ⟨⟨by rw [show ((3 : Nat) : Int) = 3 from rfl]; omega, by rw [show ((3 : Nat) : Int) = 3 from rfl]; omega⟩, fun h => by omega, fun _ => h3⟩
theorem less_ev (a b : Int) : cmp_Less_int.f a b = some (decide (a < b)) := by simp [cmp_Less_int.f, cmp_isNaN_int.f]
theorem sorted_i (s : List Int) (hs : s.length ≤ 1048576) : ∀ (d : Nat) (i : Int), i ≤ d → i < (s.length : Int) → -1 ≤ i →
    ∃ b, Ev (fun k => slices_IsSorted_int_int.l0 k s i) b ∧ (b = true ↔ ∀ j : Int, 1 ≤ j → j ≤ i → rd s (j - 1) ≤ rd s j) := by
  have last : ∀ i : Int, ¬ i > 0 → ∃ b, Ev (fun k => slices_IsSorted_int_int.l0 k s i) b ∧ (b = true ↔ ∀ j : Int, 1 ≤ j → j ≤ i → rd s (j - 1) ≤ rd s j) := by
    intro i hi
    refine ⟨true, ev_unroll ?_, ⟨fun _ j h1 h2 => by omega, fun _ => rfl⟩⟩
    simp only [slices_IsSorted_int_int.l0, if_neg hi]
    exact Ev.now _
  intro d
  induction d with
  | zero => exact fun i hd _ _ => last i (by omega)
  | succ d ih =>
    intro i hd hl h1
    by_cases hp : i > 0
    · obtain ⟨b, p, q⟩ := ih (i - 1) (by omega) (by omega) (by omega)
      have hw : wrap64 (i - 1) = i - 1 := w64 (by omega) (by omega)
      by_cases c : rd s i < rd s (i - 1)
      · refine ⟨false, ev_unroll ?_, ⟨(fun h => by cases h), fun h => absurd (h i (by omega) (Int.le_refl _)) (by omega)⟩⟩
        simp only [slices_IsSorted_int_int.l0, if_pos hp, if_pos (show 0 ≤ i by omega), if_pos hl, hw, if_pos (show 0 ≤ i - 1 by omega), if_pos (show i - 1 < (s.length : Int) by omega), less_ev, decide_eq_true c, Option.bind_some, ↓reduceIte]
        exact Ev.now _
      · refine ⟨b, ev_unroll ?_, ?_⟩
        · simp only [slices_IsSorted_int_int.l0, if_pos hp, if_pos (show 0 ≤ i by omega), if_pos hl, hw, if_pos (show 0 ≤ i - 1 by omega), if_pos (show i - 1 < (s.length : Int) by omega), less_ev, decide_eq_false c, Option.bind_some, Bool.false_eq_true, ↓reduceIte]
          exact p
        · rw [q]
          refine ⟨fun h j h1 h2 => ?_, fun h j h1 h2 => h j h1 (by omega)⟩
          by_cases e : j = i
          · subst e; omega
          · exact h j h1 (by omega)
    · exact last i hp
theorem sorted_a (l : List S43) (hs : l.length ≤ 1048576) : ∃ b, Ev (fun k => impl_Arrival.f k l) b ∧ (b = true ↔ Sorted l) := by
  have key : ∀ (d : Nat) (i : Int), i ≤ d → i < (l.length : Int) → -1 ≤ i →
      ∃ b, Ev (fun k => impl_Arrival.l0 k l i) b ∧ (b = true ↔ ∀ j : Int, 1 ≤ j → j ≤ i → (rd_T43 l (j - 1)).f0 ≤ (rd_T43 l j).f0) := by
    have last : ∀ i : Int, ¬ i > 0 → ∃ b, Ev (fun k => impl_Arrival.l0 k l i) b ∧ (b = true ↔ ∀ j : Int, 1 ≤ j → j ≤ i → (rd_T43 l (j - 1)).f0 ≤ (rd_T43 l j).f0) := by
      intro i hi
      refine ⟨true, ev_unroll ?_, ⟨fun _ j h1 h2 => by omega, fun _ => rfl⟩⟩
      simp only [impl_Arrival.l0, if_neg hi]
      exact Ev.now _
    intro d
    induction d with
    | zero => exact fun i hd _ _ => last i (by omega)
    | succ d ih =>
      intro i hd hl h1
      by_cases hp : i > 0
      · obtain ⟨b, p, q⟩ := ih (i - 1) (by omega) (by omega) (by omega)
        have hw : wrap64 (i - 1) = i - 1 := w64 (by omega) (by omega)
        by_cases c : (rd_T43 l i).f0 < (rd_T43 l (i - 1)).f0
        · refine ⟨false, ev_unroll ?_, ⟨(fun h => by cases h), fun h => absurd (h i (by omega) (Int.le_refl _)) (by omega)⟩⟩
          simp only [impl_Arrival.l0, if_pos hp, if_pos (show 0 ≤ i by omega), if_pos hl, hw, if_pos (show 0 ≤ i - 1 by omega), if_pos (show i - 1 < (l.length : Int) by omega), if_pos c]
          exact Ev.now _
        · refine ⟨b, ev_unroll ?_, ?_⟩
          · simp only [impl_Arrival.l0, if_pos hp, if_pos (show 0 ≤ i by omega), if_pos hl, hw, if_pos (show 0 ≤ i - 1 by omega), if_pos (show i - 1 < (l.length : Int) by omega), if_neg c]
            exact p
          · rw [q]
            refine ⟨fun h j h1 h2 => ?_, fun h j h1 h2 => h j h1 (by omega)⟩
            by_cases e : j = i
            · subst e; omega
            · exact h j h1 (by omega)
      · exact last i hp
  obtain ⟨b, p, q⟩ := key l.length ((l.length : Int) - 1) (by omega) (by omega) (by omega)
  refine ⟨b, ?_, q.trans ⟨fun h j h1 h2 => h j h1 (by omega), fun h j h1 h2 => h j h1 (by omega)⟩⟩
  simp only [impl_Arrival.f]
  rw [w64 (x := (l.length : Int) - 1) (by omega) (by omega)]
  exact p
/-- The tests of the arrivals. -/
theorem arr_spec (l : List S43) (hs : l.length ≤ 1048576) : ∃ b, Ev (fun k => spec_l17Arrivals.f k l) b ∧ Ev (fun k => impl_arrivalsOk.f k l) b ∧ (b = true ↔ (∀ x ∈ l, ArOk x) ∧ l.length ≤ 200) := by
  have key : ∀ (d i : Nat), l.length - i = d → i ≤ l.length →
      ∃ b, Ev (fun k => spec_l17Arrivals.l0 k l (i : Int)) b ∧ Ev (fun k => impl_arrivalsOk.l0 k l l (l.length : Int) (i : Int)) b ∧ (b = true ↔ (∀ x ∈ l.drop i, ArOk x) ∧ l.length ≤ 200) := by
    intro d
    induction d with
    | zero =>
      intro i hd hi
      refine ⟨decide ((l.length : Int) ≤ 200), ev_unroll ?_, ev_unroll ?_, ?_⟩
      · simp only [spec_l17Arrivals.l0, if_neg (show ¬ (i : Int) < (l.length : Int) by omega)]
        exact Ev.now _
      · simp only [impl_arrivalsOk.l0, if_neg (show ¬ (i : Int) < (l.length : Int) by omega)]
        exact Ev.now _
      · rw [List.drop_eq_nil_of_le (by omega), decide_eq_true_eq]
        exact ⟨fun h => ⟨(fun x hx => by cases hx), by omega⟩, fun h => by omega⟩
    | succ d ih =>
      intro i hd hi
      have hi2 : i < l.length := by omega
      obtain ⟨b, p, p2, q⟩ := ih (i + 1) (by omega) (by omega)
      have e : ((i + 1 : Nat) : Int) = wrap64 ((i : Int) + 1) := by rw [w64 (by omega) (by omega)]; omega
      rw [e] at p p2
      rw [drop43 l i hi2]
      have n1 : (i : Int) < (l.length : Int) := by omega
      have n2 : (0 : Int) ≤ (i : Int) := by omega
      have bad : ¬ ArOk (rd_T43 l (i : Int)) → (false = true ↔ (∀ x ∈ rd_T43 l (i : Int) :: l.drop (i + 1), ArOk x) ∧ l.length ≤ 200) := fun h => ⟨(fun h2 => by cases h2), fun h2 => absurd (h2.1 _ (List.mem_cons_self ..)) h⟩
      by_cases c1 : 0 ≤ (rd_T43 l (i : Int)).f0 ∧ (rd_T43 l (i : Int)).f0 ≤ 1000000000
      · by_cases c2 : 0 ≤ (rd_T43 l (i : Int)).f1 ∧ (rd_T43 l (i : Int)).f1 ≤ 10000
        · by_cases c3 : 0 ≤ (rd_T43 l (i : Int)).f2 ∧ (rd_T43 l (i : Int)).f2 ≤ 3
          · refine ⟨b, ev_unroll ?_, ev_unroll ?_, ?_⟩
            · simp only [spec_l17Arrivals.l0, if_pos n1, if_pos n2, spec_l17Arrival.f, spec_l4Tick.f, l1In_t c1.1 c1.2, l1In_t c2.1 c2.2, l1In_t c3.1 c3.2, Option.bind_some, ↓reduceIte]
              exact p
            · simp only [impl_arrivalsOk.l0, if_pos n1, if_pos n2, in_t c1.1 c1.2, in_t c2.1 c2.2, in_t c3.1 c3.2, Option.bind_some, ↓reduceIte]
              exact p2
            · rw [q]
              exact ⟨fun h => ⟨fun x hx => by
                rcases List.mem_cons.mp hx with rfl | hx
                · exact ⟨c1, c2, c3⟩
                · exact h.1 x hx, h.2⟩, fun h => ⟨fun x hx => h.1 x (List.mem_cons_of_mem _ hx), h.2⟩⟩
          · refine ⟨false, ev_unroll ?_, ev_unroll ?_, bad (fun h => c3 h.2.2)⟩
            · simp only [spec_l17Arrivals.l0, if_pos n1, if_pos n2, spec_l17Arrival.f, spec_l4Tick.f, l1In_t c1.1 c1.2, l1In_t c2.1 c2.2, l1In_f c3, Option.bind_some, ↓reduceIte, Bool.false_eq_true]
              exact Ev.now _
            · simp only [impl_arrivalsOk.l0, if_pos n1, if_pos n2, in_t c1.1 c1.2, in_t c2.1 c2.2, in_f c3, Option.bind_some, ↓reduceIte, Bool.false_eq_true]
              exact Ev.now _
        · refine ⟨false, ev_unroll ?_, ev_unroll ?_, bad (fun h => c2 h.2.1)⟩
          · simp only [spec_l17Arrivals.l0, if_pos n1, if_pos n2, spec_l17Arrival.f, spec_l4Tick.f, l1In_t c1.1 c1.2, l1In_f c2, Option.bind_some, ↓reduceIte, Bool.false_eq_true]
            exact Ev.now _
          · simp only [impl_arrivalsOk.l0, if_pos n1, if_pos n2, in_t c1.1 c1.2, in_f c2, Option.bind_some, ↓reduceIte, Bool.false_eq_true]
            exact Ev.now _
      · refine ⟨false, ev_unroll ?_, ev_unroll ?_, bad (fun h => c1 h.1)⟩
        · simp only [spec_l17Arrivals.l0, if_pos n1, if_pos n2, spec_l17Arrival.f, spec_l4Tick.f, l1In_f c1, Option.bind_some, ↓reduceIte, Bool.false_eq_true]
          exact Ev.now _
        · simp only [impl_arrivalsOk.l0, if_pos n1, if_pos n2, in_f c1, Option.bind_some, ↓reduceIte, Bool.false_eq_true]
          exact Ev.now _
  obtain ⟨b, p, p2, q⟩ := key l.length 0 rfl (Nat.zero_le _)
  exact ⟨b, p, p2, q⟩
/-- Who goes on at a tick; a round; all of it. -/
def going (t : Int) (ends : List Int) : List Int := ends.filter (fun e => !decide (e ≤ t))
def stepT (c : Int) (sp : List Int) (a : S43) (ends : List Int) : Bool × List Int := if c - ((going a.f0 ends).length : Int) > rd sp a.f2 then (true, going a.f0 ends ++ [a.f0 + a.f1]) else (false, going a.f0 ends)
def goT (c : Int) (sp : List Int) : List S43 → List Int → List Bool × List Int
  | [], _ => ([], [])
  | a :: l, ends => ((stepT c sp a ends).1 :: (goT c sp l (stepT c sp a ends).2).1, ((stepT c sp a ends).2.length : Int) :: (goT c sp l (stepT c sp a ends).2).2)
theorem going_le (t : Int) (ends : List Int) : (going t ends).length ≤ ends.length := List.length_filter_le _ _
theorem goT_length (c : Int) (sp : List Int) : ∀ (l : List S43) (ends : List Int), (goT c sp l ends).1.length = l.length ∧ (goT c sp l ends).2.length = l.length
  | [], _ => ⟨rfl, rfl⟩
  | a :: l, ends => by
    obtain ⟨h1, h2⟩ := goT_length c sp l (stepT c sp a ends).2
    exact ⟨by simp only [goT, List.length_cons, h1], by simp only [goT, List.length_cons, h2]⟩
theorem del_ev (ends : List Int) (t : Int) (hs : ends.length ≤ 1048576) : Ev (fun k => slices_DeleteFunc_int_int.f k ends t) (going t ends) := by
  have key : ∀ (d i : Nat) (acc : List Int), ends.length - i = d → i ≤ ends.length → acc.length ≤ i → Ev (fun k => slices_DeleteFunc_int_int.l0 k ends t acc (i : Int)) (acc ++ going t (ends.drop i)) := by
    intro d
    induction d with
    | zero =>
      intro i acc hd hi ha
      rw [List.drop_eq_nil_of_le (by omega)]
      refine ev_unroll ?_
      simp only [slices_DeleteFunc_int_int.l0, if_neg (show ¬ (i : Int) < (ends.length : Int) by omega), going, List.filter_nil, List.append_nil]
      exact Ev.now _
    | succ d ih =>
      intro i acc hd hi ha
      have hi2 : i < ends.length := by omega
      have e : ((i + 1 : Nat) : Int) = wrap64 ((i : Int) + 1) := by rw [w64 (by omega) (by omega)]; omega
      rw [drop_rd hi2]
      by_cases c : rd ends (i : Int) > t
      · have p := ih (i + 1) (acc ++ [rd ends (i : Int)]) (by omega) (by omega) (by simp; omega)
        rw [e] at p
        refine ev_unroll ?_
        simp only [slices_DeleteFunc_int_int.l0, if_pos (show (i : Int) < (ends.length : Int) by omega), if_pos (show (0 : Int) ≤ (i : Int) by omega), if_pos c, if_pos (show acc.length < 17592186044416 by omega), going, List.filter_cons, decide_eq_false (show ¬ rd ends (i : Int) ≤ t by omega), Bool.not_false, ↓reduceIte]
        simpa [going] using p
      · have p := ih (i + 1) acc (by omega) (by omega) (by omega)
        rw [e] at p
        refine ev_unroll ?_
        simp only [slices_DeleteFunc_int_int.l0, if_pos (show (i : Int) < (ends.length : Int) by omega), if_pos (show (0 : Int) ≤ (i : Int) by omega), if_neg c, going, List.filter_cons, decide_eq_true (show rd ends (i : Int) ≤ t by omega), Bool.not_true, Bool.false_eq_true, ↓reduceIte]
        simpa [going] using p
  have h := key ends.length 0 [] rfl (Nat.zero_le _) (by simp)
  simp only [slices_DeleteFunc_int_int.f]
  simpa using h
section
variable (c : Int) (sp : List Int) (l : List S43) (hc : 0 ≤ c ∧ c ≤ 64) (hsp : SpOk sp) (hl : (∀ x ∈ l, ArOk x) ∧ l.length ≤ 200)
include hc hsp hl
theorem impl_go : ∀ (d i : Nat) (inn : List Bool) (busy ends : List Int), l.length - i = d → i ≤ l.length → inn.length ≤ 1000 → busy.length ≤ 1000 → inn.length + d ≤ 1000 → busy.length + d ≤ 1000 → ends.length ≤ i →
    Ev (fun k => impl_Try.l0 k c sp inn busy ends l (l.length : Int) (i : Int)) (inn ++ (goT c sp (l.drop i) ends).1, busy ++ (goT c sp (l.drop i) ends).2, true) := by
  intro d
  induction d with
  | zero =>
    intro i inn busy ends hd hi h1 h2 h3 h4 h5
    rw [List.drop_eq_nil_of_le (by omega)]
    refine ev_unroll ?_
    simp only [impl_Try.l0, if_neg (show ¬ (i : Int) < (l.length : Int) by omega), goT, List.append_nil]
    exact Ev.now _
  | succ d ih =>
    intro i inn busy ends hd hi h1 h2 h3 h4 h5
    have hi2 : i < l.length := by omega
    have n1 : (i : Int) < (l.length : Int) := by omega
    have n2 : (0 : Int) ≤ (i : Int) := by omega
    have ha := hl.1 _ (rd43_mem n2 n1)
    rw [drop43 l i hi2]
    obtain ⟨q1, q2, q3⟩ := ha
    have hlen := hl.2
    have hs4 := hsp.1
    have gl := going_le (rd_T43 l (i : Int)).f0 ends
    have p := fun (inn' : List Bool) (busy' ends' : List Int) (e1 : inn'.length = inn.length + 1) (e2 : busy'.length = busy.length + 1) (e3 : ends'.length ≤ i + 1) => ih (i + 1) inn' busy' ends' (by omega) (by omega) (by omega) (by omega) (by omega) (by omega) (by omega)
    have e := Aside0.mk (show ((i + 1 : Nat) : Int) = wrap64 ((i : Int) + 1) by rw [w64 (by omega) (by omega)]; omega)
    have wc := Aside0.mk (show wrap64 (c - ((going (rd_T43 l (i : Int)).f0 ends).length : Int)) = c - ((going (rd_T43 l (i : Int)).f0 ends).length : Int) from w64 (by omega) (by omega))
    have we := Aside0.mk (show wrap64 ((rd_T43 l (i : Int)).f0 + (rd_T43 l (i : Int)).f1) = (rd_T43 l (i : Int)).f0 + (rd_T43 l (i : Int)).f1 from w64 (by omega) (by omega))
    have m1 : (rd_T43 l (i : Int)).f2 < (sp.length : Int) := by omega
    have m2 : (going (rd_T43 l (i : Int)).f0 ends).length < 17592186044416 := by omega
    have m3 : inn.length < 140737488355328 := by omega
    have m4 : busy.length < 17592186044416 := by omega
    by_cases ct : c - ((going (rd_T43 l (i : Int)).f0 ends).length : Int) > rd sp (rd_T43 l (i : Int)).f2
    · have h := p (inn ++ [true]) (busy ++ [((going (rd_T43 l (i : Int)).f0 ends ++ [(rd_T43 l (i : Int)).f0 + (rd_T43 l (i : Int)).f1]).length : Int)]) (going (rd_T43 l (i : Int)).f0 ends ++ [(rd_T43 l (i : Int)).f0 + (rd_T43 l (i : Int)).f1]) (by simp) (by simp) (by simp; omega)
      rw [e.out, List.append_assoc, List.append_assoc] at h
      refine ev_unroll ?_
      simp only [impl_Try.l0, if_pos n1, if_pos n2]
      refine Ev.bind (del_ev ends _ (by omega)) ?_
      simp only [wc.out, we.out, if_pos q3.1, if_pos m1, if_pos ct, if_pos m2, if_pos m3, if_pos m4, Option.bind_some, decide_eq_true ct]
      simpa [goT, stepT, if_pos ct] using h
    · have h := p (inn ++ [false]) (busy ++ [((going (rd_T43 l (i : Int)).f0 ends).length : Int)]) (going (rd_T43 l (i : Int)).f0 ends) (by simp) (by simp) (by omega)
      rw [e.out, List.append_assoc, List.append_assoc] at h
      refine ev_unroll ?_
      simp only [impl_Try.l0, if_pos n1, if_pos n2]
      refine Ev.bind (del_ev ends _ (by omega)) ?_
      simp only [wc.out, if_pos q3.1, if_pos m1, if_neg ct, if_pos m3, if_pos m4, decide_eq_false ct]
      simpa [goT, stepT, if_neg ct] using h
/-- The reference's inner round: who goes on. -/
theorem spec_left (i : Nat) (hi : i < l.length) (inn : List Bool) (busy ends : List Int) (r : List Bool × List Int × Bool) (he : ends.length ≤ 1000) (a : S43) (H : Ev (fun k => spec_Try.l1 k c sp l inn busy ends (i : Int) (going a.f0 ends) (ends.length : Int) a.f0 a.f1 a.f2) r) :
    ∀ (d j : Nat), ends.length - j = d → j ≤ ends.length → Ev (fun k => spec_Try.l1 k c sp l inn busy ends (i : Int) (going a.f0 (ends.take j)) (j : Int) a.f0 a.f1 a.f2) r := by
  intro d
  induction d with
  | zero =>
    intro j hd hj
    have e : j = ends.length := by omega
    subst e
    rw [List.take_length]
    exact H
  | succ d ih =>
    intro j hd hj
    have hj2 : j < ends.length := by omega
    have p := ih (j + 1) (by omega) (by omega)
    have e := Aside0.mk (show ((j + 1 : Nat) : Int) = wrap64 ((j : Int) + 1) by rw [w64 (by omega) (by omega)]; omega)
    have gl := going_le a.f0 (ends.take j)
    have tl : (ends.take j).length ≤ j := List.length_take_le _ _
    rw [e.out, take_rd hj2] at p
    refine ev_unroll ?_
    by_cases ct : rd ends (j : Int) > a.f0
    · simp only [spec_Try.l1, if_pos (show (j : Int) < (ends.length : Int) by omega), if_pos (show (0 : Int) ≤ (j : Int) by omega), if_pos ct, if_pos (show (going a.f0 (ends.take j)).length < 17592186044416 by omega)]
      have hd2 : decide (rd ends (j : Int) ≤ a.f0) = false := decide_eq_false (by omega)
      simpa [going, List.filter_append, hd2] using p
    · simp only [spec_Try.l1, if_pos (show (j : Int) < (ends.length : Int) by omega), if_pos (show (0 : Int) ≤ (j : Int) by omega), if_neg ct]
      have hd2 : decide (rd ends (j : Int) ≤ a.f0) = true := decide_eq_true (by omega)
      simpa [going, List.filter_append, hd2] using p
/-- The reference: where the ticks are in order as ours, else nothing. -/
theorem spec_go : ∀ (d i : Nat) (inn : List Bool) (busy ends : List Int), l.length - i = d → i ≤ l.length → inn.length + d ≤ 1000 → busy.length + d ≤ 1000 → ends.length ≤ i →
    ((∀ j : Int, 1 ≤ j → (i : Int) ≤ j → j < (l.length : Int) → (rd_T43 l (j - 1)).f0 ≤ (rd_T43 l j).f0) → Ev (fun k => spec_Try.l0 k c sp l inn busy ends (i : Int)) (inn ++ (goT c sp (l.drop i) ends).1, busy ++ (goT c sp (l.drop i) ends).2, true)) ∧
    (¬ (∀ j : Int, 1 ≤ j → (i : Int) ≤ j → j < (l.length : Int) → (rd_T43 l (j - 1)).f0 ≤ (rd_T43 l j).f0) → Ev (fun k => spec_Try.l0 k c sp l inn busy ends (i : Int)) ([], [], false)) := by
  intro d
  induction d with
  | zero =>
    intro i inn busy ends hd hi h3 h4 h5
    refine ⟨fun _ => ?_, fun h => absurd (fun j h1 h2 h3 => by omega) h⟩
    rw [List.drop_eq_nil_of_le (by omega)]
    refine ev_unroll ?_
    simp only [spec_Try.l0, if_neg (show ¬ (i : Int) < (l.length : Int) by omega), goT, List.append_nil]
    exact Ev.now _
  | succ d ih =>
    intro i inn busy ends hd hi h3 h4 h5
    have hi2 : i < l.length := by omega
    have n1 : (i : Int) < (l.length : Int) := by omega
    have n2 : (0 : Int) ≤ (i : Int) := by omega
    have ha := hl.1 _ (rd43_mem n2 n1)
    obtain ⟨q1, q2, q3⟩ := ha
    have hlen := hl.2
    have hs4 := hsp.1
    have gl := going_le (rd_T43 l (i : Int)).f0 ends
    have e := Aside0.mk (show ((i + 1 : Nat) : Int) = wrap64 ((i : Int) + 1) by rw [w64 (by omega) (by omega)]; omega)
    have wc := Aside0.mk (show wrap64 (c - ((going (rd_T43 l (i : Int)).f0 ends).length : Int)) = c - ((going (rd_T43 l (i : Int)).f0 ends).length : Int) from w64 (by omega) (by omega))
    have we := Aside0.mk (show wrap64 ((rd_T43 l (i : Int)).f0 + (rd_T43 l (i : Int)).f1) = (rd_T43 l (i : Int)).f0 + (rd_T43 l (i : Int)).f1 from w64 (by omega) (by omega))
    have m1 : (rd_T43 l (i : Int)).f2 < (sp.length : Int) := by omega
    have m2 : (going (rd_T43 l (i : Int)).f0 ends).length < 17592186044416 := by omega
    have m3 : inn.length < 140737488355328 := by omega
    have m4 : busy.length < 17592186044416 := by omega
    have nl : ¬ (ends.length : Int) < (ends.length : Int) := by omega
    -- behind the test of the order
    have inner : ∀ r, (c - ((going (rd_T43 l (i : Int)).f0 ends).length : Int) > rd sp (rd_T43 l (i : Int)).f2 → Ev (fun k => spec_Try.l0 k c sp l (inn ++ [true]) (busy ++ [((going (rd_T43 l (i : Int)).f0 ends ++ [(rd_T43 l (i : Int)).f0 + (rd_T43 l (i : Int)).f1]).length : Int)]) (going (rd_T43 l (i : Int)).f0 ends ++ [(rd_T43 l (i : Int)).f0 + (rd_T43 l (i : Int)).f1]) ((i + 1 : Nat) : Int)) r) →
        (¬ c - ((going (rd_T43 l (i : Int)).f0 ends).length : Int) > rd sp (rd_T43 l (i : Int)).f2 → Ev (fun k => spec_Try.l0 k c sp l (inn ++ [false]) (busy ++ [((going (rd_T43 l (i : Int)).f0 ends).length : Int)]) (going (rd_T43 l (i : Int)).f0 ends) ((i + 1 : Nat) : Int)) r) →
        Ev (fun k => spec_Try.j2 k c sp l inn busy ends (i : Int) false (rd_T43 l (i : Int)).f0 (rd_T43 l (i : Int)).f1 (rd_T43 l (i : Int)).f2) r := by
      intro r g1 g2
      refine ev_unroll ?_
      simp only [spec_Try.j2, Bool.false_eq_true, ↓reduceIte]
      refine spec_left c sp l hc hsp hl i hi2 inn busy ends r (by omega) (rd_T43 l (i : Int)) (ev_unroll ?_) ends.length 0 (by omega) (Nat.zero_le _)
      by_cases ct : c - ((going (rd_T43 l (i : Int)).f0 ends).length : Int) > rd sp (rd_T43 l (i : Int)).f2
      · have h := g1 ct
        rw [e.out] at h
        simp only [spec_Try.l1, if_neg nl, wc.out, we.out, if_pos q3.1, if_pos m1, if_pos ct, if_pos m2, if_pos m3, if_pos m4, Option.bind_some, decide_eq_true ct]
        exact h
      · have h := g2 ct
        rw [e.out] at h
        simp only [spec_Try.l1, if_neg nl, wc.out, if_pos q3.1, if_pos m1, if_neg ct, if_pos m3, if_pos m4, decide_eq_false ct]
        exact h
    have o1 := ih (i + 1) (inn ++ [true]) (busy ++ [((going (rd_T43 l (i : Int)).f0 ends ++ [(rd_T43 l (i : Int)).f0 + (rd_T43 l (i : Int)).f1]).length : Int)]) (going (rd_T43 l (i : Int)).f0 ends ++ [(rd_T43 l (i : Int)).f0 + (rd_T43 l (i : Int)).f1]) (by omega) (by omega) (by simp; omega) (by simp; omega) (by simp; omega)
    have o2 := ih (i + 1) (inn ++ [false]) (busy ++ [((going (rd_T43 l (i : Int)).f0 ends).length : Int)]) (going (rd_T43 l (i : Int)).f0 ends) (by omega) (by omega) (by simp; omega) (by simp; omega) (by omega)
    by_cases cz : 1 ≤ i ∧ (rd_T43 l ((i : Int) - 1)).f0 > (rd_T43 l (i : Int)).f0
    · refine ⟨fun h => absurd (h i (by omega) (Int.le_refl _) n1) (by omega), fun _ => ev_unroll ?_⟩
      have hw : wrap64 ((i : Int) - 1) = (i : Int) - 1 := w64 (by omega) (by omega)
      simp only [spec_Try.l0, if_pos n1, if_pos n2, if_pos (show (i : Int) > 0 by omega), hw, if_pos (show 0 ≤ (i : Int) - 1 by omega), if_pos (show (i : Int) - 1 < (l.length : Int) by omega), decide_eq_true cz.2]
      refine ev_unroll ?_
      simp only [spec_Try.j2, ↓reduceIte]
      exact Ev.now _
    · have start : ∀ r, Ev (fun k => spec_Try.j2 k c sp l inn busy ends (i : Int) false (rd_T43 l (i : Int)).f0 (rd_T43 l (i : Int)).f1 (rd_T43 l (i : Int)).f2) r → Ev (fun k => spec_Try.l0 k c sp l inn busy ends (i : Int)) r := by
        intro r h
        refine ev_unroll ?_
        by_cases c1 : 1 ≤ i
        · have hw : wrap64 ((i : Int) - 1) = (i : Int) - 1 := w64 (by omega) (by omega)
          simp only [spec_Try.l0, if_pos n1, if_pos n2, if_pos (show (i : Int) > 0 by omega), hw, if_pos (show 0 ≤ (i : Int) - 1 by omega), if_pos (show (i : Int) - 1 < (l.length : Int) by omega), decide_eq_false (show ¬ (rd_T43 l ((i : Int) - 1)).f0 > (rd_T43 l (i : Int)).f0 from fun h => cz ⟨c1, h⟩)]
          exact h
        · simp only [spec_Try.l0, if_pos n1, if_pos n2, if_neg (show ¬ (i : Int) > 0 by omega)]
          exact h
      refine ⟨fun h => ?_, fun h => ?_⟩
      · have hh : ∀ j : Int, 1 ≤ j → ((i + 1 : Nat) : Int) ≤ j → j < (l.length : Int) → (rd_T43 l (j - 1)).f0 ≤ (rd_T43 l j).f0 := fun j a b d => h j a (by omega) d
        rw [drop43 l i hi2]
        refine start _ (inner _ (fun ct => ?_) (fun ct => ?_))
        · have := o1.1 hh
          simpa [goT, stepT, if_pos ct] using this
        · have := o2.1 hh
          simpa [goT, stepT, if_neg ct] using this
      · have hh : ¬ ∀ j : Int, 1 ≤ j → ((i + 1 : Nat) : Int) ≤ j → j < (l.length : Int) → (rd_T43 l (j - 1)).f0 ≤ (rd_T43 l j).f0 := fun g => h (fun j a b d => by
          by_cases ej : j = (i : Int)
          · subst ej
            have := fun hh => cz ⟨by omega, hh⟩
            omega
          · exact g j a (by omega) d)
        exact start _ (inner _ (fun _ => o1.2 hh) (fun _ => o2.2 hh))
end
open Classical in
/-- What Try tells. -/
noncomputable def tryR (c : Int) (sp : List Int) (l : List S43) : List Bool × List Int × Bool :=
  if (0 ≤ c ∧ c ≤ 64) ∧ SpOk sp ∧ ((∀ x ∈ l, ArOk x) ∧ l.length ≤ 200) ∧ Sorted l then ((goT c sp l []).1, (goT c sp l []).2, true) else ([], [], false)
theorem try_both (c : Int) (sp : List Int) (l : List S43) (hs : sp.length ≤ 1048576) (hn : l.length ≤ 1048576) : Ev (fun k => spec_Try.f k c sp l) (tryR c sp l) ∧ Ev (fun k => impl_Try.f k c sp l) (tryR c sp l) := by
  obtain ⟨r, er⟩ : ∃ r, r = tryR c sp l := ⟨_, rfl⟩
  rw [← er]
  unfold tryR at er
  obtain ⟨b1, p1, q1⟩ := spare_spec sp hs
  obtain ⟨b2, p2, p3, q2⟩ := arr_spec l hn
  obtain ⟨b3, p4, q3⟩ := sorted_a l hn
  obtain ⟨b4, p5, q4⟩ := sorted_i sp hs sp.length ((sp.length : Int) - 1) (by omega) (by omega) (by omega)
  have ws : wrap64 ((sp.length : Int) - 1) = (sp.length : Int) - 1 := w64 (by omega) (by omega)
  have p5' : Ev (fun k => slices_IsSorted_int_int.f k sp) b4 := by simp only [slices_IsSorted_int_int.f, ws]; exact p5
  by_cases h1 : 0 ≤ c ∧ c ≤ 64
  · constructor
    · simp only [spec_Try.f, l1In_t h1.1 h1.2, Option.bind_some, ↓reduceIte]
      refine Ev.bind p1 ?_
      by_cases h2 : SpOk sp
      · rw [q1.mpr h2]
        simp only [↓reduceIte]
        refine Ev.bind p2 ?_
        by_cases h3 : (∀ x ∈ l, ArOk x) ∧ l.length ≤ 200
        · rw [q2.mpr h3]
          simp only [Bool.not_true]
          refine ev_unroll ?_
          simp only [spec_Try.j0, Bool.false_eq_true, ↓reduceIte]
          obtain ⟨g1, g2⟩ := spec_go c sp l h1 h2 h3 l.length 0 [] [] [] rfl (Nat.zero_le _) (by simp; omega) (by simp; omega) (Nat.le_refl _)
          by_cases h4 : Sorted l
          · rw [if_pos ⟨h1, h2, h3, h4⟩] at er
            rw [er]
            simpa using g1 (fun j a _ b => h4 j a b)
          · rw [if_neg (fun h => h4 h.2.2.2)] at er
            rw [er]
            exact g2 (fun h => h4 (fun j a b => h j a (by omega) b))
        · rw [if_neg (fun h => h3 h.2.2.1)] at er
          rw [er, Bool.eq_false_iff.mpr (fun h => h3 (q2.mp h))]
          simp only [Bool.not_false]
          refine ev_unroll ?_
          simp only [spec_Try.j0, ↓reduceIte]
          exact Ev.now _
      · rw [if_neg (fun h => h2 h.2.1)] at er
        rw [er, Bool.eq_false_iff.mpr (fun h => h2 (q1.mp h))]
        simp only [Bool.false_eq_true, ↓reduceIte]
        refine ev_unroll ?_
        simp only [spec_Try.j0, ↓reduceIte]
        exact Ev.now _
    · have out : ∀ (h : ¬ ((0 ≤ c ∧ c ≤ 64) ∧ SpOk sp ∧ ((∀ x ∈ l, ArOk x) ∧ l.length ≤ 200) ∧ Sorted l)), Ev (fun k => impl_Try.j0 k c sp l true) r := by
        intro h
        rw [if_neg h] at er
        rw [er]
        refine ev_unroll ?_
        simp only [impl_Try.j0, ↓reduceIte]
        exact Ev.now _
      simp only [impl_Try.f, in_t h1.1 h1.2, Option.bind_some, ↓reduceIte]
      by_cases a1 : (sp.length : Int) = 4
      · simp only [if_pos a1, if_pos (show (0 : Int) < (sp.length : Int) by omega)]
        by_cases a2 : rd sp 0 = 0
        · simp only [if_pos a2]
          refine Ev.bind p5' ?_
          by_cases a3 : b4 = true
          · subst a3
            have a3' := q4.mp rfl
            have s1 := a3' 1 (by omega) (by omega)
            have s2 := a3' 2 (by omega) (by omega)
            have s3 := a3' 3 (by omega) (by omega)
            simp only [↓reduceIte, if_pos (show (3 : Int) < (sp.length : Int) by omega)]
            by_cases a4 : rd sp 3 > 64
            · simp only [if_pos a4]
              exact out (fun h => by have := h.2.1.2.2.2.2.2; omega)
            · simp only [if_neg a4]
              have h2 : SpOk sp := ⟨a1, a2, s1, s2, s3, by omega⟩
              refine Ev.bind p3 ?_
              by_cases h3 : (∀ x ∈ l, ArOk x) ∧ l.length ≤ 200
              · rw [q2.mpr h3]
                simp only [↓reduceIte]
                refine Ev.bind p4 ?_
                by_cases h4 : Sorted l
                · rw [if_pos ⟨h1, h2, h3, h4⟩] at er
                  rw [er, q3.mpr h4]
                  simp only [Bool.not_true]
                  refine ev_unroll ?_
                  simp only [impl_Try.j0, Bool.false_eq_true, ↓reduceIte]
                  have := impl_go c sp l h1 h2 h3 l.length 0 [] [] [] rfl (Nat.zero_le _) (by simp) (by simp) (by simp; omega) (by simp; omega) (Nat.le_refl _)
                  simpa using this
                · rw [Bool.eq_false_iff.mpr (fun h => h4 (q3.mp h))]
                  exact out (fun h => h4 h.2.2.2)
              · rw [Bool.eq_false_iff.mpr (fun h => h3 (q2.mp h))]
                simp only [Bool.false_eq_true, ↓reduceIte]
                exact out (fun h => h3 h.2.2.1)
          · rw [Bool.eq_false_iff.mpr a3]
            simp only [Bool.false_eq_true, ↓reduceIte]
            refine out (fun h => a3 (q4.mpr (fun j j1 j2 => ?_)))
            obtain ⟨g1, g2, g3, g4, g5, g6⟩ := h.2.1
            have hj : j = 1 ∨ j = 2 ∨ j = 3 := by omega
            rcases hj with rfl | rfl | rfl
            · exact g3
            · exact g4
            · exact g5
        · simp only [if_neg a2]
          exact out (fun h => a2 h.2.1.2.1)
      · simp only [if_neg a1]
        exact out (fun h => a1 h.2.1.1)
  · rw [if_neg (fun h => h1 h.1)] at er
    rw [er]
    constructor
    · simp only [spec_Try.f, l1In_f h1, Option.bind_some, Bool.false_eq_true, ↓reduceIte]
      refine ev_unroll ?_
      simp only [spec_Try.j0, ↓reduceIte]
      exact Ev.now _
    · simp only [impl_Try.f, in_f h1, Option.bind_some, Bool.false_eq_true, ↓reduceIte]
      refine ev_unroll ?_
      simp only [impl_Try.j0, ↓reduceIte]
      exact Ev.now _
theorem tryR_length (c : Int) (sp : List Int) (l : List S43) (hn : l.length ≤ 1048576) : (tryR c sp l).1.length ≤ 1048576 ∧ (tryR c sp l).2.1.length ≤ 1048576 := by
  unfold tryR
  split
  · obtain ⟨h1, h2⟩ := goT_length c sp l []
    exact ⟨by rw [h1]; omega, by rw [h2]; omega⟩
  · exact ⟨by simp, by simp⟩
theorem sizeT_some (l0 : List Int) (a1 : Int) (hb : l0.length ≤ 1048576) (h0 : 0 ≤ a1) (h1 : a1 ≤ 1000) : ∃ v, spec_l1Size.f l0 a1 = some v ∧ 0 ≤ v ∧ v ≤ a1 := by
  unfold spec_l1Size.f
  by_cases h : 2 + (l0.length : Int) / 20 > a1
  · simp (disch := omega) only [↓if_pos, ↓if_neg, if_pos, if_neg, ↓reduceIte, w64, in_t, in_f, l1In_t, l1In_f, Option.bind_some, Bool.not_true, Bool.not_false, Bool.false_eq_true, tmod_nonneg, tdiv_nonneg]
    exact ⟨_, rfl, h0, by omega⟩
  · simp (disch := omega) only [↓if_pos, ↓if_neg, if_pos, if_neg, ↓reduceIte, w64, in_t, in_f, l1In_t, l1In_f, Option.bind_some, Bool.not_true, Bool.not_false, Bool.false_eq_true, tmod_nonneg, tdiv_nonneg]
    exact ⟨_, rfl, by omega, by omega⟩
theorem drawT (b : List Int) (hb : b.length ≤ 1048576) (n : Int) (hn : n ≤ 1000) : ∀ (d : Nat) (x5 : List S43) (x6 x7 i h : Int), n - x7 ≤ d → 0 ≤ x7 → (x5.length : Int) ≤ x7 → x7 ≤ 1000 → 0 ≤ i → i ≤ 1048576 →
    ∃ (l : List S43) (i' h' : Int), l.length ≤ 2000 ∧ 0 ≤ i' ∧ i' ≤ 1048576 ∧ Ev (fun k => spec_l17Draw.l0 k n x5 x6 x7 b i h) (l, i', h') := by
  intro d
  induction d with
  | zero =>
    intro x5 x6 x7 i h hd h7 h5 h71 i0 i1
    refine ⟨x5, i, h, by omega, i0, i1, ev_unroll ?_⟩
    simp only [spec_l17Draw.l0, if_neg (show ¬ x7 < n by omega)]
    exact Ev.now _
  | succ d ih =>
    intro x5 x6 x7 i h hd h7 h5 h71 i0 i1
    by_cases hlt : x7 < n
    · obtain ⟨v1, i2, s2, e2, _, _, _, p4, p5⟩ := l1Below_some b i h 40 hb i0 i1
      obtain ⟨v2, i3, s3, e3, _, _, _, q4, q5⟩ := l1Below_some b i2 s2 4 hb p4 p5
      obtain ⟨v3, i4, s4, e4, _, _, _, r4, r5⟩ := l1Below_some b i3 s3 8 hb q4 q5
      obtain ⟨l, i', h', o1, o2, o3, p⟩ := ih (x5 ++ [⟨x6, v1, v2⟩]) (wrap64 (x6 + v3)) (x7 + 1) i4 s4 (by omega) (by omega) (by simp; omega) (by omega) r4 r5
      have ew : wrap64 (x7 + 1) = x7 + 1 := w64 (by omega) (by omega)
      refine ⟨l, i', h', o1, o2, o3, ev_unroll ?_⟩
      simp only [spec_l17Draw.l0, if_pos hlt, e2, e3, e4, Option.bind_some, if_pos (show x5.length < 5864062014805 by omega), ew]
      exact p
    · refine ⟨x5, i, h, by omega, i0, i1, ev_unroll ?_⟩
      simp only [spec_l17Draw.l0, if_neg hlt]
      exact Ev.now _
theorem drawAny_ev (b l1 : List Int) (hb : b.length ≤ 1048576) (hb1 : l1.length ≤ 1048576) (i h : Int) (i0 : 0 ≤ i) (i1 : i ≤ 1048576) :
    ∃ (l : List S43) (i' h' : Int), l.length ≤ 3000 ∧ 0 ≤ i' ∧ i' ≤ 1048576 ∧ Ev (fun k => spec_l17DrawAny.f k b i h l1) (l, i', h') := by
  obtain ⟨v, ev, v0, v1⟩ := sizeT_some l1 24 hb1 (by omega) (by omega)
  have ew : wrap64 (v + 1) = v + 1 := w64 (by omega) (by omega)
  obtain ⟨n, i2, s2, e2, p1, p2, p3, p4, p5⟩ := l1Below_some b i h (v + 1) hb i0 i1
  have hn := p2 (by omega)
  obtain ⟨t, i3, s3, e3, _, _, _, q4, q5⟩ := l1Below_some b i2 s2 20 hb p4 p5
  obtain ⟨l, i4, s4, hl, r4, r5, hd⟩ := drawT b hb n (by omega) 1000 [] t 0 i3 s3 (by omega) (by omega) (by simp) (by omega) q4 q5
  have hd2 : Ev (fun k => spec_l17Draw.f k b i2 s2 n) (l, i4, s4) := by
    simp only [spec_l17Draw.f, e3, Option.bind_some]
    exact hd
  obtain ⟨z, i5, s5, e5, t1, t2, t3, t4, t5⟩ := l1Below_some b i4 s4 25 hb r4 r5
  have start : ∀ r, (Ev (fun k => if z = 0 then ((spec_l1PickInt.f b i5 s5 (([(-1), 0, 1000000000, 1000000001] : List Int))).bind fun bt269 => (if l.length < 5864062014805 then (some ((l ++ [(⟨bt269.1, 0, 0⟩ : S43)]), bt269.2.1, bt269.2.2)) else (none))) else (if z = 1 then (if (l.length : Int) > 0 then ((spec_l1PickInt.f b i5 s5 (([(-1), 10000, 10001] : List Int))).bind fun bt278 => (if 0 < (l.length : Int) then (some ((l.set (0 : Int).toNat (⟨(rd_T43 l 0).f0, bt278.1, (rd_T43 l 0).f2⟩ : S43)), bt278.2.1, bt278.2.2)) else (none))) else (some (l, i5, s5))) else (if z = 2 then (if (l.length : Int) > 0 then ((spec_l1PickInt.f b i5 s5 (([(-1), 3, 4] : List Int))).bind fun bt285 => (if 0 < (l.length : Int) then (some ((l.set (0 : Int).toNat (⟨(rd_T43 l 0).f0, (rd_T43 l 0).f1, bt285.1⟩ : S43)), bt285.2.1, bt285.2.2)) else (none))) else (some (l, i5, s5))) else (if z = 3 then ((spec_l1Below.f b i5 s5 2).bind fun bt289 => (if 0 ≤ (wrap64 (200 + bt289.1)) then (if (wrap64 (200 + bt289.1) : Int).toNat ≤ 11728124029610 then (some ((List.replicate (wrap64 (200 + bt289.1) : Int).toNat z43), bt289.2.1, bt289.2.2)) else (none)) else (none))) else (some (l, i5, s5)))))) r) → Ev (fun k => spec_l17DrawAny.f k b i h l1) r := by
    intro r hr
    simp only [spec_l17DrawAny.f, ev, Option.bind_some, ew, e2]
    refine Ev.bind hd2 ?_
    simp only [e5, Option.bind_some]
    exact hr
  by_cases c0 : z = 0
  · obtain ⟨y, i6, s6, e6, _, u1, u2⟩ := l1PickInt_some b i5 s5 [(-1), 0, 1000000000, 1000000001] (by decide) hb t4 t5
    refine ⟨l ++ [⟨y, 0, 0⟩], i6, s6, by simp; omega, u1, u2, start _ ?_⟩
    simp only [if_pos c0, e6, Option.bind_some, if_pos (show l.length < 5864062014805 by omega)]
    exact Ev.now _
  by_cases c1 : z = 1
  · by_cases hz : (l.length : Int) > 0
    · obtain ⟨y, i6, s6, e6, _, u1, u2⟩ := l1PickInt_some b i5 s5 [(-1), 10000, 10001] (by decide) hb t4 t5
      refine ⟨l.set (0 : Int).toNat ⟨(rd_T43 l 0).f0, y, (rd_T43 l 0).f2⟩, i6, s6, by simp; omega, u1, u2, start _ ?_⟩
      simp only [if_neg c0, if_pos c1, if_pos hz, e6, Option.bind_some, if_pos (show 0 < (l.length : Int) from hz)]
      exact Ev.now _
    · refine ⟨l, i5, s5, by omega, t4, t5, start _ ?_⟩
      simp only [if_neg c0, if_pos c1, if_neg hz]
      exact Ev.now _
  by_cases c2 : z = 2
  · by_cases hz : (l.length : Int) > 0
    · obtain ⟨y, i6, s6, e6, _, u1, u2⟩ := l1PickInt_some b i5 s5 [(-1), 3, 4] (by decide) hb t4 t5
      refine ⟨l.set (0 : Int).toNat ⟨(rd_T43 l 0).f0, (rd_T43 l 0).f1, y⟩, i6, s6, by simp; omega, u1, u2, start _ ?_⟩
      simp only [if_neg c0, if_neg c1, if_pos c2, if_pos hz, e6, Option.bind_some, if_pos (show 0 < (l.length : Int) from hz)]
      exact Ev.now _
    · refine ⟨l, i5, s5, by omega, t4, t5, start _ ?_⟩
      simp only [if_neg c0, if_neg c1, if_pos c2, if_neg hz]
      exact Ev.now _
  by_cases c3 : z = 3
  · obtain ⟨y, i6, s6, e6, y1, y2, _, u1, u2⟩ := l1Below_some b i5 s5 2 hb t4 t5
    have hy := y2 (by omega)
    have ew2 : wrap64 (200 + y) = 200 + y := w64 (by omega) (by omega)
    refine ⟨List.replicate (200 + y).toNat z43, i6, s6, by simp; omega, u1, u2, start _ ?_⟩
    simp only [if_neg c0, if_neg c1, if_neg c2, if_pos c3, e6, Option.bind_some, ew2, if_pos (show 0 ≤ 200 + y by omega), if_pos (show (200 + y).toNat ≤ 11728124029610 by omega)]
    exact Ev.now _
  · refine ⟨l, i5, s5, by omega, t4, t5, start _ ?_⟩
    simp only [if_neg c0, if_neg c1, if_neg c2, if_neg c3]
    exact Ev.now _
theorem drawTry_ev (l0 : List Int) (hb : l0.length ≤ 1048576) : ∃ (c : Int) (sp : List Int) (l : List S43), sp.length ≤ 10 ∧ l.length ≤ 3000 ∧ Ev (fun k => spec_DrawTry.f k l0) (c, sp, l) := by
  obtain ⟨h, e⟩ := l1New_ev l0
  obtain ⟨l, i1, s1, hl, j1, j2, hd⟩ := drawAny_ev l0 l0 hb hb 0 h (by omega) (by omega)
  obtain ⟨v1, i2, s2, e2, _, _, _, p4, p5⟩ := l1Below_some l0 i1 s1 3 hb j1 j2
  obtain ⟨v2, i3, s3, e3, _, _, _, q4, q5⟩ := l1Below_some l0 i2 s2 2 hb p4 p5
  obtain ⟨v3, i4, s4, e4, _, _, _, r4, r5⟩ := l1Below_some l0 i3 s3 3 hb q4 q5
  obtain ⟨z, i5, s5, e5, _, _, _, t4, t5⟩ := l1Below_some l0 i4 s4 25 hb r4 r5
  obtain ⟨Y, hY⟩ : ∃ Y, ([0, v1, wrap64 (v1 + v2), wrap64 ((wrap64 (v1 + v2)) + v3)] : List Int) = Y := ⟨_, rfl⟩
  have hYl : Y.length = 4 := by rw [← hY]; rfl
  have start : ∀ r, Ev (fun k => if z = 0 then (if Y.length < 17592186044416 then ((spec_l1PickInt.f l0 i5 s5 (([0, 1, 2, 3, 5, 64, 65, (-1), 4] : List Int))).bind fun bt325 => (some (bt325.1, (Y ++ [9]), l))) else (none)) else (if z = 1 then (if 0 < (Y.length : Int) then ((spec_l1PickInt.f l0 i5 s5 (([0, 1, 2, 3, 5, 64, 65, (-1), 4] : List Int))).bind fun bt332 => (some (bt332.1, (Y.set (0 : Int).toNat 1), l))) else (none)) else (if z = 2 then ((spec_l1PickInt.f l0 i5 s5 (([0, 64, 65] : List Int))).bind fun bt338 => (if 3 < (Y.length : Int) then ((spec_l1PickInt.f l0 bt338.2.1 bt338.2.2 (([0, 1, 2, 3, 5, 64, 65, (-1), 4] : List Int))).bind fun bt345 => (some (bt345.1, (Y.set (3 : Int).toNat bt338.1), l))) else (none))) else ((spec_l1PickInt.f l0 i5 s5 (([0, 1, 2, 3, 5, 64, 65, (-1), 4] : List Int))).bind fun bt351 => (some (bt351.1, Y, l)))))) r → Ev (fun k => spec_DrawTry.f k l0) r := by
    intro r hr
    simp only [spec_DrawTry.f]
    refine Ev.bind e (Ev.bind hd ?_)
    simp only [e2, e3, e4, e5, Option.bind_some, hY]
    exact hr
  by_cases c0 : z = 0
  · obtain ⟨y, i6, s6, e6, _, u1, u2⟩ := l1PickInt_some l0 i5 s5 [0, 1, 2, 3, 5, 64, 65, (-1), 4] (by decide) hb t4 t5
    refine ⟨y, Y ++ [9], l, by simp; omega, hl, start _ ?_⟩
    simp only [if_pos c0, if_pos (show Y.length < 17592186044416 by omega), e6, Option.bind_some]
    exact Ev.now _
  by_cases c1 : z = 1
  · obtain ⟨y, i6, s6, e6, _, u1, u2⟩ := l1PickInt_some l0 i5 s5 [0, 1, 2, 3, 5, 64, 65, (-1), 4] (by decide) hb t4 t5
    refine ⟨y, Y.set (0 : Int).toNat 1, l, by simp; omega, hl, start _ ?_⟩
    simp only [if_neg c0, if_pos c1, if_pos (show 0 < (Y.length : Int) by omega), e6, Option.bind_some]
    exact Ev.now _
  by_cases c2 : z = 2
  · obtain ⟨x, i6, s6, e6, _, u1, u2⟩ := l1PickInt_some l0 i5 s5 [0, 64, 65] (by decide) hb t4 t5
    obtain ⟨y, i7, s7, e7, _, _, _⟩ := l1PickInt_some l0 i6 s6 [0, 1, 2, 3, 5, 64, 65, (-1), 4] (by decide) hb u1 u2
    refine ⟨y, Y.set (3 : Int).toNat x, l, by simp; omega, hl, start _ ?_⟩
    simp only [if_neg c0, if_neg c1, if_pos c2, e6, Option.bind_some, if_pos (show 3 < (Y.length : Int) by omega), e7]
    exact Ev.now _
  · obtain ⟨y, i6, s6, e6, _, u1, u2⟩ := l1PickInt_some l0 i5 s5 [0, 1, 2, 3, 5, 64, 65, (-1), 4] (by decide) hb t4 t5
    refine ⟨y, Y, l, by omega, hl, start _ ?_⟩
    simp only [if_neg c0, if_neg c1, if_neg c2, e6, Option.bind_some]
    exact Ev.now _
/-- Whose ends are still kept ahead of arrival i. -/
def endsAt (c : Int) (sp : List Int) (l : List S43) : Nat → List Int
  | 0 => []
  | i + 1 => (stepT c sp (rd_T43 l (i : Int)) (endsAt c sp l i)).2
def inAt (c : Int) (sp : List Int) (l : List S43) (i : Nat) : Bool := (stepT c sp (rd_T43 l (i : Int)) (endsAt c sp l i)).1
theorem goT_at (c : Int) (sp : List Int) (l : List S43) : ∀ (d i : Nat), i + d < l.length → (goT c sp (l.drop i) (endsAt c sp l i)).1.getD d false = inAt c sp l (i + d) ∧ (goT c sp (l.drop i) (endsAt c sp l i)).2.getD d 0 = ((endsAt c sp l (i + d + 1)).length : Int) := by
  intro d
  induction d with
  | zero =>
    intro i hi
    rw [drop43 l i (by omega)]
    simp [goT, inAt, endsAt]
  | succ d ih =>
    intro i hi
    have h := ih (i + 1) (by omega)
    rw [drop43 l i (by omega)]
    simp only [goT, List.getD_cons_succ]
    rw [show i + (d + 1) = i + 1 + d by omega]
    exact h
theorem in_at (c : Int) (sp : List Int) (l : List S43) (i : Nat) (hi : i < l.length) : rdOf false (goT c sp l []).1 (i : Int) = inAt c sp l i := by
  have h := (goT_at c sp l i 0 (by omega)).1
  rw [Nat.zero_add, List.drop_zero] at h
  simpa [rdOf, endsAt] using h
theorem busy_at (c : Int) (sp : List Int) (l : List S43) (i : Nat) (hi : i < l.length) : rd (goT c sp l []).2 (i : Int) = ((endsAt c sp l (i + 1)).length : Int) := by
  have h := (goT_at c sp l i 0 (by omega)).2
  rw [Nat.zero_add, List.drop_zero] at h
  simpa [rd, endsAt] using h
def cntT (c : Int) (sp : List Int) (l : List S43) (t : Int) : Nat → Int
  | 0 => 0
  | i + 1 => cntT c sp l t i + (if inAt c sp l i = true ∧ (rd_T43 l (i : Int)).f0 + (rd_T43 l (i : Int)).f1 > t then 1 else 0)
theorem going_going {t u : Int} (h : u ≤ t) (ends : List Int) : going t (going u ends) = going t ends := by
  unfold going
  rw [List.filter_filter]
  refine List.filter_congr (fun e _ => ?_)
  by_cases h1 : e ≤ t
  · rw [decide_eq_true h1]; simp
  · rw [decide_eq_false h1, decide_eq_false (show ¬ e ≤ u by omega)]; simp
theorem cnt_bd (c : Int) (sp : List Int) (l : List S43) (t : Int) : ∀ i : Nat, 0 ≤ cntT c sp l t i ∧ cntT c sp l t i ≤ i := by
  intro i
  induction i with
  | zero => exact ⟨Int.le_refl _, Int.le_refl _⟩
  | succ i ih =>
    simp only [cntT]
    split <;> omega
theorem cnt_eq (c : Int) (sp : List Int) (l : List S43) (t : Int) : ∀ i : Nat, (∀ j : Nat, j < i → (rd_T43 l (j : Int)).f0 ≤ t) → ((going t (endsAt c sp l i)).length : Int) = cntT c sp l t i := by
  intro i
  induction i with
  | zero => intro _; rfl
  | succ i ih =>
    intro h
    have h1 := ih (fun j hj => h j (by omega))
    have h2 := h i (by omega)
    have hg := going_going h2 (endsAt c sp l i)
    simp only [endsAt, cntT, inAt, stepT]
    by_cases ct : c - ((going (rd_T43 l (i : Int)).f0 (endsAt c sp l i)).length : Int) > rd sp (rd_T43 l (i : Int)).f2
    · simp only [if_pos ct]
      have e : going t (going (rd_T43 l (i : Int)).f0 (endsAt c sp l i) ++ [(rd_T43 l (i : Int)).f0 + (rd_T43 l (i : Int)).f1]) = going t (endsAt c sp l i) ++ going t [(rd_T43 l (i : Int)).f0 + (rd_T43 l (i : Int)).f1] := by
        rw [← hg]; unfold going; rw [List.filter_append]
      rw [e, List.length_append]
      by_cases hx : (rd_T43 l (i : Int)).f0 + (rd_T43 l (i : Int)).f1 > t
      · rw [if_pos ⟨trivial, hx⟩]
        have : going t [(rd_T43 l (i : Int)).f0 + (rd_T43 l (i : Int)).f1] = [(rd_T43 l (i : Int)).f0 + (rd_T43 l (i : Int)).f1] := by
          unfold going; rw [List.filter_cons, decide_eq_false (by omega)]; simp
        rw [this, List.length_singleton]
        omega
      · rw [if_neg (fun h => hx h.2)]
        have : going t [(rd_T43 l (i : Int)).f0 + (rd_T43 l (i : Int)).f1] = [] := by
          unfold going; rw [List.filter_cons, decide_eq_true (by omega)]; simp
        rw [this, List.length_nil]
        omega
    · simp only [if_neg ct]
      rw [if_neg (fun h => by simp at h), hg]
      omega
theorem ends_le (c : Int) (sp : List Int) (l : List S43) (hc : 0 ≤ c) (hsp : SpOk sp) (hl : ∀ x ∈ l, ArOk x) : ∀ i : Nat, i ≤ l.length → ((endsAt c sp l i).length : Int) ≤ c := by
  intro i
  induction i with
  | zero => intro _; simpa [endsAt] using hc
  | succ i ih =>
    intro hi
    have h := ih (by omega)
    have hg := going_le (rd_T43 l (i : Int)).f0 (endsAt c sp l i)
    obtain ⟨_, _, q3⟩ := hl _ (rd43_mem (l := l) (i := (i : Int)) (by omega) (by omega))
    obtain ⟨g1, g2, g3, g4, g5, g6⟩ := hsp
    have hpos : 0 ≤ rd sp (rd_T43 l (i : Int)).f2 := by
      have hj : (rd_T43 l (i : Int)).f2 = 0 ∨ (rd_T43 l (i : Int)).f2 = 1 ∨ (rd_T43 l (i : Int)).f2 = 2 ∨ (rd_T43 l (i : Int)).f2 = 3 := by omega
      rcases hj with e | e | e | e <;> rw [e] <;> omega
    simp only [endsAt, stepT]
    by_cases ct : c - ((going (rd_T43 l (i : Int)).f0 (endsAt c sp l i)).length : Int) > rd sp (rd_T43 l (i : Int)).f2
    · simp only [if_pos ct, List.length_append, List.length_singleton]
      omega
    · simp only [if_neg ct]
      omega
theorem sorted_le (l : List S43) (h : Sorted l) (i : Nat) (hi : i < l.length) : ∀ j : Nat, j ≤ i → (rd_T43 l (j : Int)).f0 ≤ (rd_T43 l (i : Int)).f0 := by
  have key : ∀ (d j : Nat), j + d = i → (rd_T43 l (j : Int)).f0 ≤ (rd_T43 l (i : Int)).f0 := by
    intro d
    induction d with
    | zero => intro j hj; rw [show j = i by omega]; exact Int.le_refl _
    | succ d ih =>
      intro j hj
      have h1 := ih (j + 1) (by omega)
      have h2 := h ((j : Int) + 1) (by omega) (by omega)
      rw [show (j : Int) + 1 - 1 = (j : Int) by omega] at h2
      rw [show ((j + 1 : Nat) : Int) = (j : Int) + 1 by omega] at h1
      omega
  intro j hj
  exact key (i - j) j (by omega)
section
variable (c : Int) (sp : List Int) (l : List S43) (hc : 0 ≤ c ∧ c ≤ 64) (hsp : SpOk sp) (hl : (∀ x ∈ l, ArOk x) ∧ l.length ≤ 200) (hso : Sorted l)
include hc hsp hl hso
theorem law_l1 (i : Nat) (hi : i < l.length) (r : Bool) (H : Ev (fun k => laws_FnTried.l1 k c sp l (goT c sp l []).1 (goT c sp l []).2 true (i : Int) (cntT c sp l (rd_T43 l (i : Int)).f0 i) (i : Int) (rd_T43 l (i : Int)).f0 (rd_T43 l (i : Int)).f1 (rd_T43 l (i : Int)).f2) r) :
    ∀ (d j : Nat), i - j = d → j ≤ i → Ev (fun k => laws_FnTried.l1 k c sp l (goT c sp l []).1 (goT c sp l []).2 true (i : Int) (cntT c sp l (rd_T43 l (i : Int)).f0 j) (j : Int) (rd_T43 l (i : Int)).f0 (rd_T43 l (i : Int)).f1 (rd_T43 l (i : Int)).f2) r := by
  intro d
  induction d with
  | zero =>
    intro j hd hj
    have e : j = i := by omega
    subst e
    exact H
  | succ d ih =>
    intro j hd hj
    have p := ih (j + 1) (by omega) (by omega)
    obtain ⟨g1, g2⟩ := goT_length c sp l []
    have hlen := hl.2
    have e := Aside0.mk (show ((j + 1 : Nat) : Int) = wrap64 ((j : Int) + 1) by rw [w64 (by omega) (by omega)]; omega)
    obtain ⟨q1, q2, _⟩ := hl.1 _ (rd43_mem (l := l) (i := (j : Int)) (by omega) (by omega))
    have we := Aside0.mk (show wrap64 ((rd_T43 l (j : Int)).f0 + (rd_T43 l (j : Int)).f1) = (rd_T43 l (j : Int)).f0 + (rd_T43 l (j : Int)).f1 from w64 (by omega) (by omega))
    have cb := cnt_bd c sp l (rd_T43 l (i : Int)).f0 j
    have wn := Aside0.mk (show wrap64 (cntT c sp l (rd_T43 l (i : Int)).f0 j + 1) = cntT c sp l (rd_T43 l (i : Int)).f0 j + 1 from w64 (by omega) (by omega))
    have ia := in_at c sp l j (by omega)
    rw [e.out] at p
    simp only [cntT] at p
    refine ev_unroll ?_
    simp only [laws_FnTried.l1, if_pos (show (j : Int) < (i : Int) by omega), if_pos (show (0 : Int) ≤ (j : Int) by omega), if_pos (show (j : Int) < ((goT c sp l []).1.length : Int) by omega), ia, if_pos (show (j : Int) < (l.length : Int) by omega), we.out, wn.out]
    by_cases ci : inAt c sp l j = true
    · simp only [if_pos ci]
      by_cases cx : (rd_T43 l (j : Int)).f0 + (rd_T43 l (j : Int)).f1 > (rd_T43 l (i : Int)).f0
      · rw [if_pos ⟨ci, cx⟩] at p
        simp only [if_pos cx]
        exact p
      · rw [if_neg (fun h => cx h.2), Int.add_zero] at p
        simp only [if_neg cx]
        exact p
    · rw [if_neg (fun h => ci h.1), Int.add_zero] at p
      simp only [if_neg ci]
      exact p
theorem law_l0 : ∀ (d i : Nat), l.length - i = d → i ≤ l.length → Ev (fun k => laws_FnTried.l0 k c sp l (goT c sp l []).1 (goT c sp l []).2 true (i : Int)) true := by
  obtain ⟨g1, g2⟩ := goT_length c sp l []
  have hlen := hl.2
  intro d
  induction d with
  | zero =>
    intro i hd hi
    refine ev_unroll ?_
    simp only [laws_FnTried.l0, if_neg (show ¬ (i : Int) < ((goT c sp l []).1.length : Int) by omega), ↓reduceIte, if_pos (show ((goT c sp l []).1.length : Int) = (l.length : Int) by omega)]
    rw [g2]
    simpa using Ev.now true
  | succ d ih =>
    intro i hd hi
    have hi2 : i < l.length := by omega
    have p := ih (i + 1) (by omega) (by omega)
    have e := Aside0.mk (show ((i + 1 : Nat) : Int) = wrap64 ((i : Int) + 1) by rw [w64 (by omega) (by omega)]; omega)
    rw [e.out] at p
    have n0 : (0 : Int) ≤ (i : Int) := by omega
    have n1 : (i : Int) < (l.length : Int) := by omega
    have n2 : (i : Int) < ((goT c sp l []).1.length : Int) := by omega
    have n3 : (i : Int) < ((goT c sp l []).2.length : Int) := by omega
    obtain ⟨q1, q2, q3⟩ := hl.1 _ (rd43_mem n0 n1)
    have hs4 := hsp.1
    have m1 : (rd_T43 l (i : Int)).f2 < (sp.length : Int) := by omega
    refine ev_unroll ?_
    simp only [laws_FnTried.l0, if_pos n0, if_pos n1, if_pos n2]
    refine law_l1 c sp l hc hsp hl hso i hi2 true (ev_unroll ?_) i 0 (by omega) (Nat.zero_le _)
    have ce := cnt_eq c sp l (rd_T43 l (i : Int)).f0 i (fun j hj => sorted_le l hso i hi2 j (by omega))
    have ia := in_at c sp l i hi2
    have ba := busy_at c sp l i hi2
    have el := ends_le c sp l hc.1 hsp hl.1 (i + 1) (by omega)
    have el0 := ends_le c sp l hc.1 hsp hl.1 i (by omega)
    have gl := going_le (rd_T43 l (i : Int)).f0 (endsAt c sp l i)
    have wc := Aside0.mk (show wrap64 (c - cntT c sp l (rd_T43 l (i : Int)).f0 i) = c - cntT c sp l (rd_T43 l (i : Int)).f0 i from w64 (by omega) (by omega))
    have wn := Aside0.mk (show wrap64 (cntT c sp l (rd_T43 l (i : Int)).f0 i + 1) = cntT c sp l (rd_T43 l (i : Int)).f0 i + 1 from w64 (by omega) (by omega))
    have nlt : ¬ (i : Int) < (i : Int) := by omega
    simp only [endsAt, stepT, ce] at ba el
    by_cases ct : c - cntT c sp l (rd_T43 l (i : Int)).f0 i > rd sp (rd_T43 l (i : Int)).f2
    · have hin : inAt c sp l i = true := by simp only [inAt, stepT, ce, if_pos ct]
      simp only [if_pos ct, List.length_append, List.length_singleton] at ba el
      have hb2 : rd (goT c sp l []).2 (i : Int) = cntT c sp l (rd_T43 l (i : Int)).f0 i + 1 := by rw [ba]; omega
      have hle : ¬ cntT c sp l (rd_T43 l (i : Int)).f0 i + 1 > c := by omega
      simp only [laws_FnTried.l1, if_neg nlt, if_pos n0, if_pos n2, ia, hin, ↓reduceIte, if_pos q3.1, if_pos m1, wc.out, wn.out, decide_eq_true ct, bne_self_eq_false, Bool.false_eq_true, if_pos n3, hb2, if_neg hle]
      exact p
    · have hin : inAt c sp l i = false := by simp only [inAt, stepT, ce, if_neg ct]
      simp only [if_neg ct] at ba el
      have hb2 : rd (goT c sp l []).2 (i : Int) = cntT c sp l (rd_T43 l (i : Int)).f0 i := by rw [ba]; omega
      have hle : ¬ cntT c sp l (rd_T43 l (i : Int)).f0 i > c := by omega
      simp only [laws_FnTried.l1, if_neg nlt, if_pos n0, if_pos n2, ia, hin, Bool.false_eq_true, ↓reduceIte, if_pos q3.1, if_pos m1, wc.out, decide_eq_false ct, bne_self_eq_false, if_pos n3, hb2, if_neg hle]
      exact p
end
theorem smallT_ev : Ev (fun k => impl_Try.f k 1 [0, 0, 0, 0] [⟨0, 5, 0⟩, ⟨4, 0, 0⟩, ⟨5, 0, 0⟩]) ([true, false, true], [1, 1, 1], true) :=
  Ev.of (fun k => impl_Try.mono 1 [0, 0, 0, 0] [⟨0, 5, 0⟩, ⟨4, 0, 0⟩, ⟨5, 0, 0⟩] k) (k := 60) (by decide +kernel)
theorem FnTried : laws_FnTried.Pure := by
  intro l0 _ _ hw
  refine Ev.rounds (g := fun k => laws_FnTried.f k l0) ?_
  simp only [laws_FnTried.f, laws_big.f, Option.bind_some, decide_eq_true_eq]
  by_cases hb : (l0.length : Int) > 1048576
  · simp only [if_pos hb]
    exact Ev.now _
  simp only [if_neg hb]
  obtain ⟨c, sp, l, hs, hl, hd⟩ := drawTry_ev l0 (by omega)
  obtain ⟨ps, pi⟩ := try_both c sp l (by omega) (by omega)
  obtain ⟨r, er⟩ : ∃ r, tryR c sp l = r := ⟨_, rfl⟩
  rw [er] at ps pi
  unfold tryR at er
  -- what stands behind the example
  have law : Ev (fun k => laws_FnTried.j0 k c sp l r.1 r.2.1 r.2.2 ((r.2.1.length : Int) != (r.1.length : Int))) true ∧ ¬ (r.1.length : Int) > (l.length : Int) := by
    by_cases hC : (0 ≤ c ∧ c ≤ 64) ∧ SpOk sp ∧ ((∀ x ∈ l, ArOk x) ∧ l.length ≤ 200) ∧ Sorted l
    · rw [if_pos hC] at er
      subst er
      obtain ⟨g1, g2⟩ := goT_length c sp l []
      refine ⟨ev_unroll ?_, by simp only; omega⟩
      simp only [g1, g2, bne_self_eq_false, laws_FnTried.j0, Bool.false_eq_true, ↓reduceIte]
      exact law_l0 c sp l hC.1 hC.2.1 hC.2.2.1 hC.2.2.2 l.length 0 rfl (Nat.zero_le _)
    · rw [if_neg hC] at er
      subst er
      refine ⟨ev_unroll ?_, by simp only [List.length_nil]; omega⟩
      simp only [laws_FnTried.j0, List.length_nil, bne_self_eq_false, Bool.false_eq_true, ↓reduceIte]
      refine ev_unroll ?_
      simp only [laws_FnTried.l0, List.length_nil, if_neg (show ¬ (0 : Int) < ((0 : Nat) : Int) by omega), Bool.false_eq_true, ↓reduceIte]
      exact Ev.now _
  refine Ev.bind hd (Ev.bind pi (Ev.bind ps ?_))
  simp only [bne_self_eq_false, Bool.false_eq_true, ↓reduceIte]
  refine Ev.bind smallT_ev ?_
  simp only [↓reduceIte, List.length_cons, List.length_nil, rdOf]
  simp only [show (((0 + 1 + 1 + 1 : Nat) : Int) = 3) = True from by simp, if_true, if_pos (show (0 : Int) < ((0 + 1 + 1 + 1 : Nat) : Int) by decide), if_pos (show (1 : Int) < ((0 + 1 + 1 + 1 : Nat) : Int) by decide), if_pos (show (2 : Int) < ((0 + 1 + 1 + 1 : Nat) : Int) by decide), show (([true, false, true] : List Bool).getD (0 : Int).toNat false = true) = True from by decide, show (([true, false, true] : List Bool).getD (1 : Int).toNat false = true) = False from by decide, show (([true, false, true] : List Bool).getD (2 : Int).toNat false = true) = True from by decide, if_false]
  refine Ev.bind (sameInts_ev [1, 1, 1] [1, 1, 1] (by simp)) ?_
  simp only [decide_true, ↓reduceIte, if_neg law.2]
  exact law.1

end Go.Proofs.Ytakafcocojjeoaa.Pure
