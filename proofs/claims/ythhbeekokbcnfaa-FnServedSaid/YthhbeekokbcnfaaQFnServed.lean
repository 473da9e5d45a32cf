/- The law FnServed: for every code, by the drawn measures just one cell serves at each tick, it changes never twice within dwell, and only to one that is stronger by the margin then. -/
import Derived.Test.YthhbeekokbcnfaaMFnServedx8
import Derived.Test.YthhbeekokbcnfaaKit
namespace Go.Proofs.Ythhbeekokbcnfaa.Pure
set_option linter.unusedSimpArgs false
set_option linter.unusedVariables false
set_option linter.unusedSectionVars false
open Go Go.RowKit Go.Proofs.Ythhbeekokbcnfaa.MFnServed Go.Proofs.YthhbeekokbcnfaaW.PrintWords Go.Proofs.YthhbeekokbcnfaaW.PrintLast Go.Proofs.Ythhbeekokbcnfaa.Mine

theorem in_t {a b c : Int} (h : b ≤ a) (h2 : a ≤ c) : impl_in.f a b c = some true := by
  unfold impl_in.f
  rw [if_pos (by omega)]; simp [h2]
theorem in_f {a b c : Int} (h : ¬ (b ≤ a ∧ a ≤ c)) : impl_in.f a b c = some false := by
  unfold impl_in.f
  by_cases g : a ≥ b
  · rw [if_pos g]; simp; omega
  · rw [if_neg g]
theorem l1In_t {a b c : Int} (h : b ≤ a) (h2 : a ≤ c) : spec_l1In.f a b c = some true := by
  unfold spec_l1In.f
  rw [if_pos (by omega)]; simp [h2]
theorem l1In_f {a b c : Int} (h : ¬ (b ≤ a ∧ a ≤ c)) : spec_l1In.f a b c = some false := by
  unfold spec_l1In.f
  by_cases g : a ≥ b
  · rw [if_pos g]; simp; omega
  · rw [if_neg g]
theorem l1New_ev (x0 : List Int) : ∃ h, Ev (fun k => spec_l1New.f k x0) (x0, 0, h) := by
  have key : ∀ (d : Nat) (i h : Int), 4000 - i ≤ d → 0 ≤ i → ∃ h', Ev (fun k => spec_l1New.l0 k x0 h i) (x0, 0, h') := by
    intro d
    induction d with
    | zero =>
      intro i h hd h0
      refine ⟨h, ev_unroll ?_⟩
      by_cases hlt : i < (x0.length : Int)
      · simp (disch := omega) only [spec_l1New.l0, ↓if_pos, ↓if_neg, if_pos, if_neg, ↓reduceIte, w64, in_t, in_f, l1In_t, l1In_f, Option.bind_some, Bool.not_true, Bool.not_false, Bool.false_eq_true, tmod_nonneg, tdiv_nonneg]
        exact Ev.now _
      · simp (disch := omega) only [spec_l1New.l0, ↓if_pos, ↓if_neg, if_pos, if_neg, ↓reduceIte, w64, in_t, in_f, l1In_t, l1In_f, Option.bind_some, Bool.not_true, Bool.not_false, Bool.false_eq_true, tmod_nonneg, tdiv_nonneg]
        exact Ev.now _
    | succ d ih =>
      intro i h hd h0
      by_cases hlt : i < (x0.length : Int)
      · by_cases h4 : i < 4000
        · obtain ⟨h', p⟩ := ih (i + 1) (Go.bits .and .i64 (wrap64 ((wrap64 ((wrap64 (h * 131)) + (wrap64 (rd x0 i)))) + 7)) 1073741823) (by omega) (by omega)
          refine ⟨h', ev_unroll ?_⟩
          simp only [spec_l1New.l0, if_pos hlt, if_pos h4, if_pos h0]
          rw [w64 (x := i + 1) (by omega) (by omega)]
          exact p
        · refine ⟨h, ev_unroll ?_⟩
          simp (disch := omega) only [spec_l1New.l0, ↓if_pos, ↓if_neg, if_pos, if_neg, ↓reduceIte, w64, in_t, in_f, l1In_t, l1In_f, Option.bind_some, Bool.not_true, Bool.not_false, Bool.false_eq_true, tmod_nonneg, tdiv_nonneg]
          exact Ev.now _
      · refine ⟨h, ev_unroll ?_⟩
        simp (disch := omega) only [spec_l1New.l0, ↓if_pos, ↓if_neg, if_pos, if_neg, ↓reduceIte, w64, in_t, in_f, l1In_t, l1In_f, Option.bind_some, Bool.not_true, Bool.not_false, Bool.false_eq_true, tmod_nonneg, tdiv_nonneg]
        exact Ev.now _
  obtain ⟨h', p⟩ := key 4000 0 (wrap64 (71933 + (x0.length : Int))) (by omega) (by omega)
  exact ⟨h', p⟩
theorem l1Byte_some (b : List Int) (i h : Int) (hb : b.length ≤ 1048576) (h0 : 0 ≤ i) (h1 : i ≤ 1048576) :
    ∃ v i' h', spec_l1Byte.f b i h = some (v, i', h') ∧ 0 ≤ v ∧ v ≤ 255 ∧ 0 ≤ i' ∧ i' ≤ 1048576 := by
  unfold spec_l1Byte.f
  by_cases hlt : i < (b.length : Int)
  · rw [if_pos hlt, if_pos h0, w64 (x := i + 1) (by omega) (by omega)]
    refine ⟨_, _, _, rfl, ?_, ?_, by omega, by omega⟩
    · rw [and255]; omega
    · rw [and255]; omega
  · rw [if_neg hlt]
    refine ⟨_, _, _, rfl, ?_, ?_, h0, h1⟩
    · rw [and255]; omega
    · rw [and255]; omega
theorem l1Below_some (b : List Int) (i h n : Int) (hb : b.length ≤ 1048576) (h0 : 0 ≤ i) (h1 : i ≤ 1048576) :
    ∃ v i' h', spec_l1Below.f b i h n = some (v, i', h') ∧ 0 ≤ v ∧ (0 < n → v < n) ∧ (n ≤ 0 → v = 0) ∧ 0 ≤ i' ∧ i' ≤ 1048576 := by
  unfold spec_l1Below.f
  by_cases hn : n ≤ 0
  · rw [if_pos hn]
    exact ⟨0, i, h, rfl, by omega, by omega, fun _ => rfl, h0, h1⟩
  rw [if_neg hn]
  by_cases hm : n ≤ 256
  · rw [if_pos hm]
    obtain ⟨v, i1, s1, e1, p1, p2, p3, p4⟩ := l1Byte_some b i h hb h0 h1
    rw [e1]
    simp only [Option.bind_some]
    rw [if_neg (by omega), tmod_nonneg p1]
    exact ⟨_, _, _, rfl, Int.emod_nonneg _ (by omega), fun _ => Int.emod_lt_of_pos _ (by omega), fun h => absurd h hn, p3, p4⟩
  · rw [if_neg hm]
    obtain ⟨v1, i1, s1, e1, p1, p2, p3, p4⟩ := l1Byte_some b i h hb h0 h1
    obtain ⟨v2, i2, s2, e2, q1, q2, q3, q4⟩ := l1Byte_some b i1 s1 hb p3 p4
    obtain ⟨v3, i3, s3, e3, r1, r2, r3, r4⟩ := l1Byte_some b i2 s2 hb q3 q4
    obtain ⟨v4, i4, s4, e4, t1, t2, t3, t4⟩ := l1Byte_some b i3 s3 hb r3 r4
    rw [e1]
    simp only [Option.bind_some]
    rw [e2]
    simp only [Option.bind_some]
    rw [e3]
    simp only [Option.bind_some]
    rw [e4]
    simp only [Option.bind_some]
    rw [if_neg (by omega)]
    refine ⟨_, _, _, rfl, ?_, ?_, fun h => absurd h hn, t3, t4⟩
    · simp (disch := omega) only [w64]
      rw [tmod_nonneg (by omega)]
      exact Int.emod_nonneg _ (by omega)
    · intro _
      simp (disch := omega) only [w64]
      rw [tmod_nonneg (by omega)]
      exact Int.emod_lt_of_pos _ (by omega)
theorem l1PickInt_some (b : List Int) (i h : Int) (l : List Int) (hl : 0 < l.length) (hb : b.length ≤ 1048576) (h0 : 0 ≤ i) (h1 : i ≤ 1048576) :
    ∃ v i' h', spec_l1PickInt.f b i h l = some (v, i', h') ∧ v ∈ l ∧ 0 ≤ i' ∧ i' ≤ 1048576 := by
  unfold spec_l1PickInt.f
  obtain ⟨v, i1, s1, e1, p1, p2, p3, p4, p5⟩ := l1Below_some b i h (l.length : Int) hb h0 h1
  rw [e1]
  simp only [Option.bind_some]
  rw [if_pos p1, if_pos (p2 (by omega))]
  exact ⟨_, _, _, rfl, rd_mem p1 (p2 (by omega)), p4, p5⟩
theorem sameInts_ev (x0 : List Int) (x1 : List Int) (hn : x0.length ≤ 1048576) : Ev (fun k => laws_sameInts.f k x0 x1) (decide (x0 = x1)) := by
  by_cases hl : x0.length = x1.length
  · have key : ∀ (d : Nat) (i : Nat), x0.length - i = d → i ≤ x0.length → Ev (fun k => laws_sameInts.l0 k x0 x1 (i : Int)) (decide (x0.drop i = x1.drop i)) := by
      intro d
      induction d with
      | zero =>
        intro i hd hi
        rw [List.drop_eq_nil_of_le (show x0.length ≤ i by omega), List.drop_eq_nil_of_le (show x1.length ≤ i by omega)]
        refine ev_unroll ?_
        simp (disch := omega) only [laws_sameInts.l0, ↓if_neg, decide_true]
        exact Ev.now _
      | succ d ih =>
        intro i hd hi
        have h := ih (i + 1) (by omega) (by omega)
        rw [drop_rd (show i < x0.length by omega), drop_rd (show i < x1.length by omega)]
        by_cases he : rd x0 (i : Int) = rd x1 (i : Int)
        · refine ev_unroll ?_
          simp (disch := omega) only [laws_sameInts.l0, ↓if_pos, w64]
          simpa [he] using h
        · refine ev_unroll ?_
          simp (disch := omega) only [laws_sameInts.l0, ↓if_pos, ↓if_neg]
          rw [decide_eq_false (by intro h2; injection h2 with h3 h4; exact he h3)]
          exact Ev.now _
    have h := key _ 0 rfl (by omega)
    simp (disch := omega) only [laws_sameInts.f, ↓if_pos]
    simpa using h
  · have he : x0 ≠ x1 := fun h => hl (by rw [h])
    simp (disch := omega) only [laws_sameInts.f, ↓if_neg]
    rw [decide_eq_false he]
    exact Ev.now _
theorem rdL_mem {xs : List (List Int)} {i : Int} (h0 : 0 ≤ i) (h1 : i < (xs.length : Int)) : rd_L1 xs i ∈ xs := by
  have h : i.toNat < xs.length := by omega
  have e : rd_L1 xs i = xs[i.toNat] := by simp [rd_L1, h]
  rw [e]; exact List.getElem_mem h
theorem rdL_nil {xs : List (List Int)} {i : Int} (h1 : (xs.length : Int) ≤ i) : rd_L1 xs i = [] := by
  simp only [rd_L1, List.getD_eq_getElem?_getD]
  rw [List.getElem?_eq_none (by omega)]
  rfl
theorem rdL_le {xs : List (List Int)} {n : Nat} (h : ∀ x ∈ xs, x.length ≤ n) (i : Int) (h0 : 0 ≤ i) : (rd_L1 xs i).length ≤ n := by
  by_cases h1 : i < (xs.length : Int)
  · exact h _ (rdL_mem h0 h1)
  · rw [rdL_nil (by omega)]; exact Nat.zero_le _
theorem rd_snoc_lt {xs : List Int} {x i : Int} (h0 : 0 ≤ i) (h1 : i < (xs.length : Int)) : rd (xs ++ [x]) i = rd xs i := rd_map h1 h0
theorem rd_snoc_eq {xs : List Int} {x i : Int} (h1 : i = (xs.length : Int)) : rd (xs ++ [x]) i = x := by
  subst h1
  simp [rd]

/-- A row of measures is as it may be. -/
def RowOk (m : List (List Int)) (x : List Int) : Prop := ((x.length : Int) = ((rd_L1 m 0).length : Int) ∧ 1 ≤ (x.length : Int) ∧ (x.length : Int) ≤ 12) ∧ ∀ j : Int, 0 ≤ j → j < (x.length : Int) → -120 ≤ rd x j ∧ rd x j ≤ 0
def RowsOk (m : List (List Int)) : Prop := ∀ t : Int, 0 ≤ t → t < (m.length : Int) → RowOk m (rd_L1 m t)

section
variable (m : List (List Int)) (hn : m.length ≤ 1048576) (hr : ∀ x ∈ m, x.length ≤ 1048576)
include hn hr
theorem meas_row (t : Int) (t0 : 0 ≤ t) (t1 : t < (m.length : Int)) (b : Bool) (hb : Ev (fun k => spec_l16Measures.l0 k m (t + 1)) b) : ∀ (d : Nat) (j : Int), ((rd_L1 m t).length : Int) - j ≤ d → 0 ≤ j →
    ((∀ i : Int, j ≤ i → i < ((rd_L1 m t).length : Int) → -120 ≤ rd (rd_L1 m t) i ∧ rd (rd_L1 m t) i ≤ 0) → Ev (fun k => spec_l16Measures.l1 k m t j) b) ∧
    ((∃ i : Int, j ≤ i ∧ i < ((rd_L1 m t).length : Int) ∧ ¬ (-120 ≤ rd (rd_L1 m t) i ∧ rd (rd_L1 m t) i ≤ 0)) → Ev (fun k => spec_l16Measures.l1 k m t j) false) := by
  have hlen := rdL_le hr t t0
  intro d
  induction d with
  | zero =>
    intro j hd h0
    refine ⟨fun _ => ev_unroll ?_, fun ⟨i, i0, i1, _⟩ => by omega⟩
    simp (disch := omega) only [spec_l16Measures.l1, ↓if_pos, ↓if_neg, if_pos, if_neg, ↓reduceIte, w64, in_t, in_f, l1In_t, l1In_f, Option.bind_some, Bool.not_true, Bool.not_false, Bool.false_eq_true, tmod_nonneg, tdiv_nonneg]
    exact hb
  | succ d ih =>
    intro j hd h0
    by_cases hj : j < ((rd_L1 m t).length : Int)
    · obtain ⟨ih1, ih2⟩ := ih (j + 1) (by omega) (by omega)
      by_cases hv : -120 ≤ rd (rd_L1 m t) j ∧ rd (rd_L1 m t) j ≤ 0
      · refine ⟨fun h => ev_unroll ?_, fun ⟨i, i0, i1, i2⟩ => ev_unroll ?_⟩
        · simp (disch := omega) only [spec_l16Measures.l1, ↓if_pos, ↓if_neg, if_pos, if_neg, ↓reduceIte, w64, in_t, in_f, l1In_t, l1In_f, Option.bind_some, Bool.not_true, Bool.not_false, Bool.false_eq_true, tmod_nonneg, tdiv_nonneg]
          exact ih1 fun i i0 i1 => h i (by omega) i1
        · simp (disch := omega) only [spec_l16Measures.l1, ↓if_pos, ↓if_neg, if_pos, if_neg, ↓reduceIte, w64, in_t, in_f, l1In_t, l1In_f, Option.bind_some, Bool.not_true, Bool.not_false, Bool.false_eq_true, tmod_nonneg, tdiv_nonneg]
          refine ih2 ⟨i, ?_, i1, i2⟩
          have : i ≠ j := fun e => i2 (e ▸ hv)
          omega
      · refine ⟨fun h => absurd (h j (by omega) hj) hv, fun _ => ev_unroll ?_⟩
        simp (disch := omega) only [spec_l16Measures.l1, ↓if_pos, ↓if_neg, if_pos, if_neg, ↓reduceIte, w64, in_t, in_f, l1In_t, l1In_f, Option.bind_some, Bool.not_true, Bool.not_false, Bool.false_eq_true, tmod_nonneg, tdiv_nonneg]
        exact Ev.now _
    · refine ⟨fun _ => ev_unroll ?_, fun ⟨i, i0, i1, _⟩ => by omega⟩
      simp (disch := omega) only [spec_l16Measures.l1, ↓if_pos, ↓if_neg, if_pos, if_neg, ↓reduceIte, w64, in_t, in_f, l1In_t, l1In_f, Option.bind_some, Bool.not_true, Bool.not_false, Bool.false_eq_true, tmod_nonneg, tdiv_nonneg]
      exact hb
theorem meas_ev : ∃ b : Bool, (b = true ↔ RowsOk m ∧ (m.length : Int) ≤ 200) ∧ Ev (fun k => spec_l16Measures.f k m) b := by
  have key : ∀ (d : Nat) (t : Int), (m.length : Int) - t ≤ d → 0 ≤ t → t ≤ (m.length : Int) → (∀ j : Int, 0 ≤ j → j < t → RowOk m (rd_L1 m j)) → ∃ b : Bool, (b = true ↔ RowsOk m ∧ (m.length : Int) ≤ 200) ∧ Ev (fun k => spec_l16Measures.l0 k m t) b := by
    have last : ∀ t : Int, t = (m.length : Int) → (∀ j : Int, 0 ≤ j → j < t → RowOk m (rd_L1 m j)) → ∃ b : Bool, (b = true ↔ RowsOk m ∧ (m.length : Int) ≤ 200) ∧ Ev (fun k => spec_l16Measures.l0 k m t) b := by
      intro t ht hv
      refine ⟨decide ((m.length : Int) ≤ 200), ?_, ev_unroll ?_⟩
      · simp only [decide_eq_true_eq]
        exact ⟨fun h => ⟨fun j j0 j1 => hv j j0 (by omega), h⟩, fun h => h.2⟩
      · simp (disch := omega) only [spec_l16Measures.l0, ↓if_pos, ↓if_neg, if_pos, if_neg, ↓reduceIte, w64, in_t, in_f, l1In_t, l1In_f, Option.bind_some, Bool.not_true, Bool.not_false, Bool.false_eq_true, tmod_nonneg, tdiv_nonneg]
        exact Ev.now _
    intro d
    induction d with
    | zero => exact fun t hd h0 h1 hv => last t (by omega) hv
    | succ d ih =>
      intro t hd h0 h1 hv
      by_cases ht : t < (m.length : Int)
      · by_cases hw : ((rd_L1 m t).length : Int) = ((rd_L1 m 0).length : Int) ∧ 1 ≤ ((rd_L1 m t).length : Int) ∧ ((rd_L1 m t).length : Int) ≤ 12
        · by_cases he : ∀ i : Int, 0 ≤ i → i < ((rd_L1 m t).length : Int) → -120 ≤ rd (rd_L1 m t) i ∧ rd (rd_L1 m t) i ≤ 0
          · obtain ⟨b, o, p⟩ := ih (t + 1) (by omega) (by omega) (by omega) (fun j j0 j1 => by
              by_cases e : j = t
              · rw [e]; exact ⟨hw, he⟩
              · exact hv j j0 (by omega))
            refine ⟨b, o, ev_unroll ?_⟩
            simp (disch := omega) only [spec_l16Measures.l0, ↓if_pos, ↓if_neg, if_pos, if_neg, ↓reduceIte, w64, in_t, in_f, l1In_t, l1In_f, Option.bind_some, Bool.not_true, Bool.not_false, Bool.false_eq_true, tmod_nonneg, tdiv_nonneg]
            refine ev_unroll ?_
            simp (disch := omega) only [spec_l16Measures.j1, ↓if_pos, ↓if_neg, if_pos, if_neg, ↓reduceIte, w64, in_t, in_f, l1In_t, l1In_f, Option.bind_some, Bool.not_true, Bool.not_false, Bool.false_eq_true, tmod_nonneg, tdiv_nonneg]
            exact (meas_row m hn hr t h0 ht b p _ 0 (Int.le_refl _) (by omega)).1 he
          · have hx : ∃ i : Int, 0 ≤ i ∧ i < ((rd_L1 m t).length : Int) ∧ ¬ (-120 ≤ rd (rd_L1 m t) i ∧ rd (rd_L1 m t) i ≤ 0) :=
              Classical.byContradiction fun hno => he fun i i0 i1 => Classical.byContradiction fun h => hno ⟨i, i0, i1, h⟩
            refine ⟨false, ⟨fun h => by simp at h, fun h => absurd (h.1 t h0 ht).2 he⟩, ev_unroll ?_⟩
            simp (disch := omega) only [spec_l16Measures.l0, ↓if_pos, ↓if_neg, if_pos, if_neg, ↓reduceIte, w64, in_t, in_f, l1In_t, l1In_f, Option.bind_some, Bool.not_true, Bool.not_false, Bool.false_eq_true, tmod_nonneg, tdiv_nonneg]
            refine ev_unroll ?_
            simp (disch := omega) only [spec_l16Measures.j1, ↓if_pos, ↓if_neg, if_pos, if_neg, ↓reduceIte, w64, in_t, in_f, l1In_t, l1In_f, Option.bind_some, Bool.not_true, Bool.not_false, Bool.false_eq_true, tmod_nonneg, tdiv_nonneg]
            have p : ∃ b, Ev (fun k => spec_l16Measures.l0 k m (t + 1)) b := by
              clear ih hv he hx
              have q : ∀ (d : Nat) (t : Int), (m.length : Int) - t ≤ d → 0 ≤ t → ∃ b, Ev (fun k => spec_l16Measures.l0 k m t) b := by
                intro d
                induction d with
                | zero =>
                  intro t hd h0
                  refine ⟨decide ((m.length : Int) ≤ 200), ev_unroll ?_⟩
                  simp (disch := omega) only [spec_l16Measures.l0, ↓if_pos, ↓if_neg, if_pos, if_neg, ↓reduceIte, w64, in_t, in_f, l1In_t, l1In_f, Option.bind_some, Bool.not_true, Bool.not_false, Bool.false_eq_true, tmod_nonneg, tdiv_nonneg]
                  exact Ev.now _
                | succ d ih =>
                  intro t hd h0
                  by_cases ht : t < (m.length : Int)
                  · obtain ⟨b, p⟩ := ih (t + 1) (by omega) (by omega)
                    by_cases hw : ((rd_L1 m t).length : Int) = ((rd_L1 m 0).length : Int) ∧ 1 ≤ ((rd_L1 m t).length : Int) ∧ ((rd_L1 m t).length : Int) ≤ 12
                    · by_cases he : ∀ i : Int, 0 ≤ i → i < ((rd_L1 m t).length : Int) → -120 ≤ rd (rd_L1 m t) i ∧ rd (rd_L1 m t) i ≤ 0
                      · refine ⟨b, ev_unroll ?_⟩
                        simp (disch := omega) only [spec_l16Measures.l0, ↓if_pos, ↓if_neg, if_pos, if_neg, ↓reduceIte, w64, in_t, in_f, l1In_t, l1In_f, Option.bind_some, Bool.not_true, Bool.not_false, Bool.false_eq_true, tmod_nonneg, tdiv_nonneg]
                        refine ev_unroll ?_
                        simp (disch := omega) only [spec_l16Measures.j1, ↓if_pos, ↓if_neg, if_pos, if_neg, ↓reduceIte, w64, in_t, in_f, l1In_t, l1In_f, Option.bind_some, Bool.not_true, Bool.not_false, Bool.false_eq_true, tmod_nonneg, tdiv_nonneg]
                        exact (meas_row m hn hr t h0 ht b p _ 0 (Int.le_refl _) (by omega)).1 he
                      · have hx : ∃ i : Int, 0 ≤ i ∧ i < ((rd_L1 m t).length : Int) ∧ ¬ (-120 ≤ rd (rd_L1 m t) i ∧ rd (rd_L1 m t) i ≤ 0) :=
                          Classical.byContradiction fun hno => he fun i i0 i1 => Classical.byContradiction fun h => hno ⟨i, i0, i1, h⟩
                        refine ⟨false, ev_unroll ?_⟩
                        simp (disch := omega) only [spec_l16Measures.l0, ↓if_pos, ↓if_neg, if_pos, if_neg, ↓reduceIte, w64, in_t, in_f, l1In_t, l1In_f, Option.bind_some, Bool.not_true, Bool.not_false, Bool.false_eq_true, tmod_nonneg, tdiv_nonneg]
                        refine ev_unroll ?_
                        simp (disch := omega) only [spec_l16Measures.j1, ↓if_pos, ↓if_neg, if_pos, if_neg, ↓reduceIte, w64, in_t, in_f, l1In_t, l1In_f, Option.bind_some, Bool.not_true, Bool.not_false, Bool.false_eq_true, tmod_nonneg, tdiv_nonneg]
                        exact (meas_row m hn hr t h0 ht b p _ 0 (Int.le_refl _) (by omega)).2 hx
                    · refine ⟨false, ev_unroll ?_⟩
                      by_cases hw1 : ((rd_L1 m t).length : Int) = ((rd_L1 m 0).length : Int)
                      · have hw2 : ¬ (1 ≤ ((rd_L1 m t).length : Int) ∧ ((rd_L1 m t).length : Int) ≤ 12) := fun h => hw ⟨hw1, h⟩
                        simp (disch := omega) only [spec_l16Measures.l0, ↓if_pos, ↓if_neg, if_pos, if_neg, ↓reduceIte, w64, in_t, in_f, l1In_t, l1In_f, Option.bind_some, Bool.not_true, Bool.not_false, Bool.false_eq_true, tmod_nonneg, tdiv_nonneg]
                        refine ev_unroll ?_
                        simp (disch := omega) only [spec_l16Measures.j1, ↓if_pos, ↓if_neg, if_pos, if_neg, ↓reduceIte, w64, in_t, in_f, l1In_t, l1In_f, Option.bind_some, Bool.not_true, Bool.not_false, Bool.false_eq_true, tmod_nonneg, tdiv_nonneg]
                        exact Ev.now _
                      · simp (disch := omega) only [spec_l16Measures.l0, ↓if_pos, ↓if_neg, if_pos, if_neg, ↓reduceIte, w64, in_t, in_f, l1In_t, l1In_f, Option.bind_some, Bool.not_true, Bool.not_false, Bool.false_eq_true, tmod_nonneg, tdiv_nonneg]
                        refine ev_unroll ?_
                        simp (disch := omega) only [spec_l16Measures.j1, ↓if_pos, ↓if_neg, if_pos, if_neg, ↓reduceIte, w64, in_t, in_f, l1In_t, l1In_f, Option.bind_some, Bool.not_true, Bool.not_false, Bool.false_eq_true, tmod_nonneg, tdiv_nonneg]
                        exact Ev.now _
                  · refine ⟨decide ((m.length : Int) ≤ 200), ev_unroll ?_⟩
                    simp (disch := omega) only [spec_l16Measures.l0, ↓if_pos, ↓if_neg, if_pos, if_neg, ↓reduceIte, w64, in_t, in_f, l1In_t, l1In_f, Option.bind_some, Bool.not_true, Bool.not_false, Bool.false_eq_true, tmod_nonneg, tdiv_nonneg]
                    exact Ev.now _
              exact q m.length (t + 1) (by omega) (by omega)
            obtain ⟨b, p⟩ := p
            exact (meas_row m hn hr t h0 ht b p _ 0 (Int.le_refl _) (by omega)).2 hx
        · refine ⟨false, ⟨fun h => by simp at h, fun h => absurd (h.1 t h0 ht).1 hw⟩, ev_unroll ?_⟩
          by_cases hw1 : ((rd_L1 m t).length : Int) = ((rd_L1 m 0).length : Int)
          · have hw2 : ¬ (1 ≤ ((rd_L1 m t).length : Int) ∧ ((rd_L1 m t).length : Int) ≤ 12) := fun h => hw ⟨hw1, h⟩
            simp (disch := omega) only [spec_l16Measures.l0, ↓if_pos, ↓if_neg, if_pos, if_neg, ↓reduceIte, w64, in_t, in_f, l1In_t, l1In_f, Option.bind_some, Bool.not_true, Bool.not_false, Bool.false_eq_true, tmod_nonneg, tdiv_nonneg]
            refine ev_unroll ?_
            simp (disch := omega) only [spec_l16Measures.j1, ↓if_pos, ↓if_neg, if_pos, if_neg, ↓reduceIte, w64, in_t, in_f, l1In_t, l1In_f, Option.bind_some, Bool.not_true, Bool.not_false, Bool.false_eq_true, tmod_nonneg, tdiv_nonneg]
            exact Ev.now _
          · simp (disch := omega) only [spec_l16Measures.l0, ↓if_pos, ↓if_neg, if_pos, if_neg, ↓reduceIte, w64, in_t, in_f, l1In_t, l1In_f, Option.bind_some, Bool.not_true, Bool.not_false, Bool.false_eq_true, tmod_nonneg, tdiv_nonneg]
            refine ev_unroll ?_
            simp (disch := omega) only [spec_l16Measures.j1, ↓if_pos, ↓if_neg, if_pos, if_neg, ↓reduceIte, w64, in_t, in_f, l1In_t, l1In_f, Option.bind_some, Bool.not_true, Bool.not_false, Bool.false_eq_true, tmod_nonneg, tdiv_nonneg]
            exact Ev.now _
      · exact last t (by omega) hv
  obtain ⟨b, o, p⟩ := key m.length 0 (by omega) (by omega) (by omega) (fun j j0 j1 => by omega)
  exact ⟨b, o, p⟩
end
section
variable (m : List (List Int)) (hn : m.length ≤ 1048576) (hr : ∀ x ∈ m, x.length ≤ 1048576) (a dw : Int)
include hn hr
theorem impl_row (t : Int) (t0 : 0 ≤ t) (t1 : t < (m.length : Int)) : ∀ (d : Nat) (j : Int), ((rd_L1 m t).length : Int) - j ≤ d → 0 ≤ j →
    ((∀ i : Int, j ≤ i → i < ((rd_L1 m t).length : Int) → -120 ≤ rd (rd_L1 m t) i ∧ rd (rd_L1 m t) i ≤ 0) → ∀ r, Ev (fun k => impl_Serving.l0 k m a dw m (m.length : Int) (t + 1)) r → Ev (fun k => impl_Serving.l1 k m a dw m (m.length : Int) t (rd_L1 m t) ((rd_L1 m t).length : Int) j) r) ∧
    ((∃ i : Int, j ≤ i ∧ i < ((rd_L1 m t).length : Int) ∧ ¬ (-120 ≤ rd (rd_L1 m t) i ∧ rd (rd_L1 m t) i ≤ 0)) → Ev (fun k => impl_Serving.l1 k m a dw m (m.length : Int) t (rd_L1 m t) ((rd_L1 m t).length : Int) j) ([], false)) := by
  have hlen := rdL_le hr t t0
  intro d
  induction d with
  | zero =>
    intro j hd h0
    refine ⟨fun _ r hb => ev_unroll ?_, fun ⟨i, i0, i1, _⟩ => by omega⟩
    simp (disch := omega) only [impl_Serving.l1, ↓if_pos, ↓if_neg, if_pos, if_neg, ↓reduceIte, w64, in_t, in_f, l1In_t, l1In_f, Option.bind_some, Bool.not_true, Bool.not_false, Bool.false_eq_true, tmod_nonneg, tdiv_nonneg]
    exact hb
  | succ d ih =>
    intro j hd h0
    by_cases hj : j < ((rd_L1 m t).length : Int)
    · obtain ⟨ih1, ih2⟩ := ih (j + 1) (by omega) (by omega)
      by_cases hv : -120 ≤ rd (rd_L1 m t) j ∧ rd (rd_L1 m t) j ≤ 0
      · refine ⟨fun h r hb => ev_unroll ?_, fun ⟨i, i0, i1, i2⟩ => ev_unroll ?_⟩
        · simp (disch := omega) only [impl_Serving.l1, ↓if_pos, ↓if_neg, if_pos, if_neg, ↓reduceIte, w64, in_t, in_f, l1In_t, l1In_f, Option.bind_some, Bool.not_true, Bool.not_false, Bool.false_eq_true, tmod_nonneg, tdiv_nonneg]
          exact ih1 (fun i i0 i1 => h i (by omega) i1) r hb
        · simp (disch := omega) only [impl_Serving.l1, ↓if_pos, ↓if_neg, if_pos, if_neg, ↓reduceIte, w64, in_t, in_f, l1In_t, l1In_f, Option.bind_some, Bool.not_true, Bool.not_false, Bool.false_eq_true, tmod_nonneg, tdiv_nonneg]
          refine ih2 ⟨i, ?_, i1, i2⟩
          have : i ≠ j := fun e => i2 (e ▸ hv)
          omega
      · refine ⟨fun h => absurd (h j (by omega) hj) hv, fun _ => ev_unroll ?_⟩
        simp (disch := omega) only [impl_Serving.l1, ↓if_pos, ↓if_neg, if_pos, if_neg, ↓reduceIte, w64, in_t, in_f, l1In_t, l1In_f, Option.bind_some, Bool.not_true, Bool.not_false, Bool.false_eq_true, tmod_nonneg, tdiv_nonneg]
        exact Ev.now _
    · refine ⟨fun _ r hb => ev_unroll ?_, fun ⟨i, i0, i1, _⟩ => by omega⟩
      simp (disch := omega) only [impl_Serving.l1, ↓if_pos, ↓if_neg, if_pos, if_neg, ↓reduceIte, w64, in_t, in_f, l1In_t, l1In_f, Option.bind_some, Bool.not_true, Bool.not_false, Bool.false_eq_true, tmod_nonneg, tdiv_nonneg]
      exact hb
theorem impl_rows : ∀ (d : Nat) (t : Int), (m.length : Int) - t ≤ d → 0 ≤ t →
    ((∀ j : Int, t ≤ j → j < (m.length : Int) → RowOk m (rd_L1 m j)) → ∀ r, Ev (fun k => impl_Serving.l2 k m a dw [] 0 0 m (m.length : Int) 0) r → Ev (fun k => impl_Serving.l0 k m a dw m (m.length : Int) t) r) ∧
    ((∃ j : Int, t ≤ j ∧ j < (m.length : Int) ∧ ¬ RowOk m (rd_L1 m j)) → Ev (fun k => impl_Serving.l0 k m a dw m (m.length : Int) t) ([], false)) := by
  intro d
  induction d with
  | zero =>
    intro t hd h0
    refine ⟨fun _ r hb => ev_unroll ?_, fun ⟨i, i0, i1, _⟩ => by omega⟩
    simp (disch := omega) only [impl_Serving.l0, ↓if_pos, ↓if_neg, if_pos, if_neg, ↓reduceIte, w64, in_t, in_f, l1In_t, l1In_f, Option.bind_some, Bool.not_true, Bool.not_false, Bool.false_eq_true, tmod_nonneg, tdiv_nonneg]
    exact hb
  | succ d ih =>
    intro t hd h0
    by_cases ht : t < (m.length : Int)
    · obtain ⟨ih1, ih2⟩ := ih (t + 1) (by omega) (by omega)
      by_cases hw : ((rd_L1 m t).length : Int) = ((rd_L1 m 0).length : Int) ∧ 1 ≤ ((rd_L1 m t).length : Int) ∧ ((rd_L1 m t).length : Int) ≤ 12
      · have hne : (((rd_L1 m t).length : Int) != ((rd_L1 m 0).length : Int)) = false := by simp [hw.1]
        by_cases he : ∀ i : Int, 0 ≤ i → i < ((rd_L1 m t).length : Int) → -120 ≤ rd (rd_L1 m t) i ∧ rd (rd_L1 m t) i ≤ 0
        · have row := (impl_row m hn hr a dw t h0 ht _ 0 (Int.le_refl _) (by omega)).1 he
          refine ⟨fun h r hb => ev_unroll ?_, fun ⟨i, i0, i1, i2⟩ => ev_unroll ?_⟩
          · simp (disch := omega) only [impl_Serving.l0, ↓if_pos, ↓if_neg, if_pos, if_neg, ↓reduceIte, w64, in_t, in_f, l1In_t, l1In_f, Option.bind_some, Bool.not_true, Bool.not_false, Bool.false_eq_true, tmod_nonneg, tdiv_nonneg]
            refine ev_unroll ?_
            simp (disch := omega) only [impl_Serving.j2, hne, ↓if_pos, ↓if_neg, if_pos, if_neg, ↓reduceIte, w64, in_t, in_f, l1In_t, l1In_f, Option.bind_some, Bool.not_true, Bool.not_false, Bool.false_eq_true, tmod_nonneg, tdiv_nonneg]
            exact row r (ih1 (fun j j0 j1 => h j (by omega) j1) r hb)
          · simp (disch := omega) only [impl_Serving.l0, ↓if_pos, ↓if_neg, if_pos, if_neg, ↓reduceIte, w64, in_t, in_f, l1In_t, l1In_f, Option.bind_some, Bool.not_true, Bool.not_false, Bool.false_eq_true, tmod_nonneg, tdiv_nonneg]
            refine ev_unroll ?_
            simp (disch := omega) only [impl_Serving.j2, hne, ↓if_pos, ↓if_neg, if_pos, if_neg, ↓reduceIte, w64, in_t, in_f, l1In_t, l1In_f, Option.bind_some, Bool.not_true, Bool.not_false, Bool.false_eq_true, tmod_nonneg, tdiv_nonneg]
            refine row _ (ih2 ⟨i, ?_, i1, i2⟩)
            have : i ≠ t := fun e => i2 (e ▸ ⟨hw, he⟩)
            omega
        · have hx : ∃ i : Int, 0 ≤ i ∧ i < ((rd_L1 m t).length : Int) ∧ ¬ (-120 ≤ rd (rd_L1 m t) i ∧ rd (rd_L1 m t) i ≤ 0) :=
            Classical.byContradiction fun hno => he fun i i0 i1 => Classical.byContradiction fun h => hno ⟨i, i0, i1, h⟩
          have row := (impl_row m hn hr a dw t h0 ht _ 0 (Int.le_refl _) (by omega)).2 hx
          refine ⟨fun h => absurd (h t (by omega) ht).2 he, fun _ => ev_unroll ?_⟩
          simp (disch := omega) only [impl_Serving.l0, ↓if_pos, ↓if_neg, if_pos, if_neg, ↓reduceIte, w64, in_t, in_f, l1In_t, l1In_f, Option.bind_some, Bool.not_true, Bool.not_false, Bool.false_eq_true, tmod_nonneg, tdiv_nonneg]
          refine ev_unroll ?_
          simp (disch := omega) only [impl_Serving.j2, hne, ↓if_pos, ↓if_neg, if_pos, if_neg, ↓reduceIte, w64, in_t, in_f, l1In_t, l1In_f, Option.bind_some, Bool.not_true, Bool.not_false, Bool.false_eq_true, tmod_nonneg, tdiv_nonneg]
          exact row
      · refine ⟨fun h => absurd (h t (by omega) ht).1 hw, fun _ => ev_unroll ?_⟩
        by_cases hw2 : 1 ≤ ((rd_L1 m t).length : Int) ∧ ((rd_L1 m t).length : Int) ≤ 12
        · have hne : (((rd_L1 m t).length : Int) != ((rd_L1 m 0).length : Int)) = true := by
            simp only [bne_iff_ne, ne_eq]
            exact fun h => hw ⟨h, hw2⟩
          simp (disch := omega) only [impl_Serving.l0, ↓if_pos, ↓if_neg, if_pos, if_neg, ↓reduceIte, w64, in_t, in_f, l1In_t, l1In_f, Option.bind_some, Bool.not_true, Bool.not_false, Bool.false_eq_true, tmod_nonneg, tdiv_nonneg]
          refine ev_unroll ?_
          simp (disch := omega) only [impl_Serving.j2, hne, ↓if_pos, ↓if_neg, if_pos, if_neg, ↓reduceIte, w64, in_t, in_f, l1In_t, l1In_f, Option.bind_some, Bool.not_true, Bool.not_false, Bool.false_eq_true, tmod_nonneg, tdiv_nonneg]
          exact Ev.now _
        · simp (disch := omega) only [impl_Serving.l0, ↓if_pos, ↓if_neg, if_pos, if_neg, ↓reduceIte, w64, in_t, in_f, l1In_t, l1In_f, Option.bind_some, Bool.not_true, Bool.not_false, Bool.false_eq_true, tmod_nonneg, tdiv_nonneg]
          refine ev_unroll ?_
          simp (disch := omega) only [impl_Serving.j2, ↓if_pos, ↓if_neg, if_pos, if_neg, ↓reduceIte, w64, in_t, in_f, l1In_t, l1In_f, Option.bind_some, Bool.not_true, Bool.not_false, Bool.false_eq_true, tmod_nonneg, tdiv_nonneg]
          exact Ev.now _
    · refine ⟨fun _ r hb => ev_unroll ?_, fun ⟨i, i0, i1, _⟩ => by omega⟩
      simp (disch := omega) only [impl_Serving.l0, ↓if_pos, ↓if_neg, if_pos, if_neg, ↓reduceIte, w64, in_t, in_f, l1In_t, l1In_f, Option.bind_some, Bool.not_true, Bool.not_false, Bool.false_eq_true, tmod_nonneg, tdiv_nonneg]
      exact hb
end
/-- At tick u cell c was stronger than the serving one, and by the margin. -/
def Pc (m : List (List Int)) (a now c u : Int) : Prop := rd (rd_L1 m u) now < rd (rd_L1 m u) c ∧ rd (rd_L1 m u) now + a ≤ rd (rd_L1 m u) c
/-- What has been told for the first t ticks is as it may be. -/
structure Good (m : List (List Int)) (a dw W t : Int) (out : List Int) (now since : Int) : Prop where
  len : (out.length : Int) = t
  rng : ∀ j : Int, 0 ≤ j → j < t → 0 ≤ rd out j ∧ rd out j < W
  chg : ∀ j : Int, 0 < j → j < t → rd out j ≠ rd out (j - 1) → Pc m a (rd out (j - 1)) (rd out j) j
  gap : ∀ i j : Int, 0 < i → i < j → j < t → rd out i ≠ rd out (i - 1) → rd out j ≠ rd out (j - 1) → j - i ≥ dw
  snc : ∀ i : Int, 0 < i → i < t → rd out i ≠ rd out (i - 1) → i ≤ since
  last : 0 < t → rd out (t - 1) = now
  nowr : 0 ≤ now ∧ now < W
  sin : 0 ≤ since ∧ (0 < t → since < t)
theorem good_first (m : List (List Int)) (a dw W b : Int) (h0 : 0 ≤ b) (h1 : b < W) : Good m a dw W 1 [b] b 0 where
  len := by simp
  rng := fun j j0 j1 => by
    have e : j = 0 := by omega
    subst e; exact ⟨h0, h1⟩
  chg := fun j j0 j1 => by omega
  gap := fun i j i0 i1 j1 => by omega
  snc := fun i i0 i1 => by omega
  last := fun _ => rfl
  nowr := ⟨h0, h1⟩
  sin := ⟨by omega, fun _ => by omega⟩
theorem good_same {m : List (List Int)} {a dw W t : Int} {out : List Int} {now since : Int} (h : Good m a dw W t out now since) (ht : 0 < t) : Good m a dw W (t + 1) (out ++ [now]) now since := by
  have hl := h.len
  have old : ∀ j : Int, 0 ≤ j → j < t → rd (out ++ [now]) j = rd out j := fun j j0 j1 => rd_snoc_lt j0 (by omega)
  have new : rd (out ++ [now]) t = now := rd_snoc_eq (by omega)
  have nch : ∀ j : Int, 0 < j → j < t + 1 → rd (out ++ [now]) j ≠ rd (out ++ [now]) (j - 1) → j < t ∧ rd out j ≠ rd out (j - 1) := by
    intro j j0 j1 hne
    by_cases e : j = t
    · exfalso
      apply hne
      subst e
      rw [new, old _ (by omega) (by omega), h.last ht]
    · rw [old j (by omega) (by omega), old (j - 1) (by omega) (by omega)] at hne
      exact ⟨by omega, hne⟩
  refine ⟨by simp; omega, fun j j0 j1 => ?_, fun j j0 j1 hne => ?_, fun i j i0 i1 j1 hi hj => ?_, fun i i0 i1 hi => ?_, fun _ => ?_, h.nowr, ⟨h.sin.1, fun _ => ?_⟩⟩
  · by_cases e : j = t
    · rw [e, new]; exact h.nowr
    · rw [old j j0 (by omega)]; exact h.rng j j0 (by omega)
  · obtain ⟨q1, q2⟩ := nch j j0 j1 hne
    rw [old j (by omega) q1, old (j - 1) (by omega) (by omega)]
    exact h.chg j j0 q1 q2
  · obtain ⟨q1, q2⟩ := nch j (by omega) j1 hj
    obtain ⟨q3, q4⟩ := nch i i0 (by omega) hi
    exact h.gap i j i0 i1 q1 q4 q2
  · obtain ⟨q3, q4⟩ := nch i i0 (by omega) hi
    exact h.snc i i0 q3 q4
  · rw [show t + 1 - 1 = t from by omega]; exact new
  · have := h.sin.2 ht; omega
theorem good_new {m : List (List Int)} {a dw W t b : Int} {out : List Int} {now since : Int} (h : Good m a dw W t out now since) (ht : 0 < t) (h0 : 0 ≤ b) (h1 : b < W) (hp : Pc m a now b t) (hs : t - dw + 1 > since) : Good m a dw W (t + 1) (out ++ [b]) b t := by
  have hl := h.len
  have old : ∀ j : Int, 0 ≤ j → j < t → rd (out ++ [b]) j = rd out j := fun j j0 j1 => rd_snoc_lt j0 (by omega)
  have new : rd (out ++ [b]) t = b := rd_snoc_eq (by omega)
  have och : ∀ j : Int, 0 < j → j < t → rd (out ++ [b]) j ≠ rd (out ++ [b]) (j - 1) → rd out j ≠ rd out (j - 1) := by
    intro j j0 j1 hne
    rw [old j (by omega) (by omega), old (j - 1) (by omega) (by omega)] at hne
    exact hne
  refine ⟨by simp; omega, fun j j0 j1 => ?_, fun j j0 j1 hne => ?_, fun i j i0 i1 j1 hi hj => ?_, fun i i0 i1 hi => by omega, fun _ => ?_, ⟨h0, h1⟩, ⟨by omega, fun _ => by omega⟩⟩
  · by_cases e : j = t
    · rw [e, new]; exact ⟨h0, h1⟩
    · rw [old j j0 (by omega)]; exact h.rng j j0 (by omega)
  · by_cases e : j = t
    · subst e
      rw [new, old _ (by omega) (by omega), h.last ht]
      exact hp
    · have q := och j j0 (by omega) hne
      rw [old j (by omega) (by omega), old (j - 1) (by omega) (by omega)]
      exact h.chg j j0 (by omega) q
  · have q := och i i0 (by omega) hi
    by_cases e : j = t
    · have := h.snc i i0 (by omega) q
      omega
    · exact h.gap i j i0 i1 (by omega) q (och j (by omega) (by omega) hj)
  · rw [show t + 1 - 1 = t from by omega]; exact new

section
variable (m : List (List Int)) (a dw W : Int) (hm : m.length ≤ 200) (ha : 0 ≤ a ∧ a ≤ 60) (hdw : 1 ≤ dw ∧ dw ≤ 20) (hW : 1 ≤ W ∧ W ≤ 12)
  (hw : ∀ t : Int, 0 ≤ t → t < (m.length : Int) → ((rd_L1 m t).length : Int) = W)
  (he : ∀ t j : Int, 0 ≤ t → t < (m.length : Int) → 0 ≤ j → j < W → -120 ≤ rd (rd_L1 m t) j ∧ rd (rd_L1 m t) j ≤ 0)
include hm ha hdw hW hw he
theorem over_ev (c now t : Int) (t1 : t < (m.length : Int)) (c0 : 0 ≤ c) (c1 : c < W) (n0 : 0 ≤ now) (n1 : now < W) : ∀ (d : Nat) (u : Int), t + 1 - u ≤ d → 0 ≤ u →
    ((∀ v : Int, u ≤ v → v ≤ t → Pc m a now c v) → Ev (fun k => spec_l16Over.l0 k m c now a t u) true) ∧ ((∃ v : Int, u ≤ v ∧ v ≤ t ∧ ¬ Pc m a now c v) → Ev (fun k => spec_l16Over.l0 k m c now a t u) false) := by
  intro d
  induction d with
  | zero =>
    intro u hd u0
    refine ⟨fun _ => ev_unroll ?_, fun ⟨v, v0, v1, _⟩ => by omega⟩
    simp (disch := omega) only [spec_l16Over.l0, ↓if_pos, ↓if_neg, if_pos, if_neg, ↓reduceIte, w64, in_t, in_f, l1In_t, l1In_f, Option.bind_some, Bool.not_true, Bool.not_false, Bool.false_eq_true, tmod_nonneg, tdiv_nonneg]
    exact Ev.now _
  | succ d ih =>
    intro u hd u0
    by_cases hu : u ≤ t
    · obtain ⟨ih1, ih2⟩ := ih (u + 1) (by omega) (by omega)
      have hwu := hw u u0 (by omega)
      have e1 := he u c u0 (by omega) c0 c1
      have e2 := he u now u0 (by omega) n0 n1
      by_cases hp : Pc m a now c u
      · have hp2 := hp
        unfold Pc at hp2
        refine ⟨fun h => ev_unroll ?_, fun ⟨v, v0, v1, v2⟩ => ev_unroll ?_⟩
        · simp (disch := omega) only [spec_l16Over.l0, ↓if_pos, ↓if_neg, if_pos, if_neg, ↓reduceIte, w64, in_t, in_f, l1In_t, l1In_f, Option.bind_some, Bool.not_true, Bool.not_false, Bool.false_eq_true, tmod_nonneg, tdiv_nonneg]
          exact ih1 fun v v0 v1 => h v (by omega) v1
        · simp (disch := omega) only [spec_l16Over.l0, ↓if_pos, ↓if_neg, if_pos, if_neg, ↓reduceIte, w64, in_t, in_f, l1In_t, l1In_f, Option.bind_some, Bool.not_true, Bool.not_false, Bool.false_eq_true, tmod_nonneg, tdiv_nonneg]
          refine ih2 ⟨v, ?_, v1, v2⟩
          have : v ≠ u := fun e => v2 (e ▸ hp)
          omega
      · refine ⟨fun h => absurd (h u (by omega) hu) hp, fun _ => ev_unroll ?_⟩
        unfold Pc at hp
        by_cases hq : rd (rd_L1 m u) c ≤ rd (rd_L1 m u) now
        · simp (disch := omega) only [spec_l16Over.l0, ↓if_pos, ↓if_neg, if_pos, if_neg, ↓reduceIte, w64, in_t, in_f, l1In_t, l1In_f, Option.bind_some, Bool.not_true, Bool.not_false, Bool.false_eq_true, tmod_nonneg, tdiv_nonneg]
          exact Ev.now _
        · simp (disch := omega) only [spec_l16Over.l0, ↓if_pos, ↓if_neg, if_pos, if_neg, ↓reduceIte, w64, in_t, in_f, l1In_t, l1In_f, Option.bind_some, Bool.not_true, Bool.not_false, Bool.false_eq_true, tmod_nonneg, tdiv_nonneg]
          exact Ev.now _
    · refine ⟨fun _ => ev_unroll ?_, fun ⟨v, v0, v1, _⟩ => by omega⟩
      simp (disch := omega) only [spec_l16Over.l0, ↓if_pos, ↓if_neg, if_pos, if_neg, ↓reduceIte, w64, in_t, in_f, l1In_t, l1In_f, Option.bind_some, Bool.not_true, Bool.not_false, Bool.false_eq_true, tmod_nonneg, tdiv_nonneg]
      exact Ev.now _
theorem l5_false (out : List Int) (now since t best c : Int) (t0 : 0 < t) (t1 : t < (m.length : Int)) (c0 : 0 ≤ c) (c1 : c < W) (r : List Int × Bool)
    (hb : Ev (fun k => impl_Serving.l4 k m a dw out now since t (rd_L1 m t) best m (m.length : Int) t W (c + 1)) r) (u : Int) (u0 : -100 ≤ u) (u1 : u ≤ t) :
    Ev (fun k => impl_Serving.l5 k m a dw out now since t (rd_L1 m t) best c false u m (m.length : Int) t W c) r := by
  refine ev_unroll ?_
  simp (disch := omega) only [impl_Serving.l5, ↓if_pos, ↓if_neg, if_pos, if_neg, ↓reduceIte, w64, in_t, in_f, l1In_t, l1In_f, Option.bind_some, Bool.not_true, Bool.not_false, Bool.false_eq_true, tmod_nonneg, tdiv_nonneg]
  exact hb
theorem l5_ev (out : List Int) (now since t best c : Int) (t0 : 0 < t) (t1 : t < (m.length : Int)) (hs : t - dw ≥ 0) (c0 : 0 ≤ c) (c1 : c < W) (n0 : 0 ≤ now) (n1 : now < W) (b0 : -1 ≤ best) (b1 : best < W) (r : List Int × Bool) : ∀ (d : Nat) (u : Int), u - (t - dw) ≤ d → t - dw ≤ u → u ≤ t →
    ((∀ v : Int, t - dw < v → v ≤ u → Pc m a now c v) → Ev (fun k => impl_Serving.l4 k m a dw out now since t (rd_L1 m t) (if best < 0 ∨ rd (rd_L1 m t) c > rd (rd_L1 m t) best then c else best) m (m.length : Int) t W (c + 1)) r → Ev (fun k => impl_Serving.l5 k m a dw out now since t (rd_L1 m t) best c true u m (m.length : Int) t W c) r) ∧
    ((∃ v : Int, t - dw < v ∧ v ≤ u ∧ ¬ Pc m a now c v) → Ev (fun k => impl_Serving.l4 k m a dw out now since t (rd_L1 m t) best m (m.length : Int) t W (c + 1)) r → Ev (fun k => impl_Serving.l5 k m a dw out now since t (rd_L1 m t) best c true u m (m.length : Int) t W c) r) := by
  have last : ∀ u : Int, u = t - dw → Ev (fun k => impl_Serving.l4 k m a dw out now since t (rd_L1 m t) (if best < 0 ∨ rd (rd_L1 m t) c > rd (rd_L1 m t) best then c else best) m (m.length : Int) t W (c + 1)) r → Ev (fun k => impl_Serving.l5 k m a dw out now since t (rd_L1 m t) best c true u m (m.length : Int) t W c) r := by
    intro u hu hb
    have hwt := hw t (by omega) t1
    refine ev_unroll ?_
    by_cases h1 : best < 0
    · rw [if_pos (Or.inl h1)] at hb
      simp (disch := omega) only [impl_Serving.l5, ↓if_pos, ↓if_neg, if_pos, if_neg, ↓reduceIte, w64, in_t, in_f, l1In_t, l1In_f, Option.bind_some, Bool.not_true, Bool.not_false, Bool.false_eq_true, tmod_nonneg, tdiv_nonneg]
      exact hb
    · by_cases h2 : rd (rd_L1 m t) c > rd (rd_L1 m t) best
      · rw [if_pos (Or.inr h2)] at hb
        simp (disch := omega) only [impl_Serving.l5, ↓if_pos, ↓if_neg, if_pos, if_neg, ↓reduceIte, w64, in_t, in_f, l1In_t, l1In_f, Option.bind_some, Bool.not_true, Bool.not_false, Bool.false_eq_true, tmod_nonneg, tdiv_nonneg]
        exact hb
      · rw [if_neg (by omega)] at hb
        simp (disch := omega) only [impl_Serving.l5, ↓if_pos, ↓if_neg, if_pos, if_neg, ↓reduceIte, w64, in_t, in_f, l1In_t, l1In_f, Option.bind_some, Bool.not_true, Bool.not_false, Bool.false_eq_true, tmod_nonneg, tdiv_nonneg]
        exact hb
  intro d
  induction d with
  | zero =>
    intro u hd u0 u1
    exact ⟨fun _ hb => last u (by omega) hb, fun ⟨v, v0, v1, _⟩ => by omega⟩
  | succ d ih =>
    intro u hd u0 u1
    by_cases hu : t - dw < u
    · obtain ⟨ih1, ih2⟩ := ih (u - 1) (by omega) (by omega) (by omega)
      have hwu := hw u (by omega) (by omega)
      have e1 := he u c (by omega) (by omega) c0 c1
      have e2 := he u now (by omega) (by omega) n0 n1
      by_cases hp : Pc m a now c u
      · have hp2 := hp
        unfold Pc at hp2
        have hd1 : decide (rd (rd_L1 m u) c ≥ rd (rd_L1 m u) now + a) = true := by simp; omega
        refine ⟨fun h hb => ev_unroll ?_, fun ⟨v, v0, v1, v2⟩ hb => ev_unroll ?_⟩
        · simp (disch := omega) only [impl_Serving.l5, ↓if_pos, ↓if_neg, if_pos, if_neg, ↓reduceIte, w64, in_t, in_f, l1In_t, l1In_f, Option.bind_some, Bool.not_true, Bool.not_false, Bool.false_eq_true, tmod_nonneg, tdiv_nonneg]
          rw [hd1]
          exact ih1 (fun v v0 v1 => h v v0 (by omega)) hb
        · simp (disch := omega) only [impl_Serving.l5, ↓if_pos, ↓if_neg, if_pos, if_neg, ↓reduceIte, w64, in_t, in_f, l1In_t, l1In_f, Option.bind_some, Bool.not_true, Bool.not_false, Bool.false_eq_true, tmod_nonneg, tdiv_nonneg]
          rw [hd1]
          refine ih2 ⟨v, v0, ?_, v2⟩ hb
          have : v ≠ u := fun e => v2 (e ▸ hp)
          omega
      · refine ⟨fun h => absurd (h u hu (by omega)) hp, fun _ hb => ev_unroll ?_⟩
        unfold Pc at hp
        have hf := l5_false m a dw W hm ha hdw hW hw he out now since t best c t0 t1 c0 c1 r hb (u - 1) (by omega) (by omega)
        by_cases hq : rd (rd_L1 m u) c > rd (rd_L1 m u) now
        · have hd1 : decide (rd (rd_L1 m u) c ≥ rd (rd_L1 m u) now + a) = false := by simp; omega
          simp (disch := omega) only [impl_Serving.l5, ↓if_pos, ↓if_neg, if_pos, if_neg, ↓reduceIte, w64, in_t, in_f, l1In_t, l1In_f, Option.bind_some, Bool.not_true, Bool.not_false, Bool.false_eq_true, tmod_nonneg, tdiv_nonneg]
          rw [hd1]
          exact hf
        · simp (disch := omega) only [impl_Serving.l5, ↓if_pos, ↓if_neg, if_pos, if_neg, ↓reduceIte, w64, in_t, in_f, l1In_t, l1In_f, Option.bind_some, Bool.not_true, Bool.not_false, Bool.false_eq_true, tmod_nonneg, tdiv_nonneg]
          exact hf
    · exact ⟨fun _ hb => last u (by omega) hb, fun ⟨v, v0, v1, _⟩ => by omega⟩
/-- What both tell in the end. -/
def Told (m : List (List Int)) (a dw W : Int) (r : List Int × Bool) : Prop := r.2 = true ∧ ∃ now since, Good m a dw W (m.length : Int) r.1 now since
theorem inner_ev (t : Int) (t0 : 0 < t) (t1 : t < (m.length : Int)) (out : List Int) (now since : Int) (hg : Good m a dw W t out now since)
    (H : ∀ out' now' since', Good m a dw W (t + 1) out' now' since' → ∃ r, Told m a dw W r ∧ Ev (fun k => spec_Serving.l0 k m a dw out' now' since' (t + 1)) r ∧ Ev (fun k => impl_Serving.l2 k m a dw out' now' since' m (m.length : Int) (t + 1)) r) :
    ∀ (d : Nat) (c best : Int), W - c ≤ d → 0 ≤ c → -1 ≤ best → best < W → (0 ≤ best → Pc m a now best t ∧ t - dw + 1 > since) →
    ∃ r, Told m a dw W r ∧ Ev (fun k => spec_Serving.l1 k m a dw out now since t best c) r ∧ Ev (fun k => impl_Serving.l4 k m a dw out now since t (rd_L1 m t) best m (m.length : Int) t W c) r := by
  have hwt := hw t (by omega) t1
  have hlen := hg.len
  have hsin := hg.sin
  obtain ⟨n0, n1⟩ := hg.nowr
  have last : ∀ (c best : Int), W ≤ c → -1 ≤ best → best < W → (0 ≤ best → Pc m a now best t ∧ t - dw + 1 > since) →
      ∃ r, Told m a dw W r ∧ Ev (fun k => spec_Serving.l1 k m a dw out now since t best c) r ∧ Ev (fun k => impl_Serving.l4 k m a dw out now since t (rd_L1 m t) best m (m.length : Int) t W c) r := by
    intro c best hc b0 b1 hb
    by_cases hpos : best ≥ 0
    · obtain ⟨q1, q2⟩ := hb hpos
      obtain ⟨r, o, p, q⟩ := H _ _ _ (good_new hg t0 hpos b1 q1 q2)
      refine ⟨r, o, ev_unroll ?_, ev_unroll ?_⟩
      · simp (disch := omega) only [spec_Serving.l1, ↓if_pos, ↓if_neg, if_pos, if_neg, ↓reduceIte, w64, in_t, in_f, l1In_t, l1In_f, Option.bind_some, Bool.not_true, Bool.not_false, Bool.false_eq_true, tmod_nonneg, tdiv_nonneg]
        exact p
      · simp (disch := omega) only [impl_Serving.l4, ↓if_pos, ↓if_neg, if_pos, if_neg, ↓reduceIte, w64, in_t, in_f, l1In_t, l1In_f, Option.bind_some, Bool.not_true, Bool.not_false, Bool.false_eq_true, tmod_nonneg, tdiv_nonneg]
        exact q
    · obtain ⟨r, o, p, q⟩ := H _ _ _ (good_same hg t0)
      refine ⟨r, o, ev_unroll ?_, ev_unroll ?_⟩
      · simp (disch := omega) only [spec_Serving.l1, ↓if_pos, ↓if_neg, if_pos, if_neg, ↓reduceIte, w64, in_t, in_f, l1In_t, l1In_f, Option.bind_some, Bool.not_true, Bool.not_false, Bool.false_eq_true, tmod_nonneg, tdiv_nonneg]
        exact p
      · simp (disch := omega) only [impl_Serving.l4, ↓if_pos, ↓if_neg, if_pos, if_neg, ↓reduceIte, w64, in_t, in_f, l1In_t, l1In_f, Option.bind_some, Bool.not_true, Bool.not_false, Bool.false_eq_true, tmod_nonneg, tdiv_nonneg]
        exact q
  intro d
  induction d with
  | zero => exact fun c best hd c0 b0 b1 hb => last c best (by omega) b0 b1 hb
  | succ d ih =>
    intro c best hd c0 b0 b1 hb
    by_cases hc : c < W
    · by_cases hsn : t - dw + 1 > since
      · by_cases hall : ∀ v : Int, t - dw < v → v ≤ t → Pc m a now c v
        · have hov := (over_ev m a dw W hm ha hdw hW hw he c now t t1 c0 hc n0 n1 300 (t - dw + 1) (by omega) (by omega)).1 (fun v v0 v1 => hall v (by omega) v1)
          have hpt := hall t (by omega) (Int.le_refl _)
          obtain ⟨r, o, p, q⟩ := ih (c + 1) (if best < 0 ∨ rd (rd_L1 m t) c > rd (rd_L1 m t) best then c else best) (by omega) (by omega) (by split <;> omega) (by split <;> omega) (by
            intro _
            split
            · exact ⟨hpt, hsn⟩
            · exact hb (by omega))
          refine ⟨r, o, ev_unroll ?_, ev_unroll ?_⟩
          · simp (disch := omega) only [spec_Serving.l1, ↓if_pos, ↓if_neg, if_pos, if_neg, ↓reduceIte, w64, in_t, in_f, l1In_t, l1In_f, Option.bind_some, Bool.not_true, Bool.not_false, Bool.false_eq_true, tmod_nonneg, tdiv_nonneg]
            refine Ev.bind hov ?_
            by_cases h1 : best < 0
            · rw [if_pos (Or.inl h1)] at p
              simp (disch := omega) only [↓if_pos, ↓if_neg, if_pos, if_neg, ↓reduceIte, w64, in_t, in_f, l1In_t, l1In_f, Option.bind_some, Bool.not_true, Bool.not_false, Bool.false_eq_true, tmod_nonneg, tdiv_nonneg]
              exact p
            · by_cases h2 : rd (rd_L1 m t) c > rd (rd_L1 m t) best
              · rw [if_pos (Or.inr h2)] at p
                simp (disch := omega) only [↓if_pos, ↓if_neg, if_pos, if_neg, ↓reduceIte, w64, in_t, in_f, l1In_t, l1In_f, Option.bind_some, Bool.not_true, Bool.not_false, Bool.false_eq_true, tmod_nonneg, tdiv_nonneg]
                exact p
              · rw [if_neg (by omega)] at p
                simp (disch := omega) only [↓if_pos, ↓if_neg, if_pos, if_neg, ↓reduceIte, w64, in_t, in_f, l1In_t, l1In_f, Option.bind_some, Bool.not_true, Bool.not_false, Bool.false_eq_true, tmod_nonneg, tdiv_nonneg]
                exact p
          · simp (disch := omega) only [impl_Serving.l4, ↓if_pos, ↓if_neg, if_pos, if_neg, ↓reduceIte, w64, in_t, in_f, l1In_t, l1In_f, Option.bind_some, Bool.not_true, Bool.not_false, Bool.false_eq_true, tmod_nonneg, tdiv_nonneg]
            rw [decide_eq_true hsn]
            exact (l5_ev m a dw W hm ha hdw hW hw he out now since t best c t0 t1 (by omega) c0 hc n0 n1 b0 b1 r 100 t (by omega) (by omega) (Int.le_refl _)).1 hall q
        · have hx : ∃ v : Int, t - dw < v ∧ v ≤ t ∧ ¬ Pc m a now c v :=
            Classical.byContradiction fun hno => hall fun v v0 v1 => Classical.byContradiction fun h => hno ⟨v, v0, v1, h⟩
          have hx2 : ∃ v : Int, t - dw + 1 ≤ v ∧ v ≤ t ∧ ¬ Pc m a now c v := by
            obtain ⟨v, v0, v1, v2⟩ := hx
            exact ⟨v, by omega, v1, v2⟩
          have hov := (over_ev m a dw W hm ha hdw hW hw he c now t t1 c0 hc n0 n1 300 (t - dw + 1) (by omega) (by omega)).2 hx2
          obtain ⟨r, o, p, q⟩ := ih (c + 1) best (by omega) (by omega) b0 b1 hb
          refine ⟨r, o, ev_unroll ?_, ev_unroll ?_⟩
          · simp (disch := omega) only [spec_Serving.l1, ↓if_pos, ↓if_neg, if_pos, if_neg, ↓reduceIte, w64, in_t, in_f, l1In_t, l1In_f, Option.bind_some, Bool.not_true, Bool.not_false, Bool.false_eq_true, tmod_nonneg, tdiv_nonneg]
            refine Ev.bind hov ?_
            simp (disch := omega) only [↓if_pos, ↓if_neg, if_pos, if_neg, ↓reduceIte, w64, in_t, in_f, l1In_t, l1In_f, Option.bind_some, Bool.not_true, Bool.not_false, Bool.false_eq_true, tmod_nonneg, tdiv_nonneg]
            exact p
          · simp (disch := omega) only [impl_Serving.l4, ↓if_pos, ↓if_neg, if_pos, if_neg, ↓reduceIte, w64, in_t, in_f, l1In_t, l1In_f, Option.bind_some, Bool.not_true, Bool.not_false, Bool.false_eq_true, tmod_nonneg, tdiv_nonneg]
            rw [decide_eq_true hsn]
            exact (l5_ev m a dw W hm ha hdw hW hw he out now since t best c t0 t1 (by omega) c0 hc n0 n1 b0 b1 r 100 t (by omega) (by omega) (Int.le_refl _)).2 hx q
      · obtain ⟨r, o, p, q⟩ := ih (c + 1) best (by omega) (by omega) b0 b1 hb
        refine ⟨r, o, ev_unroll ?_, ev_unroll ?_⟩
        · simp (disch := omega) only [spec_Serving.l1, ↓if_pos, ↓if_neg, if_pos, if_neg, ↓reduceIte, w64, in_t, in_f, l1In_t, l1In_f, Option.bind_some, Bool.not_true, Bool.not_false, Bool.false_eq_true, tmod_nonneg, tdiv_nonneg]
          exact p
        · simp (disch := omega) only [impl_Serving.l4, ↓if_pos, ↓if_neg, if_pos, if_neg, ↓reduceIte, w64, in_t, in_f, l1In_t, l1In_f, Option.bind_some, Bool.not_true, Bool.not_false, Bool.false_eq_true, tmod_nonneg, tdiv_nonneg]
          rw [decide_eq_false hsn]
          exact l5_false m a dw W hm ha hdw hW hw he out now since t best c t0 t1 c0 hc r q t (by omega) (Int.le_refl _)
    · exact last c best (by omega) b0 b1 hb
theorem inner0_ev (t1 : 0 < (m.length : Int))
    (H : ∀ out' now' since', Good m a dw W 1 out' now' since' → ∃ r, Told m a dw W r ∧ Ev (fun k => spec_Serving.l0 k m a dw out' now' since' 1) r ∧ Ev (fun k => impl_Serving.l2 k m a dw out' now' since' m (m.length : Int) 1) r) :
    ∀ (d : Nat) (c b : Int), W - c ≤ d → 1 ≤ c → 0 ≤ b → b < W →
    ∃ r, Told m a dw W r ∧ Ev (fun k => spec_Serving.l1 k m a dw [] 0 0 0 b c) r ∧ Ev (fun k => impl_Serving.l3 k m a dw [] b 0 (rd_L1 m 0) m (m.length : Int) 0 (rd_L1 m 0) W c) r := by
  have hwt := hw 0 (by omega) t1
  have hnil : (([] : List Int).length : Int) = 0 := rfl
  have last : ∀ (c b : Int), W ≤ c → 0 ≤ b → b < W →
      ∃ r, Told m a dw W r ∧ Ev (fun k => spec_Serving.l1 k m a dw [] 0 0 0 b c) r ∧ Ev (fun k => impl_Serving.l3 k m a dw [] b 0 (rd_L1 m 0) m (m.length : Int) 0 (rd_L1 m 0) W c) r := by
    intro c b hc b0 b1
    obtain ⟨r, o, p, q⟩ := H _ _ _ (good_first m a dw W b b0 b1)
    refine ⟨r, o, ev_unroll ?_, ev_unroll ?_⟩
    · simp (disch := omega) only [spec_Serving.l1, List.length_nil, List.nil_append, ↓if_pos, ↓if_neg, if_pos, if_neg, ↓reduceIte, w64, in_t, in_f, l1In_t, l1In_f, Option.bind_some, Bool.not_true, Bool.not_false, Bool.false_eq_true, tmod_nonneg, tdiv_nonneg]
      exact p
    · simp (disch := omega) only [impl_Serving.l3, List.length_nil, List.nil_append, ↓if_pos, ↓if_neg, if_pos, if_neg, ↓reduceIte, w64, in_t, in_f, l1In_t, l1In_f, Option.bind_some, Bool.not_true, Bool.not_false, Bool.false_eq_true, tmod_nonneg, tdiv_nonneg]
      exact q
  intro d
  induction d with
  | zero => exact fun c b hd c0 b0 b1 => last c b (by omega) b0 b1
  | succ d ih =>
    intro c b hd c0 b0 b1
    by_cases hc : c < W
    · by_cases h2 : rd (rd_L1 m 0) c > rd (rd_L1 m 0) b
      · obtain ⟨r, o, p, q⟩ := ih (c + 1) c (by omega) (by omega) (by omega) hc
        refine ⟨r, o, ev_unroll ?_, ev_unroll ?_⟩
        · simp (disch := omega) only [spec_Serving.l1, ↓if_pos, ↓if_neg, if_pos, if_neg, ↓reduceIte, w64, in_t, in_f, l1In_t, l1In_f, Option.bind_some, Bool.not_true, Bool.not_false, Bool.false_eq_true, tmod_nonneg, tdiv_nonneg]
          exact p
        · simp (disch := omega) only [impl_Serving.l3, ↓if_pos, ↓if_neg, if_pos, if_neg, ↓reduceIte, w64, in_t, in_f, l1In_t, l1In_f, Option.bind_some, Bool.not_true, Bool.not_false, Bool.false_eq_true, tmod_nonneg, tdiv_nonneg]
          exact q
      · obtain ⟨r, o, p, q⟩ := ih (c + 1) b (by omega) (by omega) b0 b1
        refine ⟨r, o, ev_unroll ?_, ev_unroll ?_⟩
        · simp (disch := omega) only [spec_Serving.l1, ↓if_pos, ↓if_neg, if_pos, if_neg, ↓reduceIte, w64, in_t, in_f, l1In_t, l1In_f, Option.bind_some, Bool.not_true, Bool.not_false, Bool.false_eq_true, tmod_nonneg, tdiv_nonneg]
          exact p
        · simp (disch := omega) only [impl_Serving.l3, ↓if_pos, ↓if_neg, if_pos, if_neg, ↓reduceIte, w64, in_t, in_f, l1In_t, l1In_f, Option.bind_some, Bool.not_true, Bool.not_false, Bool.false_eq_true, tmod_nonneg, tdiv_nonneg]
          exact q
    · exact last c b (by omega) b0 b1
theorem outer_ev : ∀ (d : Nat) (t : Int) (out : List Int) (now since : Int), (m.length : Int) - t ≤ d → 0 < t → t ≤ (m.length : Int) → Good m a dw W t out now since →
    ∃ r, Told m a dw W r ∧ Ev (fun k => spec_Serving.l0 k m a dw out now since t) r ∧ Ev (fun k => impl_Serving.l2 k m a dw out now since m (m.length : Int) t) r := by
  have last : ∀ (t : Int) (out : List Int) (now since : Int), t = (m.length : Int) → Good m a dw W t out now since →
      ∃ r, Told m a dw W r ∧ Ev (fun k => spec_Serving.l0 k m a dw out now since t) r ∧ Ev (fun k => impl_Serving.l2 k m a dw out now since m (m.length : Int) t) r := by
    intro t out now since ht hg
    refine ⟨(out, true), ⟨rfl, now, since, by rw [← ht]; exact hg⟩, ev_unroll ?_, ev_unroll ?_⟩
    · simp (disch := omega) only [spec_Serving.l0, ↓if_pos, ↓if_neg, if_pos, if_neg, ↓reduceIte, w64, in_t, in_f, l1In_t, l1In_f, Option.bind_some, Bool.not_true, Bool.not_false, Bool.false_eq_true, tmod_nonneg, tdiv_nonneg]
      exact Ev.now _
    · simp (disch := omega) only [impl_Serving.l2, ↓if_pos, ↓if_neg, if_pos, if_neg, ↓reduceIte, w64, in_t, in_f, l1In_t, l1In_f, Option.bind_some, Bool.not_true, Bool.not_false, Bool.false_eq_true, tmod_nonneg, tdiv_nonneg]
      exact Ev.now _
  intro d
  induction d with
  | zero => exact fun t out now since hd t0 t1 hg => last t out now since (by omega) hg
  | succ d ih =>
    intro t out now since hd t0 t1 hg
    by_cases ht : t < (m.length : Int)
    · obtain ⟨r, o, p, q⟩ := inner_ev m a dw W hm ha hdw hW hw he t t0 ht out now since hg (fun out' now' since' hg' => ih (t + 1) out' now' since' (by omega) (by omega) (by omega) hg') 12 0 (-1) (by omega) (by omega) (by omega) (by omega) (fun h => by omega)
      have hwt := hw t (by omega) ht
      refine ⟨r, o, ev_unroll ?_, ev_unroll ?_⟩
      · simp (disch := omega) only [spec_Serving.l0, ↓if_pos, ↓if_neg, if_pos, if_neg, ↓reduceIte, w64, in_t, in_f, l1In_t, l1In_f, Option.bind_some, Bool.not_true, Bool.not_false, Bool.false_eq_true, tmod_nonneg, tdiv_nonneg]
        exact p
      · simp (disch := omega) only [impl_Serving.l2, ↓if_pos, ↓if_neg, if_pos, if_neg, ↓reduceIte, w64, in_t, in_f, l1In_t, l1In_f, Option.bind_some, Bool.not_true, Bool.not_false, Bool.false_eq_true, tmod_nonneg, tdiv_nonneg]
        rw [hwt]
        exact q
    · exact last t out now since (by omega) hg
theorem all_ev : ∃ r, Told m a dw W r ∧ Ev (fun k => spec_Serving.l0 k m a dw [] 0 0 0) r ∧ Ev (fun k => impl_Serving.l2 k m a dw [] 0 0 m (m.length : Int) 0) r := by
  by_cases ht : 0 < (m.length : Int)
  · have hwt := hw 0 (by omega) ht
    have hx : ¬ rd (rd_L1 m 0) 0 > rd (rd_L1 m 0) 0 := by omega
    obtain ⟨r, o, p, q⟩ := inner0_ev m a dw W hm ha hdw hW hw he ht (fun out' now' since' hg' => outer_ev m a dw W hm ha hdw hW hw he m.length 1 out' now' since' (by omega) (by omega) (by omega) hg') 12 1 0 (by omega) (by omega) (by omega) (by omega)
    refine ⟨r, o, ev_unroll ?_, ev_unroll ?_⟩
    · simp (disch := omega) only [spec_Serving.l0, ↓if_pos, ↓if_neg, if_pos, if_neg, ↓reduceIte, w64, in_t, in_f, l1In_t, l1In_f, Option.bind_some, Bool.not_true, Bool.not_false, Bool.false_eq_true, tmod_nonneg, tdiv_nonneg]
      refine ev_unroll ?_
      simp (disch := omega) only [spec_Serving.l1, ↓if_pos, ↓if_neg, if_pos, if_neg, ↓reduceIte, w64, in_t, in_f, l1In_t, l1In_f, Option.bind_some, Bool.not_true, Bool.not_false, Bool.false_eq_true, tmod_nonneg, tdiv_nonneg]
      exact p
    · simp (disch := omega) only [impl_Serving.l2, ↓if_pos, ↓if_neg, if_pos, if_neg, ↓reduceIte, w64, in_t, in_f, l1In_t, l1In_f, Option.bind_some, Bool.not_true, Bool.not_false, Bool.false_eq_true, tmod_nonneg, tdiv_nonneg]
      rw [hwt]
      refine ev_unroll ?_
      simp (disch := omega) only [impl_Serving.l3, ↓if_pos, ↓if_neg, if_pos, if_neg, ↓reduceIte, w64, in_t, in_f, l1In_t, l1In_f, Option.bind_some, Bool.not_true, Bool.not_false, Bool.false_eq_true, tmod_nonneg, tdiv_nonneg]
      exact q
  · have e : (m.length : Int) = 0 := by omega
    refine ⟨([], true), ⟨rfl, 0, 0, ?_⟩, ev_unroll ?_, ev_unroll ?_⟩
    · rw [e]
      exact ⟨rfl, fun j j0 j1 => by omega, fun j j0 j1 => by omega, fun i j i0 i1 j1 => by omega, fun i i0 i1 => by omega, fun h => by omega, ⟨by omega, by omega⟩, ⟨by omega, fun h => by omega⟩⟩
    · simp (disch := omega) only [spec_Serving.l0, ↓if_pos, ↓if_neg, if_pos, if_neg, ↓reduceIte, w64, in_t, in_f, l1In_t, l1In_f, Option.bind_some, Bool.not_true, Bool.not_false, Bool.false_eq_true, tmod_nonneg, tdiv_nonneg]
      exact Ev.now _
    · simp (disch := omega) only [impl_Serving.l2, ↓if_pos, ↓if_neg, if_pos, if_neg, ↓reduceIte, w64, in_t, in_f, l1In_t, l1In_f, Option.bind_some, Bool.not_true, Bool.not_false, Bool.false_eq_true, tmod_nonneg, tdiv_nonneg]
      exact Ev.now _
end
/-- Both tell the same, of all measures. -/
theorem serving_both (m : List (List Int)) (hn : m.length ≤ 1048576) (hr : ∀ x ∈ m, x.length ≤ 1048576) (a dw : Int) :
    ∃ r : List Int × Bool, (r.2 = false → r.1 = []) ∧ (r.2 = true → m.length ≤ 200 ∧ 1 ≤ dw ∧ dw ≤ 20 ∧ 0 ≤ a ∧ a ≤ 60 ∧ ∃ W, (∀ t : Int, 0 ≤ t → t < (m.length : Int) → ((rd_L1 m t).length : Int) = W) ∧ (∀ t j : Int, 0 ≤ t → t < (m.length : Int) → 0 ≤ j → j < W → -120 ≤ rd (rd_L1 m t) j ∧ rd (rd_L1 m t) j ≤ 0) ∧ ∃ now since, Good m a dw W (m.length : Int) r.1 now since) ∧
      Ev (fun k => spec_Serving.f k m a dw) r ∧ Ev (fun k => impl_Serving.f k m a dw) r := by
  obtain ⟨b, o, p⟩ := meas_ev m hn hr
  by_cases hgood : (RowsOk m ∧ (m.length : Int) ≤ 200) ∧ (0 ≤ a ∧ a ≤ 60) ∧ 1 ≤ dw ∧ dw ≤ 20
  · obtain ⟨g1, g2, g3⟩ := hgood
    have e := o.2 g1
    subst e
    have hWx : ∃ W : Int, (1 ≤ W ∧ W ≤ 12) ∧ (∀ t : Int, 0 ≤ t → t < (m.length : Int) → ((rd_L1 m t).length : Int) = W) := by
      by_cases ht : 0 < (m.length : Int)
      · have h0 := (g1.1 0 (by omega) ht).1
        exact ⟨((rd_L1 m 0).length : Int), h0.2, fun t t0 t1 => (g1.1 t t0 t1).1.1⟩
      · exact ⟨1, by omega, fun t t0 t1 => by omega⟩
    obtain ⟨W, hW, hw⟩ := hWx
    have he : ∀ t j : Int, 0 ≤ t → t < (m.length : Int) → 0 ≤ j → j < W → -120 ≤ rd (rd_L1 m t) j ∧ rd (rd_L1 m t) j ≤ 0 := by
      intro t j t0 t1 j0 j1
      exact (g1.1 t t0 t1).2 j j0 (by rw [hw t t0 t1]; exact j1)
    obtain ⟨r, o1, p1, q1⟩ := all_ev m a dw W (by omega) g2 g3 hW hw he
    refine ⟨r, fun h => by rw [o1.1] at h; simp at h, fun _ => ⟨by omega, g3.1, g3.2, g2.1, g2.2, W, hw, he, o1.2⟩, ?_, ?_⟩
    · simp only [spec_Serving.f, Option.bind_some]
      refine Ev.bind p ?_
      simp (disch := omega) only [↓if_pos, ↓if_neg, if_pos, if_neg, ↓reduceIte, w64, in_t, in_f, l1In_t, l1In_f, Option.bind_some, Bool.not_true, Bool.not_false, Bool.false_eq_true, tmod_nonneg, tdiv_nonneg]
      refine ev_unroll ?_
      simp (disch := omega) only [spec_Serving.j0, ↓if_pos, ↓if_neg, if_pos, if_neg, ↓reduceIte, w64, in_t, in_f, l1In_t, l1In_f, Option.bind_some, Bool.not_true, Bool.not_false, Bool.false_eq_true, tmod_nonneg, tdiv_nonneg]
      exact p1
    · have hlen := g1.2
      simp (disch := omega) only [impl_Serving.f, ↓if_pos, ↓if_neg, if_pos, if_neg, ↓reduceIte, w64, in_t, in_f, l1In_t, l1In_f, Option.bind_some, Bool.not_true, Bool.not_false, Bool.false_eq_true, tmod_nonneg, tdiv_nonneg]
      refine ev_unroll ?_
      simp (disch := omega) only [impl_Serving.j0, ↓if_pos, ↓if_neg, if_pos, if_neg, ↓reduceIte, w64, in_t, in_f, l1In_t, l1In_f, Option.bind_some, Bool.not_true, Bool.not_false, Bool.false_eq_true, tmod_nonneg, tdiv_nonneg]
      exact (impl_rows m hn hr a dw m.length 0 (by omega) (by omega)).1 (fun j j0 j1 => g1.1 j j0 j1) r q1
  · refine ⟨([], false), fun _ => rfl, fun h => by simp at h, ?_, ?_⟩
    · simp only [spec_Serving.f, Option.bind_some]
      refine Ev.bind p ?_
      cases b with
      | false =>
        simp (disch := omega) only [↓if_pos, ↓if_neg, if_pos, if_neg, ↓reduceIte, w64, in_t, in_f, l1In_t, l1In_f, Option.bind_some, Bool.not_true, Bool.not_false, Bool.false_eq_true, tmod_nonneg, tdiv_nonneg]
        refine ev_unroll ?_
        simp (disch := omega) only [spec_Serving.j0, ↓if_pos, ↓if_neg, if_pos, if_neg, ↓reduceIte, w64, in_t, in_f, l1In_t, l1In_f, Option.bind_some, Bool.not_true, Bool.not_false, Bool.false_eq_true, tmod_nonneg, tdiv_nonneg]
        exact Ev.now _
      | true =>
        have g1 := o.1 rfl
        by_cases g2 : 0 ≤ a ∧ a ≤ 60
        · have g3 : ¬ (1 ≤ dw ∧ dw ≤ 20) := fun h => hgood ⟨g1, g2, h⟩
          simp (disch := omega) only [↓if_pos, ↓if_neg, if_pos, if_neg, ↓reduceIte, w64, in_t, in_f, l1In_t, l1In_f, Option.bind_some, Bool.not_true, Bool.not_false, Bool.false_eq_true, tmod_nonneg, tdiv_nonneg]
          refine ev_unroll ?_
          simp (disch := omega) only [spec_Serving.j0, ↓if_pos, ↓if_neg, if_pos, if_neg, ↓reduceIte, w64, in_t, in_f, l1In_t, l1In_f, Option.bind_some, Bool.not_true, Bool.not_false, Bool.false_eq_true, tmod_nonneg, tdiv_nonneg]
          exact Ev.now _
        · simp (disch := omega) only [↓if_pos, ↓if_neg, if_pos, if_neg, ↓reduceIte, w64, in_t, in_f, l1In_t, l1In_f, Option.bind_some, Bool.not_true, Bool.not_false, Bool.false_eq_true, tmod_nonneg, tdiv_nonneg]
          refine ev_unroll ?_
          simp (disch := omega) only [spec_Serving.j0, ↓if_pos, ↓if_neg, if_pos, if_neg, ↓reduceIte, w64, in_t, in_f, l1In_t, l1In_f, Option.bind_some, Bool.not_true, Bool.not_false, Bool.false_eq_true, tmod_nonneg, tdiv_nonneg]
          exact Ev.now _
    · by_cases hl : (m.length : Int) > 200
      · simp (disch := omega) only [impl_Serving.f, ↓if_pos, ↓if_neg, if_pos, if_neg, ↓reduceIte, w64, in_t, in_f, l1In_t, l1In_f, Option.bind_some, Bool.not_true, Bool.not_false, Bool.false_eq_true, tmod_nonneg, tdiv_nonneg]
        refine ev_unroll ?_
        simp (disch := omega) only [impl_Serving.j0, ↓if_pos, ↓if_neg, if_pos, if_neg, ↓reduceIte, w64, in_t, in_f, l1In_t, l1In_f, Option.bind_some, Bool.not_true, Bool.not_false, Bool.false_eq_true, tmod_nonneg, tdiv_nonneg]
        exact Ev.now _
      · by_cases g2 : 0 ≤ a ∧ a ≤ 60
        · by_cases g3 : 1 ≤ dw ∧ dw ≤ 20
          · have hx : ∃ j : Int, 0 ≤ j ∧ j < (m.length : Int) ∧ ¬ RowOk m (rd_L1 m j) :=
              Classical.byContradiction fun hno => hgood ⟨⟨fun t t0 t1 => Classical.byContradiction fun h => hno ⟨t, t0, t1, h⟩, by omega⟩, g2, g3⟩
            simp (disch := omega) only [impl_Serving.f, ↓if_pos, ↓if_neg, if_pos, if_neg, ↓reduceIte, w64, in_t, in_f, l1In_t, l1In_f, Option.bind_some, Bool.not_true, Bool.not_false, Bool.false_eq_true, tmod_nonneg, tdiv_nonneg]
            refine ev_unroll ?_
            simp (disch := omega) only [impl_Serving.j0, ↓if_pos, ↓if_neg, if_pos, if_neg, ↓reduceIte, w64, in_t, in_f, l1In_t, l1In_f, Option.bind_some, Bool.not_true, Bool.not_false, Bool.false_eq_true, tmod_nonneg, tdiv_nonneg]
            exact (impl_rows m hn hr a dw m.length 0 (by omega) (by omega)).2 hx
          · simp (disch := omega) only [impl_Serving.f, ↓if_pos, ↓if_neg, if_pos, if_neg, ↓reduceIte, w64, in_t, in_f, l1In_t, l1In_f, Option.bind_some, Bool.not_true, Bool.not_false, Bool.false_eq_true, tmod_nonneg, tdiv_nonneg]
            refine ev_unroll ?_
            simp (disch := omega) only [impl_Serving.j0, ↓if_pos, ↓if_neg, if_pos, if_neg, ↓reduceIte, w64, in_t, in_f, l1In_t, l1In_f, Option.bind_some, Bool.not_true, Bool.not_false, Bool.false_eq_true, tmod_nonneg, tdiv_nonneg]
            exact Ev.now _
        · simp (disch := omega) only [impl_Serving.f, ↓if_pos, ↓if_neg, if_pos, if_neg, ↓reduceIte, w64, in_t, in_f, l1In_t, l1In_f, Option.bind_some, Bool.not_true, Bool.not_false, Bool.false_eq_true, tmod_nonneg, tdiv_nonneg]
          refine ev_unroll ?_
          simp (disch := omega) only [impl_Serving.j0, ↓if_pos, ↓if_neg, if_pos, if_neg, ↓reduceIte, w64, in_t, in_f, l1In_t, l1In_f, Option.bind_some, Bool.not_true, Bool.not_false, Bool.false_eq_true, tmod_nonneg, tdiv_nonneg]
          exact Ev.now _
theorem size_some (l0 : List Int) (a1 : Int) (hb : l0.length ≤ 1048576) (h0 : 0 ≤ a1) (h1 : a1 ≤ 1000) : ∃ v, spec_l1Size.f l0 a1 = some v ∧ 0 ≤ v ∧ v ≤ a1 := by
  unfold spec_l1Size.f
  by_cases h : 2 + (l0.length : Int) / 20 > a1
  · simp (disch := omega) only [↓if_pos, ↓if_neg, if_pos, if_neg, ↓reduceIte, w64, in_t, in_f, l1In_t, l1In_f, Option.bind_some, Bool.not_true, Bool.not_false, Bool.false_eq_true, tmod_nonneg, tdiv_nonneg]
    exact ⟨_, rfl, h0, by omega⟩
  · simp (disch := omega) only [↓if_pos, ↓if_neg, if_pos, if_neg, ↓reduceIte, w64, in_t, in_f, l1In_t, l1In_f, Option.bind_some, Bool.not_true, Bool.not_false, Bool.false_eq_true, tmod_nonneg, tdiv_nonneg]
    exact ⟨_, rfl, by omega, by omega⟩
/-- Measures as they are drawn: few rows, none empty, none long. -/
def Rows (n : Nat) (m : List (List Int)) : Prop := m.length ≤ n ∧ ∀ x ∈ m, 1 ≤ x.length ∧ x.length ≤ 1000
theorem drawM2 (b : List Int) (hb : b.length ≤ 1048576) (x6 : Int) (h6 : 1 ≤ x6 ∧ x6 ≤ 5) (x9 : Int) (x5 : List (List Int)) (h5 : x5.length ≤ 200)
    (H : ∀ (row now : List Int) (i h : Int), 1 ≤ row.length → row.length ≤ 1000 → (now.length : Int) = x6 → 0 ≤ i → i ≤ 1048576 → ∃ m i' h', Rows 200 m ∧ 0 ≤ i' ∧ i' ≤ 1048576 ∧ Ev (fun k => spec_l16DrawMeasures.l1 k (x5 ++ [row]) x6 now (wrap64 (x9 - 1)) b i h) (m, i', h')) :
    ∀ (d : Nat) (x7 x10 : List Int) (x11 i h : Int), x6 - x11 ≤ d → (x7.length : Int) = x6 → (x10.length : Int) = x11 → 0 ≤ x11 → x11 ≤ x6 → 0 ≤ i → i ≤ 1048576 →
    ∃ m i' h', Rows 200 m ∧ 0 ≤ i' ∧ i' ≤ 1048576 ∧ Ev (fun k => spec_l16DrawMeasures.l2 k x5 x6 x7 x9 x10 x11 b i h) (m, i', h') := by
  have last : ∀ (x7 x10 : List Int) (x11 i h : Int), x11 = x6 → (x7.length : Int) = x6 → (x10.length : Int) = x11 → 0 ≤ i → i ≤ 1048576 →
      ∃ m i' h', Rows 200 m ∧ 0 ≤ i' ∧ i' ≤ 1048576 ∧ Ev (fun k => spec_l16DrawMeasures.l2 k x5 x6 x7 x9 x10 x11 b i h) (m, i', h') := by
    intro x7 x10 x11 i h hx h7 h10 i0 i1
    obtain ⟨m, i', h', o1, o2, o3, q⟩ := H x10 x7 i h (by omega) (by omega) h7 i0 i1
    refine ⟨m, i', h', o1, o2, o3, ev_unroll ?_⟩
    simp (disch := omega) only [spec_l16DrawMeasures.l2, ↓if_neg, ↓if_pos]
    exact q
  intro d
  induction d with
  | zero => exact fun x7 x10 x11 i h hd h7 h10 h11 h12 i0 i1 => last x7 x10 x11 i h (by omega) h7 h10 i0 i1
  | succ d ih =>
    intro x7 x10 x11 i h hd h7 h10 h11 h12 i0 i1
    by_cases hlt : x11 < x6
    · obtain ⟨v, i2, s2, e2, p1, p2, p3, p4, p5⟩ := l1Below_some b i h 21 hb i0 i1
      have step : ∀ (y : Int), ∃ m i' h', Rows 200 m ∧ 0 ≤ i' ∧ i' ≤ 1048576 ∧ Ev (fun k => spec_l16DrawMeasures.l2 k x5 x6 (x7.set x11.toNat y) x9 (x10 ++ [y]) (x11 + 1) b i2 s2) (m, i', h') :=
        fun y => ih (x7.set x11.toNat y) (x10 ++ [y]) (x11 + 1) i2 s2 (by omega) (by simpa using h7) (by simp; omega) (by omega) (by omega) p4 p5
      have ew : wrap64 (x11 + 1) = x11 + 1 := w64 (by omega) (by omega)
      have hx10 : x10.length < 17592186044416 := by omega
      by_cases c1 : (wrap64 ((wrap64 ((rd x7 x11) + v)) - 10)) > 0
      · obtain ⟨m, i', h', o1, o2, o3, q⟩ := step 0
        refine ⟨m, i', h', o1, o2, o3, ev_unroll ?_⟩
        simp only [spec_l16DrawMeasures.l2, if_pos hlt, if_pos h11, if_pos (show x11 < (x7.length : Int) by omega), e2, Option.bind_some, if_pos c1, if_neg (show ¬ (0 : Int) < -120 by omega), if_pos hx10, ew]
        exact q
      · by_cases c2 : (wrap64 ((wrap64 ((rd x7 x11) + v)) - 10)) < (-120)
        · obtain ⟨m, i', h', o1, o2, o3, q⟩ := step (-120)
          refine ⟨m, i', h', o1, o2, o3, ev_unroll ?_⟩
          simp only [spec_l16DrawMeasures.l2, if_pos hlt, if_pos h11, if_pos (show x11 < (x7.length : Int) by omega), e2, Option.bind_some, if_neg c1, if_pos c2, if_pos hx10, ew]
          exact q
        · obtain ⟨m, i', h', o1, o2, o3, q⟩ := step (wrap64 ((wrap64 ((rd x7 x11) + v)) - 10))
          refine ⟨m, i', h', o1, o2, o3, ev_unroll ?_⟩
          simp only [spec_l16DrawMeasures.l2, if_pos hlt, if_pos h11, if_pos (show x11 < (x7.length : Int) by omega), e2, Option.bind_some, if_neg c1, if_neg c2, if_pos hx10, ew]
          exact q
    · exact last x7 x10 x11 i h (by omega) h7 h10 i0 i1
theorem drawM1 (b : List Int) (hb : b.length ≤ 1048576) (x6 : Int) (h6 : 1 ≤ x6 ∧ x6 ≤ 5) : ∀ (d : Nat) (x5 : List (List Int)) (x7 : List Int) (x9 i h : Int), x9 ≤ d → d + x5.length ≤ 100 → Rows 200 x5 → (x7.length : Int) = x6 → 0 ≤ i → i ≤ 1048576 →
    ∃ m i' h', Rows 200 m ∧ 0 ≤ i' ∧ i' ≤ 1048576 ∧ Ev (fun k => spec_l16DrawMeasures.l1 k x5 x6 x7 x9 b i h) (m, i', h') := by
  intro d
  induction d with
  | zero =>
    intro x5 x7 x9 i h hd hl h5 h7 i0 i1
    refine ⟨x5, i, h, h5, i0, i1, ev_unroll ?_⟩
    simp (disch := omega) only [spec_l16DrawMeasures.l1, ↓if_neg]
    exact Ev.now _
  | succ d ih =>
    intro x5 x7 x9 i h hd hl h5 h7 i0 i1
    by_cases hp : x9 > 0
    · obtain ⟨m, i', h', o1, o2, o3, q⟩ := drawM2 b hb x6 h6 x9 x5 (by omega) (fun row now i h r0 r1 hn i0 i1 => by
        rw [w64 (x := x9 - 1) (by omega) (by omega)]
        refine ih (x5 ++ [row]) now (x9 - 1) i h (by omega) (by simp; omega) ⟨by simp; omega, fun x hx => ?_⟩ hn i0 i1
        simp only [List.mem_append, List.mem_singleton] at hx
        rcases hx with hx | rfl
        · exact h5.2 x hx
        · exact ⟨r0, r1⟩) 5 x7 [] 0 i h (by omega) h7 rfl (by omega) (by omega) i0 i1
      refine ⟨m, i', h', o1, o2, o3, ev_unroll ?_⟩
      simp (disch := omega) only [spec_l16DrawMeasures.l1, ↓if_pos]
      exact q
    · refine ⟨x5, i, h, h5, i0, i1, ev_unroll ?_⟩
      simp (disch := omega) only [spec_l16DrawMeasures.l1, ↓if_neg]
      exact Ev.now _
theorem drawM0 (b l1 : List Int) (hb : b.length ≤ 1048576) (hb1 : l1.length ≤ 1048576) (x6 : Int) (h6 : 1 ≤ x6 ∧ x6 ≤ 5) : ∀ (d : Nat) (x7 : List Int) (x8 i h : Int), x6 - x8 ≤ d → (x7.length : Int) = x8 → 0 ≤ x8 → x8 ≤ x6 → 0 ≤ i → i ≤ 1048576 →
    ∃ m i' h', Rows 200 m ∧ 0 ≤ i' ∧ i' ≤ 1048576 ∧ Ev (fun k => spec_l16DrawMeasures.l0 k l1 [] x6 x7 x8 b i h) (m, i', h') := by
  have last : ∀ (x7 : List Int) (x8 i h : Int), x8 = x6 → (x7.length : Int) = x8 → 0 ≤ i → i ≤ 1048576 →
      ∃ m i' h', Rows 200 m ∧ 0 ≤ i' ∧ i' ≤ 1048576 ∧ Ev (fun k => spec_l16DrawMeasures.l0 k l1 [] x6 x7 x8 b i h) (m, i', h') := by
    intro x7 x8 i h hx h7 i0 i1
    obtain ⟨z, e0, z0, z1⟩ := size_some l1 20 hb1 (by omega) (by omega)
    obtain ⟨v, i2, s2, e2, p1, p2, p3, p4, p5⟩ := l1Below_some b i h (2 * z) hb i0 i1
    have hv : v ≤ 50 := by
      by_cases hz : 0 < 2 * z
      · have := p2 hz; omega
      · have := p3 (by omega); omega
    obtain ⟨m, i', h', o1, o2, o3, q⟩ := drawM1 b hb x6 h6 60 [] x7 v i2 s2 (by omega) (by simp) ⟨by simp, fun x hx => by simp at hx⟩ (by omega) p4 p5
    refine ⟨m, i', h', o1, o2, o3, ev_unroll ?_⟩
    simp (disch := omega) only [spec_l16DrawMeasures.l0, ↓if_neg, e0, Option.bind_some]
    rw [w64 (x := 2 * z) (by omega) (by omega)]
    simp only [e2, Option.bind_some]
    exact q
  intro d
  induction d with
  | zero => exact fun x7 x8 i h hd h7 h8 h9 i0 i1 => last x7 x8 i h (by omega) h7 i0 i1
  | succ d ih =>
    intro x7 x8 i h hd h7 h8 h9 i0 i1
    by_cases hlt : x8 < x6
    · obtain ⟨v, i2, s2, e2, p1, p2, p3, p4, p5⟩ := l1Below_some b i h 121 hb i0 i1
      obtain ⟨m, i', h', o1, o2, o3, q⟩ := ih (x7 ++ [wrap64 (-v)]) (x8 + 1) i2 s2 (by omega) (by simp; omega) (by omega) (by omega) p4 p5
      refine ⟨m, i', h', o1, o2, o3, ev_unroll ?_⟩
      simp only [spec_l16DrawMeasures.l0, if_pos hlt, e2, Option.bind_some]
      rw [w64 (x := x8 + 1) (by omega) (by omega)]
      simp (disch := omega) only [↓if_pos]
      exact q
    · exact last x7 x8 i h (by omega) h7 i0 i1
theorem drawM_ev (b l1 : List Int) (hb : b.length ≤ 1048576) (hb1 : l1.length ≤ 1048576) (i h : Int) (i0 : 0 ≤ i) (i1 : i ≤ 1048576) :
    ∃ m i' h', Rows 200 m ∧ 0 ≤ i' ∧ i' ≤ 1048576 ∧ Ev (fun k => spec_l16DrawMeasures.f k b i h l1) (m, i', h') := by
  obtain ⟨v, i2, s2, e2, p1, p2, p3, p4, p5⟩ := l1Below_some b i h 5 hb i0 i1
  have p6 := p2 (by omega)
  obtain ⟨m, i', h', o1, o2, o3, q⟩ := drawM0 b l1 hb hb1 (1 + v) (by omega) 5 [] 0 i2 s2 (by omega) rfl (by omega) (by omega) p4 p5
  refine ⟨m, i', h', o1, o2, o3, ?_⟩
  simp only [spec_l16DrawMeasures.f, e2, Option.bind_some]
  rw [w64 (x := 1 + v) (by omega) (by omega)]
  exact q
theorem drawS0 (b : List Int) (hb : b.length ≤ 1048576) : ∀ (d : Nat) (x6 : List (List Int)) (x7 i h : Int), (x6.length : Int) - x7 ≤ d → x6.length = 201 → (∀ j : Nat, (j : Int) < x7 → j < x6.length → 1 ≤ (x6.getD j []).length ∧ (x6.getD j []).length ≤ 1000) → 0 ≤ x7 → x7 ≤ 201 → 0 ≤ i → i ≤ 1048576 →
    ∃ r : List (List Int) × Int × Int, Rows 300 r.1 ∧ Ev (fun k => spec_DrawServing.l0 k x6 x7 b i h) r := by
  have last : ∀ (x6 : List (List Int)) (x7 i h : Int), (x6.length : Int) ≤ x7 → x6.length = 201 → (∀ j : Nat, (j : Int) < x7 → j < x6.length → 1 ≤ (x6.getD j []).length ∧ (x6.getD j []).length ≤ 1000) → 0 ≤ i → i ≤ 1048576 →
      ∃ r : List (List Int) × Int × Int, Rows 300 r.1 ∧ Ev (fun k => spec_DrawServing.l0 k x6 x7 b i h) r := by
    intro x6 x7 i h hx hl hv i0 i1
    obtain ⟨v1, i2, s2, e2, q1, q2, q3⟩ := l1PickInt_some b i h [0, 3, 6, 10, 60, 61, (-1), 5] (by simp) hb i0 i1
    obtain ⟨v2, i3, s3, e3, r1, r2, r3⟩ := l1PickInt_some b i2 s2 [1, 2, 3, 5, 20, 21, 0, 2] (by simp) hb q2 q3
    refine ⟨(x6, v1, v2), ⟨by simp only; omega, fun x hx => ?_⟩, ev_unroll ?_⟩
    · obtain ⟨j, hj, rfl⟩ := List.getElem_of_mem hx
      simp only at hj
      have := hv j (by omega) hj
      simpa [hj] using this
    · simp (disch := omega) only [spec_DrawServing.l0, ↓if_neg, e2, e3, Option.bind_some]
      exact Ev.now _
  intro d
  induction d with
  | zero => exact fun x6 x7 i h hd hl hv h0 h1 i0 i1 => last x6 x7 i h (by omega) hl hv i0 i1
  | succ d ih =>
    intro x6 x7 i h hd hl hv h0 h1 i0 i1
    by_cases hlt : x7 < (x6.length : Int)
    · obtain ⟨r, o, q⟩ := ih (x6.set x7.toNat [(-50)]) (x7 + 1) i h (by simp; omega) (by simpa using hl) (fun j j0 j1 => by
        simp only [List.length_set] at j1
        by_cases e : j = x7.toNat
        · subst e
          simp [j1]
        · have e2 : ¬ x7.toNat = j := fun h => e h.symm
          have := hv j (by omega) j1
          simpa [List.getElem?_set, e2] using this) (by omega) (by omega) i0 i1
      refine ⟨r, o, ev_unroll ?_⟩
      simp (disch := omega) only [spec_DrawServing.l0, ↓if_pos, w64]
      exact q
    · exact last x6 x7 i h (by omega) hl hv i0 i1
theorem drawServing_ev (l0 : List Int) (hb : l0.length ≤ 1048576) : ∃ r : List (List Int) × Int × Int, Rows 300 r.1 ∧ Ev (fun k => spec_DrawServing.f k l0) r := by
  obtain ⟨h, e0⟩ := l1New_ev l0
  obtain ⟨m, i1, s1, hm, o2, o3, q⟩ := drawM_ev l0 l0 hb hb 0 h (by omega) (by omega)
  obtain ⟨v, i2, s2, e2, p1, p2, p3, p4, p5⟩ := l1Below_some l0 i1 s1 25 hb o2 o3
  have hml := hm.1
  by_cases c0 : v = 0
  · obtain ⟨v1, i3, s3, e3, q1, q2, q3⟩ := l1PickInt_some l0 i2 s2 [0, 3, 6, 10, 60, 61, (-1), 5] (by simp) hb p4 p5
    obtain ⟨v2, i4, s4, e4, r1, r2, r3⟩ := l1PickInt_some l0 i3 s3 [1, 2, 3, 5, 20, 21, 0, 2] (by simp) hb q2 q3
    refine ⟨(m ++ [[0]], v1, v2), ⟨?_, fun x hx => ?_⟩, Ev.bind e0 (Ev.bind q ?_)⟩
    · simp; omega
    · simp only [List.mem_append, List.mem_singleton] at hx
      rcases hx with hx | rfl
      · exact hm.2 x hx
      · simp
    · simp (disch := omega) only [e2, Option.bind_some, if_pos c0, ↓if_pos, e3, e4]
      exact Ev.now _
  · by_cases c1 : v = 1
    · by_cases hl : (m.length : Int) > 0
      · obtain ⟨w, i3, s3, e3, q1, q2, q3⟩ := l1PickInt_some l0 i2 s2 [1, (-121)] (by simp) hb p4 p5
        obtain ⟨v1, i4, s4, e4, r1, r2, r3⟩ := l1PickInt_some l0 i3 s3 [0, 3, 6, 10, 60, 61, (-1), 5] (by simp) hb q2 q3
        obtain ⟨v2, i5, s5, e5, t1, t2, t3⟩ := l1PickInt_some l0 i4 s4 [1, 2, 3, 5, 20, 21, 0, 2] (by simp) hb r2 r3
        have hrow := hm.2 _ (rdL_mem (xs := m) (i := 0) (by omega) (by omega))
        refine ⟨(m.set 0 ((rd_L1 m 0).set 0 w), v1, v2), ⟨by simp; omega, fun x hx => ?_⟩, Ev.bind e0 (Ev.bind q ?_)⟩
        · rcases List.mem_or_eq_of_mem_set hx with hx | rfl
          · exact hm.2 x hx
          · simpa using hrow
        · have hr1 : 0 < ((rd_L1 m 0).length : Int) := by omega
          simp (disch := omega) only [e2, Option.bind_some, if_neg c0, if_pos c1, ↓if_pos, e3, e4, e5]
          exact Ev.now _
      · obtain ⟨v1, i4, s4, e4, r1, r2, r3⟩ := l1PickInt_some l0 i2 s2 [0, 3, 6, 10, 60, 61, (-1), 5] (by simp) hb p4 p5
        obtain ⟨v2, i5, s5, e5, t1, t2, t3⟩ := l1PickInt_some l0 i4 s4 [1, 2, 3, 5, 20, 21, 0, 2] (by simp) hb r2 r3
        refine ⟨(m, v1, v2), ⟨by simp only; omega, hm.2⟩, Ev.bind e0 (Ev.bind q ?_)⟩
        simp (disch := omega) only [e2, Option.bind_some, if_neg c0, if_pos c1, if_neg hl, e4, e5]
        exact Ev.now _
    · by_cases c2 : v = 2
      · obtain ⟨r, o, p⟩ := drawS0 l0 hb 300 (List.replicate 201 []) 0 i2 s2 (by rw [List.length_replicate]; omega) List.length_replicate (fun j j0 j1 => by omega) (by omega) (by omega) p4 p5
        refine ⟨r, o, Ev.bind e0 (Ev.bind q ?_)⟩
        simp (disch := omega) only [e2, Option.bind_some, if_neg c0, if_neg c1, if_pos c2, ↓if_pos]
        exact p
      · obtain ⟨v1, i4, s4, e4, r1, r2, r3⟩ := l1PickInt_some l0 i2 s2 [0, 3, 6, 10, 60, 61, (-1), 5] (by simp) hb p4 p5
        obtain ⟨v2, i5, s5, e5, t1, t2, t3⟩ := l1PickInt_some l0 i4 s4 [1, 2, 3, 5, 20, 21, 0, 2] (by simp) hb r2 r3
        refine ⟨(m, v1, v2), ⟨by simp only; omega, hm.2⟩, Ev.bind e0 (Ev.bind q ?_)⟩
        simp (disch := omega) only [e2, Option.bind_some, if_neg c0, if_neg c1, if_neg c2, e4, e5]
        exact Ev.now _
theorem small_ev : Ev (fun k => impl_Serving.f k [[-50, -60], [-70, -60]] 3 1) ([0, 1], true) :=
  Ev.of (fun k => impl_Serving.mono [[-50, -60], [-70, -60]] 3 1 k) (k := 40) (by decide +kernel)
/-- How often it changes, and after how many ticks at least. -/
theorem changes_ev (m : List (List Int)) (a dw W : Int) (hdw : 1 ≤ dw) (out : List Int) (now since : Int) (hm : m.length ≤ 200) (hg : Good m a dw W (m.length : Int) out now since) :
    ∃ n least : Int, ((n < 2 ∧ least = 0) ∨ (n ≥ 2 ∧ least ≥ dw)) ∧ Ev (fun k => impl_Changes.f k out) (n, least) := by
  have hlen := hg.len
  have key : ∀ (d : Nat) (i n ls lst : Int), (out.length : Int) - i ≤ d → 1 ≤ i → i ≤ 300 → 0 ≤ n → n ≤ i → 0 ≤ ls → ls < i → (0 < n → 0 < ls ∧ rd out ls ≠ rd out (ls - 1)) → ((n < 2 ∧ lst = 0) ∨ (n ≥ 2 ∧ lst ≥ dw)) →
      ∃ n' least : Int, ((n' < 2 ∧ least = 0) ∨ (n' ≥ 2 ∧ least ≥ dw)) ∧ Ev (fun k => impl_Changes.l0 k out n ls lst i) (n', least) := by
    intro d
    induction d with
    | zero =>
      intro i n ls lst hd h1 h2 h3 h4 h5 h6 h7 h8
      refine ⟨n, lst, h8, ev_unroll ?_⟩
      simp (disch := omega) only [impl_Changes.l0, ↓if_pos, ↓if_neg, if_pos, if_neg, ↓reduceIte, w64, in_t, in_f, l1In_t, l1In_f, Option.bind_some, Bool.not_true, Bool.not_false, Bool.false_eq_true, tmod_nonneg, tdiv_nonneg]
      exact Ev.now _
    | succ d ih =>
      intro i n ls lst hd h1 h2 h3 h4 h5 h6 h7 h8
      by_cases hlt : i < (out.length : Int)
      · by_cases hx : rd out i = rd out (i - 1)
        · obtain ⟨n', l', o, p⟩ := ih (i + 1) n ls lst (by omega) (by omega) (by omega) (by omega) (by omega) (by omega) (by omega) h7 h8
          refine ⟨n', l', o, ev_unroll ?_⟩
          simp (disch := omega) only [impl_Changes.l0, ↓if_pos, ↓if_neg, if_pos, if_neg, ↓reduceIte, w64, in_t, in_f, l1In_t, l1In_f, Option.bind_some, Bool.not_true, Bool.not_false, Bool.false_eq_true, tmod_nonneg, tdiv_nonneg]
          exact p
        · by_cases hn0 : 0 < n
          · obtain ⟨k1, k2⟩ := h7 hn0
            have hgap := hg.gap ls i k1 h6 (by omega) k2 hx
            by_cases hz : lst = 0
            · obtain ⟨n', l', o, p⟩ := ih (i + 1) (n + 1) i (i - ls) (by omega) (by omega) (by omega) (by omega) (by omega) (by omega) (by omega) (fun _ => ⟨by omega, hx⟩) (by omega)
              refine ⟨n', l', o, ev_unroll ?_⟩
              simp (disch := omega) only [impl_Changes.l0, ↓if_pos, ↓if_neg, if_pos, if_neg, ↓reduceIte, w64, in_t, in_f, l1In_t, l1In_f, Option.bind_some, Bool.not_true, Bool.not_false, Bool.false_eq_true, tmod_nonneg, tdiv_nonneg]
              exact p
            · by_cases hy : i - ls < lst
              · obtain ⟨n', l', o, p⟩ := ih (i + 1) (n + 1) i (i - ls) (by omega) (by omega) (by omega) (by omega) (by omega) (by omega) (by omega) (fun _ => ⟨by omega, hx⟩) (by omega)
                refine ⟨n', l', o, ev_unroll ?_⟩
                simp (disch := omega) only [impl_Changes.l0, ↓if_pos, ↓if_neg, if_pos, if_neg, ↓reduceIte, w64, in_t, in_f, l1In_t, l1In_f, Option.bind_some, Bool.not_true, Bool.not_false, Bool.false_eq_true, tmod_nonneg, tdiv_nonneg]
                exact p
              · obtain ⟨n', l', o, p⟩ := ih (i + 1) (n + 1) i lst (by omega) (by omega) (by omega) (by omega) (by omega) (by omega) (by omega) (fun _ => ⟨by omega, hx⟩) (by omega)
                refine ⟨n', l', o, ev_unroll ?_⟩
                simp (disch := omega) only [impl_Changes.l0, ↓if_pos, ↓if_neg, if_pos, if_neg, ↓reduceIte, w64, in_t, in_f, l1In_t, l1In_f, Option.bind_some, Bool.not_true, Bool.not_false, Bool.false_eq_true, tmod_nonneg, tdiv_nonneg]
                exact p
          · obtain ⟨n', l', o, p⟩ := ih (i + 1) (n + 1) i lst (by omega) (by omega) (by omega) (by omega) (by omega) (by omega) (by omega) (fun _ => ⟨by omega, hx⟩) (by omega)
            refine ⟨n', l', o, ev_unroll ?_⟩
            simp (disch := omega) only [impl_Changes.l0, ↓if_pos, ↓if_neg, if_pos, if_neg, ↓reduceIte, w64, in_t, in_f, l1In_t, l1In_f, Option.bind_some, Bool.not_true, Bool.not_false, Bool.false_eq_true, tmod_nonneg, tdiv_nonneg]
            exact p
      · refine ⟨n, lst, h8, ev_unroll ?_⟩
        simp (disch := omega) only [impl_Changes.l0, ↓if_pos, ↓if_neg, if_pos, if_neg, ↓reduceIte, w64, in_t, in_f, l1In_t, l1In_f, Option.bind_some, Bool.not_true, Bool.not_false, Bool.false_eq_true, tmod_nonneg, tdiv_nonneg]
        exact Ev.now _
  obtain ⟨n, l, o, p⟩ := key 300 1 0 0 0 (by omega) (by omega) (by omega) (by omega) (by omega) (by omega) (by omega) (fun h => by omega) (Or.inl ⟨by omega, rfl⟩)
  exact ⟨n, l, o, p⟩
theorem law_loop (m : List (List Int)) (a dw W : Int) (hm : m.length ≤ 200) (ha : 0 ≤ a ∧ a ≤ 60) (hdw : 1 ≤ dw) (hw : ∀ t : Int, 0 ≤ t → t < (m.length : Int) → ((rd_L1 m t).length : Int) = W)
    (he : ∀ t j : Int, 0 ≤ t → t < (m.length : Int) → 0 ≤ j → j < W → -120 ≤ rd (rd_L1 m t) j ∧ rd (rd_L1 m t) j ≤ 0) (out : List Int) (now since : Int) (hg : Good m a dw W (m.length : Int) out now since) :
    ∀ (d : Nat) (t : Int), (m.length : Int) - t ≤ d → 0 ≤ t → Ev (fun k => laws_FnServed.l0 k m a dw out t) true := by
  have hlen := hg.len
  have last : ∀ t : Int, (m.length : Int) ≤ t → Ev (fun k => laws_FnServed.l0 k m a dw out t) true := by
    intro t ht
    obtain ⟨n, l, o, p⟩ := changes_ev m a dw W hdw out now since hm hg
    refine ev_unroll ?_
    simp (disch := omega) only [laws_FnServed.l0, ↓if_neg]
    refine Ev.bind p ?_
    simp only [if_pos hlen]
    rcases o with ⟨o1, o2⟩ | ⟨o1, o2⟩
    · simp only [if_pos o1, if_pos o2]
      exact Ev.now _
    · simp only [if_neg (show ¬ n < 2 by omega), if_pos o1, decide_eq_true o2]
      exact Ev.now _
  intro d
  induction d with
  | zero => exact fun t hd t0 => last t (by omega)
  | succ d ih =>
    intro t hd t0
    by_cases ht : t < (m.length : Int)
    · have h := ih (t + 1) (by omega) (by omega)
      have hr := hg.rng t t0 ht
      have hwt := hw t t0 ht
      refine ev_unroll ?_
      by_cases hp : t > 0
      · have hr2 := hg.rng (t - 1) (by omega) (by omega)
        by_cases hx : rd out t = rd out (t - 1)
        · simp (disch := omega) only [laws_FnServed.l0, ↓if_pos, ↓if_neg, if_pos, if_neg, ↓reduceIte, w64, in_t, in_f, l1In_t, l1In_f, Option.bind_some, Bool.not_true, Bool.not_false, Bool.false_eq_true, tmod_nonneg, tdiv_nonneg]
          exact h
        · have hc := hg.chg t hp ht hx
          have e1 := he t (rd out t) t0 ht hr.1 hr.2
          have e2 := he t (rd out (t - 1)) t0 ht hr2.1 hr2.2
          unfold Pc at hc
          simp (disch := omega) only [laws_FnServed.l0, ↓if_pos, ↓if_neg, if_pos, if_neg, ↓reduceIte, w64, in_t, in_f, l1In_t, l1In_f, Option.bind_some, Bool.not_true, Bool.not_false, Bool.false_eq_true, tmod_nonneg, tdiv_nonneg]
          exact h
      · simp (disch := omega) only [laws_FnServed.l0, ↓if_pos, ↓if_neg, if_pos, if_neg, ↓reduceIte, w64, in_t, in_f, l1In_t, l1In_f, Option.bind_some, Bool.not_true, Bool.not_false, Bool.false_eq_true, tmod_nonneg, tdiv_nonneg]
        exact h
    · exact last t (by omega)
theorem FnServed : laws_FnServed.Pure := by
  intro l0 _ _ hw
  refine Ev.rounds (g := fun k => laws_FnServed.f k l0) ?_
  simp only [laws_FnServed.f, laws_big.f, Option.bind_some, decide_eq_true_eq]
  by_cases hb : (l0.length : Int) > 1048576
  · simp only [if_pos hb]
    exact Ev.now _
  simp only [if_neg hb]
  obtain ⟨⟨m, a, dw⟩, hm, hd⟩ := drawServing_ev l0 (by omega)
  simp only at hm
  have hm1 := hm.1
  obtain ⟨⟨out, ok⟩, g1, g2, hs, hi⟩ := serving_both m (by omega) (fun x hx => by have := hm.2 x hx; omega) a dw
  refine Ev.bind hd (Ev.bind hi (Ev.bind hs ?_))
  simp only [bne_self_eq_false, Bool.false_eq_true, ↓reduceIte]
  refine Ev.bind small_ev ?_
  simp only [↓reduceIte]
  refine Ev.bind (sameInts_ev [0, 1] [0, 1] (by simp)) ?_
  simp only [decide_true, Bool.not_true]
  refine ev_unroll ?_
  simp only [laws_FnServed.j0, Bool.false_eq_true, ↓reduceIte]
  cases ok with
  | true =>
    obtain ⟨k1, k2, k3, k4, k5, W, k6, k7, now, since, k8⟩ := g2 rfl
    simp only at k8
    simp only [↓reduceIte]
    exact law_loop m a dw W k1 ⟨k4, k5⟩ k2 k6 k7 out now since k8 m.length 0 (by omega) (by omega)
  | false =>
    have k1 := g1 rfl
    simp only at k1
    subst k1
    simp only [Bool.false_eq_true, ↓reduceIte]
    exact Ev.now _

end Go.Proofs.Ythhbeekokbcnfaa.Pure
