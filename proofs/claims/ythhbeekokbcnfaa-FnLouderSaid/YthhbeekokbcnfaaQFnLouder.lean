/- The law FnLouder: for every code, a step more makes none of the drawn stations less loud, and where none changes each is heard as wanted or as loud as it can. -/
import Derived.Test.YthhbeekokbcnfaaMFnLouderx7
import Derived.Test.YthhbeekokbcnfaaKit
namespace Go.Proofs.Ythhbeekokbcnfaa.Pure
set_option linter.unusedSimpArgs false
set_option linter.unusedVariables false
set_option linter.unusedSectionVars false
open Go Go.RowKit Go.Proofs.Ythhbeekokbcnfaa.MFnLouder Go.Proofs.YthhbeekokbcnfaaW.PrintWords Go.Proofs.YthhbeekokbcnfaaW.PrintLast Go.Proofs.Ythhbeekokbcnfaa.Mine

theorem in_t {a b c : Int} (h : b ≤ a) (h2 : a ≤ c) : impl_in.f a b c = some true := by
  unfold impl_in.f
  rw [if_pos (by omega)]; simp [h2]
theorem in_f {a b c : Int} (h : ¬ (b ≤ a ∧ a ≤ c)) : impl_in.f a b c = some false := by
  unfold impl_in.f
  by_cases g : a ≥ b
  · rw [if_pos g]; simp; omega
  · rw [if_neg g]
theorem l1In_t {a b c : Int} (h : b ≤ a) (h2 : a ≤ c) : spec_l1In.f a b c = some true := by
  unfold spec_l1In.f
  rw [if_pos (by omega)]; simp [h2]
theorem l1In_f {a b c : Int} (h : ¬ (b ≤ a ∧ a ≤ c)) : spec_l1In.f a b c = some false := by
  unfold spec_l1In.f
  by_cases g : a ≥ b
  · rw [if_pos g]; simp; omega
  · rw [if_neg g]
theorem l1New_ev (x0 : List Int) : ∃ h, Ev (fun k => spec_l1New.f k x0) (x0, 0, h) := by
  have key : ∀ (d : Nat) (i h : Int), 4000 - i ≤ d → 0 ≤ i → ∃ h', Ev (fun k => spec_l1New.l0 k x0 h i) (x0, 0, h') := by
    intro d
    induction d with
    | zero =>
      intro i h hd h0
      refine ⟨h, ev_unroll ?_⟩
      by_cases hlt : i < (x0.length : Int)
      · simp (disch := omega) only [spec_l1New.l0, ↓if_pos, ↓if_neg, if_pos, if_neg, ↓reduceIte, w64, in_t, in_f, l1In_t, l1In_f, Option.bind_some, Bool.not_true, Bool.not_false, Bool.false_eq_true, tmod_nonneg, tdiv_nonneg]
        exact Ev.now _
      · simp (disch := omega) only [spec_l1New.l0, ↓if_pos, ↓if_neg, if_pos, if_neg, ↓reduceIte, w64, in_t, in_f, l1In_t, l1In_f, Option.bind_some, Bool.not_true, Bool.not_false, Bool.false_eq_true, tmod_nonneg, tdiv_nonneg]
        exact Ev.now _
    | succ d ih =>
      intro i h hd h0
      by_cases hlt : i < (x0.length : Int)
      · by_cases h4 : i < 4000
        · obtain ⟨h', p⟩ := ih (i + 1) (Go.bits .and .i64 (wrap64 ((wrap64 ((wrap64 (h * 131)) + (wrap64 (rd x0 i)))) + 7)) 1073741823) (by omega) (by omega)
          refine ⟨h', ev_unroll ?_⟩
          simp only [spec_l1New.l0, if_pos hlt, if_pos h4, if_pos h0]
          rw [w64 (x := i + 1) (by omega) (by omega)]
          exact p
        · refine ⟨h, ev_unroll ?_⟩
          simp (disch := omega) only [spec_l1New.l0, ↓if_pos, ↓if_neg, if_pos, if_neg, ↓reduceIte, w64, in_t, in_f, l1In_t, l1In_f, Option.bind_some, Bool.not_true, Bool.not_false, Bool.false_eq_true, tmod_nonneg, tdiv_nonneg]
          exact Ev.now _
      · refine ⟨h, ev_unroll ?_⟩
        simp (disch := omega) only [spec_l1New.l0, ↓if_pos, ↓if_neg, if_pos, if_neg, ↓reduceIte, w64, in_t, in_f, l1In_t, l1In_f, Option.bind_some, Bool.not_true, Bool.not_false, Bool.false_eq_true, tmod_nonneg, tdiv_nonneg]
        exact Ev.now _
  obtain ⟨h', p⟩ := key 4000 0 (wrap64 (71933 + (x0.length : Int))) (by omega) (by omega)
  exact ⟨h', p⟩
theorem l1Byte_some (b : List Int) (i h : Int) (hb : b.length ≤ 1048576) (h0 : 0 ≤ i) (h1 : i ≤ 1048576) :
    ∃ v i' h', spec_l1Byte.f b i h = some (v, i', h') ∧ 0 ≤ v ∧ v ≤ 255 ∧ 0 ≤ i' ∧ i' ≤ 1048576 := by
  unfold spec_l1Byte.f
  by_cases hlt : i < (b.length : Int)
  · rw [if_pos hlt, if_pos h0, w64 (x := i + 1) (by omega) (by omega)]
    refine ⟨_, _, _, rfl, ?_, ?_, by omega, by omega⟩
    · rw [and255]; omega
    · rw [and255]; omega
  · rw [if_neg hlt]
    refine ⟨_, _, _, rfl, ?_, ?_, h0, h1⟩
    · rw [and255]; omega
    · rw [and255]; omega
theorem l1Below_some (b : List Int) (i h n : Int) (hb : b.length ≤ 1048576) (h0 : 0 ≤ i) (h1 : i ≤ 1048576) :
    ∃ v i' h', spec_l1Below.f b i h n = some (v, i', h') ∧ 0 ≤ v ∧ (0 < n → v < n) ∧ (n ≤ 0 → v = 0) ∧ 0 ≤ i' ∧ i' ≤ 1048576 := by
  unfold spec_l1Below.f
  by_cases hn : n ≤ 0
  · rw [if_pos hn]
    exact ⟨0, i, h, rfl, by omega, by omega, fun _ => rfl, h0, h1⟩
  rw [if_neg hn]
  by_cases hm : n ≤ 256
  · rw [if_pos hm]
    obtain ⟨v, i1, s1, e1, p1, p2, p3, p4⟩ := l1Byte_some b i h hb h0 h1
    rw [e1]
    simp only [Option.bind_some]
    rw [if_neg (by omega), tmod_nonneg p1]
    exact ⟨_, _, _, rfl, Int.emod_nonneg _ (by omega), fun _ => Int.emod_lt_of_pos _ (by omega), fun h => absurd h hn, p3, p4⟩
  · rw [if_neg hm]
    obtain ⟨v1, i1, s1, e1, p1, p2, p3, p4⟩ := l1Byte_some b i h hb h0 h1
    obtain ⟨v2, i2, s2, e2, q1, q2, q3, q4⟩ := l1Byte_some b i1 s1 hb p3 p4
    obtain ⟨v3, i3, s3, e3, r1, r2, r3, r4⟩ := l1Byte_some b i2 s2 hb q3 q4
    obtain ⟨v4, i4, s4, e4, t1, t2, t3, t4⟩ := l1Byte_some b i3 s3 hb r3 r4
    rw [e1]
    simp only [Option.bind_some]
    rw [e2]
    simp only [Option.bind_some]
    rw [e3]
    simp only [Option.bind_some]
    rw [e4]
    simp only [Option.bind_some]
    rw [if_neg (by omega)]
    refine ⟨_, _, _, rfl, ?_, ?_, fun h => absurd h hn, t3, t4⟩
    · simp (disch := omega) only [w64]
      rw [tmod_nonneg (by omega)]
      exact Int.emod_nonneg _ (by omega)
    · intro _
      simp (disch := omega) only [w64]
      rw [tmod_nonneg (by omega)]
      exact Int.emod_lt_of_pos _ (by omega)
theorem l1PickInt_some (b : List Int) (i h : Int) (l : List Int) (hl : 0 < l.length) (hb : b.length ≤ 1048576) (h0 : 0 ≤ i) (h1 : i ≤ 1048576) :
    ∃ v i' h', spec_l1PickInt.f b i h l = some (v, i', h') ∧ v ∈ l ∧ 0 ≤ i' ∧ i' ≤ 1048576 := by
  unfold spec_l1PickInt.f
  obtain ⟨v, i1, s1, e1, p1, p2, p3, p4, p5⟩ := l1Below_some b i h (l.length : Int) hb h0 h1
  rw [e1]
  simp only [Option.bind_some]
  rw [if_pos p1, if_pos (p2 (by omega))]
  exact ⟨_, _, _, rfl, rd_mem p1 (p2 (by omega)), p4, p5⟩
theorem sameInts_ev (x0 : List Int) (x1 : List Int) (hn : x0.length ≤ 1048576) : Ev (fun k => laws_sameInts.f k x0 x1) (decide (x0 = x1)) := by
  by_cases hl : x0.length = x1.length
  · have key : ∀ (d : Nat) (i : Nat), x0.length - i = d → i ≤ x0.length → Ev (fun k => laws_sameInts.l0 k x0 x1 (i : Int)) (decide (x0.drop i = x1.drop i)) := by
      intro d
      induction d with
      | zero =>
        intro i hd hi
        rw [List.drop_eq_nil_of_le (show x0.length ≤ i by omega), List.drop_eq_nil_of_le (show x1.length ≤ i by omega)]
        refine ev_unroll ?_
        simp (disch := omega) only [laws_sameInts.l0, ↓if_neg, decide_true]
        exact Ev.now _
      | succ d ih =>
        intro i hd hi
        have h := ih (i + 1) (by omega) (by omega)
        rw [drop_rd (show i < x0.length by omega), drop_rd (show i < x1.length by omega)]
        by_cases he : rd x0 (i : Int) = rd x1 (i : Int)
        · refine ev_unroll ?_
          simp (disch := omega) only [laws_sameInts.l0, ↓if_pos, w64]
          simpa [he] using h
        · refine ev_unroll ?_
          simp (disch := omega) only [laws_sameInts.l0, ↓if_pos, ↓if_neg]
          rw [decide_eq_false (by intro h2; injection h2 with h3 h4; exact he h3)]
          exact Ev.now _
    have h := key _ 0 rfl (by omega)
    simp (disch := omega) only [laws_sameInts.f, ↓if_pos]
    simpa using h
  · have he : x0 ≠ x1 := fun h => hl (by rw [h])
    simp (disch := omega) only [laws_sameInts.f, ↓if_neg]
    rw [decide_eq_false he]
    exact Ev.now _
theorem rdL_mem {xs : List (List Int)} {i : Int} (h0 : 0 ≤ i) (h1 : i < (xs.length : Int)) : rd_L2 xs i ∈ xs := by
  have h : i.toNat < xs.length := by omega
  have e : rd_L2 xs i = xs[i.toNat] := by simp [rd_L2, h]
  rw [e]; exact List.getElem_mem h
theorem rdL_nil {xs : List (List Int)} {i : Int} (h1 : (xs.length : Int) ≤ i) : rd_L2 xs i = [] := by
  simp only [rd_L2, List.getD_eq_getElem?_getD]
  rw [List.getElem?_eq_none (by omega)]
  rfl
theorem rdL_le {xs : List (List Int)} {n : Nat} (h : ∀ x ∈ xs, x.length ≤ n) (i : Int) (h0 : 0 ≤ i) : (rd_L2 xs i).length ≤ n := by
  by_cases h1 : i < (xs.length : Int)
  · exact h _ (rdL_mem h0 h1)
  · rw [rdL_nil (by omega)]; exact Nat.zero_le _
/-- What a station hears beside itself: the noise, and of the first k stations all but itself. -/
def heard (row x : List Int) (noise i : Int) : Nat → Int
  | 0 => noise
  | k + 1 => if (k : Int) = i then heard row x noise i k else heard row x noise i k + rd row (k : Int) * rd x (k : Int)
theorem prod_bd {a b : Int} (a0 : 0 ≤ a) (a1 : a ≤ 1000) (b0 : 1 ≤ b) (b1 : b ≤ 1000000) : 0 ≤ a * b ∧ a * b ≤ 1000000000 := by
  have h1 : 0 ≤ a * b := Int.mul_nonneg a0 (by omega)
  have h2 : a * b ≤ 1000 * b := Int.mul_le_mul_of_nonneg_right a1 (by omega)
  omega
theorem heard_bd {row x : List Int} {noise i : Int} (n0 : 1 ≤ noise) (n1 : noise ≤ 1000) : ∀ k : Nat, (∀ j : Int, 0 ≤ j → j < (k : Int) → 0 ≤ rd row j ∧ rd row j ≤ 1000) → (∀ j : Int, 0 ≤ j → j < (k : Int) → 1 ≤ rd x j ∧ rd x j ≤ 1000000) →
    1 ≤ heard row x noise i k ∧ heard row x noise i k ≤ 1000 + 1000000000 * (k : Int) := by
  intro k
  induction k with
  | zero => intro _ _; simp only [heard]; omega
  | succ k ih =>
    intro hr hx
    have h := ih (fun j j0 j1 => hr j j0 (by omega)) (fun j j0 j1 => hx j j0 (by omega))
    have r := hr k (by omega) (by omega)
    have y := hx k (by omega) (by omega)
    have p := prod_bd r.1 r.2 y.1 y.2
    simp only [heard]
    split <;> omega
theorem heard_mono {row x y : List Int} {noise i : Int} : ∀ k : Nat, (∀ j : Int, 0 ≤ j → j < (k : Int) → 0 ≤ rd row j) → (∀ j : Int, 0 ≤ j → j < (k : Int) → rd x j ≤ rd y j) → heard row x noise i k ≤ heard row y noise i k := by
  intro k
  induction k with
  | zero => intro _ _; simp only [heard]; omega
  | succ k ih =>
    intro hr hx
    have h := ih (fun j j0 j1 => hr j j0 (by omega)) (fun j j0 j1 => hx j j0 (by omega))
    have p : rd row (k : Int) * rd x (k : Int) ≤ rd row (k : Int) * rd y (k : Int) := Int.mul_le_mul_of_nonneg_left (hx k (by omega) (by omega)) (hr k (by omega) (by omega))
    simp only [heard]
    split <;> omega
/-- How loud a station is to be that hears s, its own gain being g. -/
def loudOf (want g s : Int) : Int := if (want * s + g - 1) / g > 1000000 then 1000000 else (want * s + g - 1) / g
theorem want_bd {want s : Int} (w0 : 1 ≤ want) (w1 : want ≤ 100) (s0 : 1 ≤ s) (s1 : s ≤ 13000000000) : 1 ≤ want * s ∧ want * s ≤ 1300000000000 := by
  have h1 : 1 * s ≤ want * s := Int.mul_le_mul_of_nonneg_right w0 (by omega)
  have h2 : want * s ≤ 100 * s := Int.mul_le_mul_of_nonneg_right w1 (by omega)
  omega
theorem div_bd {a g : Int} (h1 : 1 ≤ a) (g0 : 1 ≤ g) : 1 ≤ (a + g - 1) / g ∧ (a + g - 1) / g ≤ a + g - 1 := by
  refine ⟨?_, ?_⟩
  · rw [Int.le_ediv_iff_mul_le (by omega)]; omega
  · exact Int.ediv_le_self _ (by omega)
theorem loudOf_bd {want g s : Int} (h : 1 ≤ want * s) (g0 : 1 ≤ g) : 1 ≤ loudOf want g s ∧ loudOf want g s ≤ 1000000 := by
  have := div_bd h g0
  unfold loudOf
  split <;> omega
theorem loudOf_mono {want g s t : Int} (h : want * s ≤ want * t) (g0 : 1 ≤ g) : loudOf want g s ≤ loudOf want g t := by
  have h2 : (want * s + g - 1) / g ≤ (want * t + g - 1) / g := Int.ediv_le_ediv (by omega) (by omega)
  unfold loudOf
  split <;> split <;> omega
theorem loudOf_enough {want g s x : Int} (g0 : 1 ≤ g) (h : x = loudOf want g s) (hx : x < 1000000) : want * s ≤ g * x := by
  unfold loudOf at h
  split at h
  · omega
  · have h1 : want * s + g - 1 < ((want * s + g - 1) / g + 1) * g := Int.lt_ediv_add_one_mul_self _ (by omega)
    rw [← h, Int.add_mul, Int.one_mul, Int.mul_comm x g] at h1
    omega
/-- One step of all stations. -/
def stepAll (m : List (List Int)) (noise want : Int) (x : List Int) : List Int := (List.range m.length).map fun (i : Nat) => loudOf want (rd (rd_L2 m (i : Int)) (i : Int)) (heard (rd_L2 m (i : Int)) x noise (i : Int) m.length)
theorem stepAll_length (m : List (List Int)) (noise want : Int) (x : List Int) : (stepAll m noise want x).length = m.length := by simp [stepAll]
theorem rd_stepAll (m : List (List Int)) (noise want : Int) (x : List Int) {i : Nat} (h : i < m.length) : rd (stepAll m noise want x) (i : Int) = loudOf want (rd (rd_L2 m (i : Int)) (i : Int)) (heard (rd_L2 m (i : Int)) x noise (i : Int) m.length) := by
  simp [rd, stepAll, h]
def steps (m : List (List Int)) (noise want : Int) : Nat → List Int
  | 0 => List.replicate m.length 1
  | s + 1 => stepAll m noise want (steps m noise want s)
theorem steps_length (m : List (List Int)) (noise want : Int) : ∀ s, (steps m noise want s).length = m.length := by
  intro s
  cases s with
  | zero => simp [steps]
  | succ s => simp [steps, stepAll_length]
/-- Gains as they may be. -/
def Gains (m : List (List Int)) : Prop := ∀ i : Int, 0 ≤ i → i < (m.length : Int) → ((rd_L2 m i).length : Int) = (m.length : Int) ∧ 1 ≤ rd (rd_L2 m i) i ∧ ∀ j : Int, 0 ≤ j → j < (m.length : Int) → 0 ≤ rd (rd_L2 m i) j ∧ rd (rd_L2 m i) j ≤ 1000
theorem rd_one {n : Nat} {i : Int} (h0 : 0 ≤ i) (h1 : i < (n : Int)) : rd (List.replicate n (1 : Int)) i = 1 := by
  have h : i.toNat < n := by omega
  simp [rd, h]
section
variable (m : List (List Int)) (hm : 1 ≤ m.length ∧ m.length ≤ 12) (hG : Gains m) (noise want : Int) (hno : 1 ≤ noise ∧ noise ≤ 1000) (hwa : 1 ≤ want ∧ want ≤ 100)
include hm hG hno hwa
theorem step_bd (x : List Int) (hx : ∀ j : Int, 0 ≤ j → j < (m.length : Int) → 1 ≤ rd x j ∧ rd x j ≤ 1000000) (i : Nat) (hi : i < m.length) :
    (∀ k : Nat, k ≤ m.length → 1 ≤ heard (rd_L2 m (i : Int)) x noise (i : Int) k ∧ heard (rd_L2 m (i : Int)) x noise (i : Int) k ≤ 13000000000) ∧ 1 ≤ rd (stepAll m noise want x) (i : Int) ∧ rd (stepAll m noise want x) (i : Int) ≤ 1000000 := by
  obtain ⟨g1, g2, g3⟩ := hG i (by omega) (by omega)
  have hh : ∀ k : Nat, k ≤ m.length → 1 ≤ heard (rd_L2 m (i : Int)) x noise (i : Int) k ∧ heard (rd_L2 m (i : Int)) x noise (i : Int) k ≤ 13000000000 := by
    intro k hk
    have h := heard_bd (row := rd_L2 m (i : Int)) (x := x) (i := (i : Int)) hno.1 hno.2 k (fun j j0 j1 => g3 j j0 (by omega)) (fun j j0 j1 => hx j j0 (by omega))
    omega
  refine ⟨hh, ?_⟩
  have h := hh m.length (Nat.le_refl _)
  have w := want_bd hwa.1 hwa.2 h.1 h.2
  rw [rd_stepAll m noise want x hi]
  exact loudOf_bd w.1 g2
theorem steps_bd : ∀ s : Nat, ∀ j : Int, 0 ≤ j → j < (m.length : Int) → 1 ≤ rd (steps m noise want s) j ∧ rd (steps m noise want s) j ≤ 1000000 := by
  intro s
  induction s with
  | zero =>
    intro j j0 j1
    simp only [steps]
    rw [rd_one j0 j1]
    omega
  | succ s ih =>
    intro j j0 j1
    have h := (step_bd m hm hG noise want hno hwa _ ih j.toNat (by omega)).2
    rw [Int.toNat_of_nonneg j0] at h
    exact h
theorem steps_mono : ∀ s : Nat, ∀ j : Int, 0 ≤ j → j < (m.length : Int) → rd (steps m noise want s) j ≤ rd (steps m noise want (s + 1)) j := by
  intro s
  induction s with
  | zero =>
    intro j j0 j1
    have h := steps_bd m hm hG noise want hno hwa 1 j j0 j1
    have e : rd (steps m noise want 0) j = 1 := by simp only [steps]; exact rd_one j0 j1
    show rd (steps m noise want 0) j ≤ rd (steps m noise want 1) j
    omega
  | succ s ih =>
    intro j j0 j1
    have hj : j.toNat < m.length := by omega
    have ej : ((j.toNat : Nat) : Int) = j := Int.toNat_of_nonneg j0
    obtain ⟨g1, g2, g3⟩ := hG j j0 j1
    have e1 := rd_stepAll m noise want (steps m noise want s) hj
    have e2 := rd_stepAll m noise want (steps m noise want (s + 1)) hj
    rw [ej] at e1 e2
    show rd (stepAll m noise want (steps m noise want s)) j ≤ rd (stepAll m noise want (steps m noise want (s + 1))) j
    rw [e1, e2]
    refine loudOf_mono ?_ g2
    exact Int.mul_le_mul_of_nonneg_left (heard_mono m.length (fun k k0 k1 => (g3 k k0 k1).1) (fun k k0 k1 => ih k k0 k1)) (by omega)
/-- The reference's inner loop. -/
theorem spec_l3 (st now : Int) (x acc : List Int) (hl : x.length = m.length) (hx : ∀ j : Int, 0 ≤ j → j < (m.length : Int) → 1 ≤ rd x j ∧ rd x j ≤ 1000000) (i : Nat) (hi : i < m.length) (ha : acc.length = i) (r : List Int × Bool)
    (H : Ev (fun k => spec_Loudness.l2 k m noise want st x now (acc ++ [rd (stepAll m noise want x) (i : Int)]) ((i : Int) + 1)) r) : ∀ (d j : Nat), m.length - j = d → j ≤ m.length →
    Ev (fun k => spec_Loudness.l3 k m noise want st x now acc (i : Int) (heard (rd_L2 m (i : Int)) x noise (i : Int) j) (j : Int)) r := by
  obtain ⟨g1, g2, g3⟩ := hG i (by omega) (by omega)
  obtain ⟨b1, b2⟩ := step_bd m hm hG noise want hno hwa x hx i hi
  intro d
  induction d with
  | zero =>
    intro j hd hj
    have ej : j = m.length := by omega
    subst ej
    have h := b1 m.length (Nat.le_refl _)
    have w := want_bd hwa.1 hwa.2 h.1 h.2
    have dv := div_bd w.1 g2
    have gi := g3 i (by omega) (by omega)
    have e := rd_stepAll m noise want x hi
    unfold loudOf at e
    by_cases hc : (want * heard (rd_L2 m (i : Int)) x noise (i : Int) m.length + rd (rd_L2 m (i : Int)) (i : Int) - 1) / rd (rd_L2 m (i : Int)) (i : Int) > 1000000
    · rw [if_pos hc] at e
      rw [e] at H
      refine ev_unroll ?_
      simp (disch := omega) only [spec_Loudness.l3, ↓if_pos, ↓if_neg, if_pos, if_neg, ↓reduceIte, w64, in_t, in_f, l1In_t, l1In_f, Option.bind_some, Bool.not_true, Bool.not_false, Bool.false_eq_true, tmod_nonneg, tdiv_nonneg]
      exact H
    · rw [if_neg hc] at e
      rw [e] at H
      refine ev_unroll ?_
      simp (disch := omega) only [spec_Loudness.l3, ↓if_pos, ↓if_neg, if_pos, if_neg, ↓reduceIte, w64, in_t, in_f, l1In_t, l1In_f, Option.bind_some, Bool.not_true, Bool.not_false, Bool.false_eq_true, tmod_nonneg, tdiv_nonneg]
      exact H
  | succ d ih =>
    intro j hd hj
    have p := ih (j + 1) (by omega) (by omega)
    have h := b1 j hj
    have hxj := hx j (by omega) (by omega)
    have gj := g3 j (by omega) (by omega)
    have pb := prod_bd gj.1 gj.2 hxj.1 hxj.2
    simp only [heard] at p
    by_cases hc : (j : Int) = (i : Int)
    · rw [if_pos hc] at p
      refine ev_unroll ?_
      simp (disch := omega) only [spec_Loudness.l3, ↓if_pos, ↓if_neg, if_pos, if_neg, ↓reduceIte, w64, in_t, in_f, l1In_t, l1In_f, Option.bind_some, Bool.not_true, Bool.not_false, Bool.false_eq_true, tmod_nonneg, tdiv_nonneg]
      exact p
    · rw [if_neg hc] at p
      refine ev_unroll ?_
      simp (disch := omega) only [spec_Loudness.l3, ↓if_pos, ↓if_neg, if_pos, if_neg, ↓reduceIte, w64, in_t, in_f, l1In_t, l1In_f, Option.bind_some, Bool.not_true, Bool.not_false, Bool.false_eq_true, tmod_nonneg, tdiv_nonneg]
      exact p
theorem impl_l4 (st cnt : Int) (x acc : List Int) (hl : x.length = m.length) (hx : ∀ j : Int, 0 ≤ j → j < (m.length : Int) → 1 ≤ rd x j ∧ rd x j ≤ 1000000) (i : Nat) (hi : i < m.length) (ha : acc.length = m.length) (r : List Int × Bool)
    (H : Ev (fun k => impl_Loudness.l3 k m noise want (m.length : Int) x (acc.set i (rd (stepAll m noise want x) (i : Int))) st cnt m (m.length : Int) ((i : Int) + 1)) r) : ∀ (d j : Nat), m.length - j = d → j ≤ m.length →
    Ev (fun k => impl_Loudness.l4 k m noise want (m.length : Int) x acc (i : Int) (rd_L2 m (i : Int)) (heard (rd_L2 m (i : Int)) x noise (i : Int) j) st cnt m (m.length : Int) (i : Int) (rd_L2 m (i : Int)) (m.length : Int) (j : Int)) r := by
  obtain ⟨g1, g2, g3⟩ := hG i (by omega) (by omega)
  obtain ⟨b1, b2⟩ := step_bd m hm hG noise want hno hwa x hx i hi
  intro d
  induction d with
  | zero =>
    intro j hd hj
    have ej : j = m.length := by omega
    subst ej
    have h := b1 m.length (Nat.le_refl _)
    have w := want_bd hwa.1 hwa.2 h.1 h.2
    have dv := div_bd w.1 g2
    have gi := g3 i (by omega) (by omega)
    have e := rd_stepAll m noise want x hi
    have en : impl_nearer.f ((want * heard (rd_L2 m (i : Int)) x noise (i : Int) m.length + rd (rd_L2 m (i : Int)) (i : Int) - 1) / rd (rd_L2 m (i : Int)) (i : Int)) 1 1000000 = some (rd (stepAll m noise want x) (i : Int)) := by
      rw [e]
      unfold impl_nearer.f loudOf mn mx
      congr 1
      split <;> split <;> (try split) <;> omega
    refine ev_unroll ?_
    simp (disch := omega) only [impl_Loudness.l4, en, Int.toNat_natCast, ↓if_pos, ↓if_neg, if_pos, if_neg, ↓reduceIte, w64, in_t, in_f, l1In_t, l1In_f, Option.bind_some, Bool.not_true, Bool.not_false, Bool.false_eq_true, tmod_nonneg, tdiv_nonneg]
    exact H
  | succ d ih =>
    intro j hd hj
    have p := ih (j + 1) (by omega) (by omega)
    have h := b1 j hj
    have hxj := hx j (by omega) (by omega)
    have gj := g3 j (by omega) (by omega)
    have pb := prod_bd gj.1 gj.2 hxj.1 hxj.2
    simp only [heard] at p
    by_cases hc : (j : Int) = (i : Int)
    · rw [if_pos hc] at p
      refine ev_unroll ?_
      simp (disch := omega) only [impl_Loudness.l4, ↓if_pos, ↓if_neg, if_pos, if_neg, ↓reduceIte, w64, in_t, in_f, l1In_t, l1In_f, Option.bind_some, Bool.not_true, Bool.not_false, Bool.false_eq_true, tmod_nonneg, tdiv_nonneg]
      exact p
    · rw [if_neg hc] at p
      refine ev_unroll ?_
      simp (disch := omega) only [impl_Loudness.l4, ↓if_pos, ↓if_neg, if_pos, if_neg, ↓reduceIte, w64, in_t, in_f, l1In_t, l1In_f, Option.bind_some, Bool.not_true, Bool.not_false, Bool.false_eq_true, tmod_nonneg, tdiv_nonneg]
      exact p
theorem spec_l2 (st now : Int) (x : List Int) (hl : x.length = m.length) (hx : ∀ j : Int, 0 ≤ j → j < (m.length : Int) → 1 ≤ rd x j ∧ rd x j ≤ 1000000) (n0 : 0 ≤ now) (n1 : now ≤ 50) (r : List Int × Bool)
    (H : Ev (fun k => spec_Loudness.l1 k m noise want st (stepAll m noise want x) (now + 1)) r) : ∀ (d i : Nat), m.length - i = d → i ≤ m.length →
    Ev (fun k => spec_Loudness.l2 k m noise want st x now ((stepAll m noise want x).take i) (i : Int)) r := by
  intro d
  induction d with
  | zero =>
    intro i hd hi
    rw [List.take_of_length_le (by rw [stepAll_length]; omega)]
    refine ev_unroll ?_
    simp (disch := omega) only [spec_Loudness.l2, ↓if_pos, ↓if_neg, if_pos, if_neg, ↓reduceIte, w64, in_t, in_f, l1In_t, l1In_f, Option.bind_some, Bool.not_true, Bool.not_false, Bool.false_eq_true, tmod_nonneg, tdiv_nonneg]
    exact H
  | succ d ih =>
    intro i hd hi
    have p := ih (i + 1) (by omega) (by omega)
    rw [take_rd (by rw [stepAll_length]; omega)] at p
    have q := spec_l3 m hm hG noise want hno hwa st now x ((stepAll m noise want x).take i) hl hx i (by omega) (by rw [List.length_take, stepAll_length]; omega) r (by simpa using p) m.length 0 (by omega) (by omega)
    refine ev_unroll ?_
    simp (disch := omega) only [spec_Loudness.l2, ↓if_pos, ↓if_neg, if_pos, if_neg, ↓reduceIte, w64, in_t, in_f, l1In_t, l1In_f, Option.bind_some, Bool.not_true, Bool.not_false, Bool.false_eq_true, tmod_nonneg, tdiv_nonneg]
    exact q
theorem impl_l3 (st cnt : Int) (x : List Int) (hl : x.length = m.length) (hx : ∀ j : Int, 0 ≤ j → j < (m.length : Int) → 1 ≤ rd x j ∧ rd x j ≤ 1000000) (n0 : 0 ≤ cnt) (n1 : cnt ≤ 50) (r : List Int × Bool)
    (H : Ev (fun k => impl_Loudness.l2 k m noise want (m.length : Int) (stepAll m noise want x) st (cnt + 1)) r) : ∀ (d i : Nat) (acc : List Int), m.length - i = d → i ≤ m.length → acc.length = m.length → acc.take i = (stepAll m noise want x).take i →
    Ev (fun k => impl_Loudness.l3 k m noise want (m.length : Int) x acc st cnt m (m.length : Int) (i : Int)) r := by
  intro d
  induction d with
  | zero =>
    intro i acc hd hi ha ht
    rw [List.take_of_length_le (by omega), List.take_of_length_le (by rw [stepAll_length]; omega)] at ht
    subst ht
    refine ev_unroll ?_
    simp (disch := omega) only [impl_Loudness.l3, ↓if_pos, ↓if_neg, if_pos, if_neg, ↓reduceIte, w64, in_t, in_f, l1In_t, l1In_f, Option.bind_some, Bool.not_true, Bool.not_false, Bool.false_eq_true, tmod_nonneg, tdiv_nonneg]
    exact H
  | succ d ih =>
    intro i acc hd hi ha ht
    obtain ⟨g1, g2, g3⟩ := hG i (by omega) (by omega)
    have hs := take_set_succ (l := acc) (m := stepAll m noise want x) 0 (by rw [stepAll_length]; exact ha) ht (by rw [stepAll_length]; omega)
    rw [← rd_nat] at hs
    have p := ih (i + 1) _ (by omega) (by omega) (by simpa using ha) hs
    have q := impl_l4 m hm hG noise want hno hwa st cnt x acc hl hx i (by omega) ha r (by simpa using p) m.length 0 (by omega) (by omega)
    refine ev_unroll ?_
    simp (disch := omega) only [impl_Loudness.l3, ↓if_pos, ↓if_neg, if_pos, if_neg, ↓reduceIte, w64, in_t, in_f, l1In_t, l1In_f, Option.bind_some, Bool.not_true, Bool.not_false, Bool.false_eq_true, tmod_nonneg, tdiv_nonneg]
    rw [g1]
    exact q
theorem both_steps (st : Int) (s1 : st ≤ 50) : ∀ (d s : Nat), st - (s : Int) = d → Ev (fun k => spec_Loudness.l1 k m noise want st (steps m noise want s) (s : Int)) (steps m noise want st.toNat, true) ∧ Ev (fun k => impl_Loudness.l2 k m noise want (m.length : Int) (steps m noise want s) st (s : Int)) (steps m noise want st.toNat, true) := by
  intro d
  induction d with
  | zero =>
    intro s hd
    have e : st.toNat = s := by omega
    rw [e]
    refine ⟨ev_unroll ?_, ev_unroll ?_⟩
    · simp (disch := omega) only [spec_Loudness.l1, ↓if_pos, ↓if_neg, if_pos, if_neg, ↓reduceIte, w64, in_t, in_f, l1In_t, l1In_f, Option.bind_some, Bool.not_true, Bool.not_false, Bool.false_eq_true, tmod_nonneg, tdiv_nonneg]
      exact Ev.now _
    · simp (disch := omega) only [impl_Loudness.l2, ↓if_pos, ↓if_neg, if_pos, if_neg, ↓reduceIte, w64, in_t, in_f, l1In_t, l1In_f, Option.bind_some, Bool.not_true, Bool.not_false, Bool.false_eq_true, tmod_nonneg, tdiv_nonneg]
      exact Ev.now _
  | succ d ih =>
    intro s hd
    obtain ⟨p, q⟩ := ih (s + 1) (by omega)
    have hb := steps_bd m hm hG noise want hno hwa s
    have p2 := spec_l2 m hm hG noise want hno hwa st s (steps m noise want s) (steps_length m noise want s) hb (by omega) (by omega) _ (by simpa [steps] using p) m.length 0 (by omega) (by omega)
    have q2 := impl_l3 m hm hG noise want hno hwa st s (steps m noise want s) (steps_length m noise want s) hb (by omega) (by omega) _ (by simpa [steps] using q) m.length 0 (List.replicate m.length 0) (by omega) (by omega) (by simp) (by simp)
    refine ⟨ev_unroll ?_, ev_unroll ?_⟩
    · simp (disch := omega) only [spec_Loudness.l1, ↓if_pos, ↓if_neg, if_pos, if_neg, ↓reduceIte, w64, in_t, in_f, l1In_t, l1In_f, Option.bind_some, Bool.not_true, Bool.not_false, Bool.false_eq_true, tmod_nonneg, tdiv_nonneg]
      simpa using p2
    · simp (disch := omega) only [impl_Loudness.l2, Int.toNat_natCast, ↓if_pos, ↓if_neg, if_pos, if_neg, ↓reduceIte, w64, in_t, in_f, l1In_t, l1In_f, Option.bind_some, Bool.not_true, Bool.not_false, Bool.false_eq_true, tmod_nonneg, tdiv_nonneg]
      exact q2
end
section
variable (m : List (List Int)) (hn : m.length ≤ 1048576)
include hn
/-- One row of gains is as it may be. -/
def GRow (i : Int) : Prop := ((rd_L2 m i).length : Int) = (m.length : Int) ∧ 1 ≤ rd (rd_L2 m i) i ∧ ∀ j : Int, 0 ≤ j → j < (m.length : Int) → 0 ≤ rd (rd_L2 m i) j ∧ rd (rd_L2 m i) j ≤ 1000
theorem sgain_row (i : Int) (i0 : 0 ≤ i) (i1 : i < (m.length : Int)) (hl : ((rd_L2 m i).length : Int) = (m.length : Int)) : ∀ (d : Nat) (j : Int), (m.length : Int) - j ≤ d → 0 ≤ j → (∀ k : Int, 0 ≤ k → k < j → 0 ≤ rd (rd_L2 m i) k ∧ rd (rd_L2 m i) k ≤ 1000) →
    (GRow m i → ∀ b, Ev (fun k => spec_l16Gains.l0 k m (i + 1)) b → Ev (fun k => spec_l16Gains.l1 k m i j) b) ∧ (¬ GRow m i → Ev (fun k => spec_l16Gains.l1 k m i j) false) := by
  have last : ∀ j : Int, (m.length : Int) ≤ j → (∀ k : Int, 0 ≤ k → k < j → 0 ≤ rd (rd_L2 m i) k ∧ rd (rd_L2 m i) k ≤ 1000) →
      (GRow m i → ∀ b, Ev (fun k => spec_l16Gains.l0 k m (i + 1)) b → Ev (fun k => spec_l16Gains.l1 k m i j) b) ∧ (¬ GRow m i → Ev (fun k => spec_l16Gains.l1 k m i j) false) := by
    intro j hj hv
    refine ⟨fun h b hb => ev_unroll ?_, fun h => ev_unroll ?_⟩
    · have h1 := h.2.1
      simp (disch := omega) only [spec_l16Gains.l1, ↓if_pos, ↓if_neg, if_pos, if_neg, ↓reduceIte, w64, in_t, in_f, l1In_t, l1In_f, Option.bind_some, Bool.not_true, Bool.not_false, Bool.false_eq_true, tmod_nonneg, tdiv_nonneg]
      exact hb
    · have h1 : rd (rd_L2 m i) i < 1 := by
        by_cases h2 : rd (rd_L2 m i) i < 1
        · exact h2
        · exact absurd ⟨hl, by omega, fun k k0 k1 => hv k k0 (by omega)⟩ h
      simp (disch := omega) only [spec_l16Gains.l1, ↓if_pos, ↓if_neg, if_pos, if_neg, ↓reduceIte, w64, in_t, in_f, l1In_t, l1In_f, Option.bind_some, Bool.not_true, Bool.not_false, Bool.false_eq_true, tmod_nonneg, tdiv_nonneg]
      exact Ev.now _
  intro d
  induction d with
  | zero => exact fun j hd j0 hv => last j (by omega) hv
  | succ d ih =>
    intro j hd j0 hv
    by_cases hj : j < (m.length : Int)
    · by_cases hin : 0 ≤ rd (rd_L2 m i) j ∧ rd (rd_L2 m i) j ≤ 1000
      · obtain ⟨p, q⟩ := ih (j + 1) (by omega) (by omega) (fun k k0 k1 => by
          by_cases e : k = j
          · rw [e]; exact hin
          · exact hv k k0 (by omega))
        refine ⟨fun h b hb => ev_unroll ?_, fun h => ev_unroll ?_⟩
        · simp (disch := omega) only [spec_l16Gains.l1, ↓if_pos, ↓if_neg, if_pos, if_neg, ↓reduceIte, w64, in_t, in_f, l1In_t, l1In_f, Option.bind_some, Bool.not_true, Bool.not_false, Bool.false_eq_true, tmod_nonneg, tdiv_nonneg]
          exact p h b hb
        · simp (disch := omega) only [spec_l16Gains.l1, ↓if_pos, ↓if_neg, if_pos, if_neg, ↓reduceIte, w64, in_t, in_f, l1In_t, l1In_f, Option.bind_some, Bool.not_true, Bool.not_false, Bool.false_eq_true, tmod_nonneg, tdiv_nonneg]
          exact q h
      · refine ⟨fun h => absurd (h.2.2 j j0 hj) hin, fun h => ev_unroll ?_⟩
        simp (disch := omega) only [spec_l16Gains.l1, ↓if_pos, ↓if_neg, if_pos, if_neg, ↓reduceIte, w64, in_t, in_f, l1In_t, l1In_f, Option.bind_some, Bool.not_true, Bool.not_false, Bool.false_eq_true, tmod_nonneg, tdiv_nonneg]
        exact Ev.now _
    · exact last j (by omega) hv
theorem sgains_ev : ∃ b : Bool, (b = true ↔ Gains m ∧ 1 ≤ m.length ∧ m.length ≤ 12) ∧ Ev (fun k => spec_l16Gains.f k m) b := by
  have key : ∀ (d : Nat) (i : Int), (m.length : Int) - i ≤ d → 0 ≤ i → (∀ k : Int, 0 ≤ k → k < i → k < (m.length : Int) → GRow m k) → ∃ b : Bool, (b = true ↔ Gains m ∧ 1 ≤ m.length ∧ m.length ≤ 12) ∧ Ev (fun k => spec_l16Gains.l0 k m i) b := by
    have last : ∀ i : Int, (m.length : Int) ≤ i → (∀ k : Int, 0 ≤ k → k < i → k < (m.length : Int) → GRow m k) → ∃ b : Bool, (b = true ↔ Gains m ∧ 1 ≤ m.length ∧ m.length ≤ 12) ∧ Ev (fun k => spec_l16Gains.l0 k m i) b := by
      intro i hi hv
      have hG : Gains m := fun k k0 k1 => hv k k0 (by omega) k1
      by_cases hm : 1 ≤ (m.length : Int) ∧ (m.length : Int) ≤ 12
      · refine ⟨true, ⟨fun _ => ⟨hG, by omega, by omega⟩, fun _ => rfl⟩, ev_unroll ?_⟩
        simp (disch := omega) only [spec_l16Gains.l0, ↓if_pos, ↓if_neg, if_pos, if_neg, ↓reduceIte, w64, in_t, in_f, l1In_t, l1In_f, Option.bind_some, Bool.not_true, Bool.not_false, Bool.false_eq_true, tmod_nonneg, tdiv_nonneg]
        exact Ev.now _
      · refine ⟨false, ⟨fun h => by simp at h, fun h => absurd (show 1 ≤ (m.length : Int) ∧ (m.length : Int) ≤ 12 by omega) hm⟩, ev_unroll ?_⟩
        simp (disch := omega) only [spec_l16Gains.l0, ↓if_pos, ↓if_neg, if_pos, if_neg, ↓reduceIte, w64, in_t, in_f, l1In_t, l1In_f, Option.bind_some, Bool.not_true, Bool.not_false, Bool.false_eq_true, tmod_nonneg, tdiv_nonneg]
        exact Ev.now _
    intro d
    induction d with
    | zero => exact fun i hd i0 hv => last i (by omega) hv
    | succ d ih =>
      intro i hd i0 hv
      by_cases hi : i < (m.length : Int)
      · by_cases hl : ((rd_L2 m i).length : Int) = (m.length : Int)
        · obtain ⟨p, q⟩ := sgain_row m hn i i0 hi hl m.length 0 (by omega) (by omega) (fun k k0 k1 => by omega)
          by_cases hg : GRow m i
          · obtain ⟨b, o, p1⟩ := ih (i + 1) (by omega) (by omega) (fun k k0 k1 k2 => by
              by_cases e : k = i
              · rw [e]; exact hg
              · exact hv k k0 (by omega) k2)
            refine ⟨b, o, ev_unroll ?_⟩
            simp (disch := omega) only [spec_l16Gains.l0, ↓if_pos, ↓if_neg, if_pos, if_neg, ↓reduceIte, w64, in_t, in_f, l1In_t, l1In_f, Option.bind_some, Bool.not_true, Bool.not_false, Bool.false_eq_true, tmod_nonneg, tdiv_nonneg]
            exact p hg b p1
          · refine ⟨false, ⟨fun h => by simp at h, fun h => absurd (h.1 i i0 hi) hg⟩, ev_unroll ?_⟩
            simp (disch := omega) only [spec_l16Gains.l0, ↓if_pos, ↓if_neg, if_pos, if_neg, ↓reduceIte, w64, in_t, in_f, l1In_t, l1In_f, Option.bind_some, Bool.not_true, Bool.not_false, Bool.false_eq_true, tmod_nonneg, tdiv_nonneg]
            exact q hg
        · refine ⟨false, ⟨fun h => by simp at h, fun h => absurd (h.1 i i0 hi).1 hl⟩, ev_unroll ?_⟩
          simp (disch := omega) only [spec_l16Gains.l0, ↓if_pos, ↓if_neg, if_pos, if_neg, ↓reduceIte, w64, in_t, in_f, l1In_t, l1In_f, Option.bind_some, Bool.not_true, Bool.not_false, Bool.false_eq_true, tmod_nonneg, tdiv_nonneg]
          exact Ev.now _
      · exact last i (by omega) hv
  obtain ⟨b, o, p⟩ := key m.length 0 (by omega) (by omega) (fun k k0 k1 => by omega)
  exact ⟨b, o, p⟩
variable (hm : 1 ≤ m.length ∧ m.length ≤ 12) (noise want st : Int)
include hm
theorem igain_row (i : Int) (i0 : 0 ≤ i) (i1 : i < (m.length : Int)) (hl : ((rd_L2 m i).length : Int) = (m.length : Int)) : ∀ (d : Nat) (j : Int), (m.length : Int) - j ≤ d → 0 ≤ j →
    ((∀ k : Int, j ≤ k → k < (m.length : Int) → 0 ≤ rd (rd_L2 m i) k ∧ rd (rd_L2 m i) k ≤ 1000) → ∀ r, Ev (fun k => impl_Loudness.l0 k m noise want st (m.length : Int) m (m.length : Int) (i + 1)) r → Ev (fun k => impl_Loudness.l1 k m noise want st (m.length : Int) m (m.length : Int) i (rd_L2 m i) ((rd_L2 m i).length : Int) j) r) ∧
    ((∃ k : Int, j ≤ k ∧ k < (m.length : Int) ∧ ¬ (0 ≤ rd (rd_L2 m i) k ∧ rd (rd_L2 m i) k ≤ 1000)) → Ev (fun k => impl_Loudness.l1 k m noise want st (m.length : Int) m (m.length : Int) i (rd_L2 m i) ((rd_L2 m i).length : Int) j) ([], false)) := by
  intro d
  induction d with
  | zero =>
    intro j hd j0
    refine ⟨fun _ r hb => ev_unroll ?_, fun ⟨k, k0, k1, _⟩ => by omega⟩
    simp (disch := omega) only [impl_Loudness.l1, ↓if_pos, ↓if_neg, if_pos, if_neg, ↓reduceIte, w64, in_t, in_f, l1In_t, l1In_f, Option.bind_some, Bool.not_true, Bool.not_false, Bool.false_eq_true, tmod_nonneg, tdiv_nonneg]
    exact hb
  | succ d ih =>
    intro j hd j0
    by_cases hj : j < (m.length : Int)
    · obtain ⟨p, q⟩ := ih (j + 1) (by omega) (by omega)
      by_cases hin : 0 ≤ rd (rd_L2 m i) j ∧ rd (rd_L2 m i) j ≤ 1000
      · refine ⟨fun h r hb => ev_unroll ?_, fun ⟨k, k0, k1, k2⟩ => ev_unroll ?_⟩
        · simp (disch := omega) only [impl_Loudness.l1, ↓if_pos, ↓if_neg, if_pos, if_neg, ↓reduceIte, w64, in_t, in_f, l1In_t, l1In_f, Option.bind_some, Bool.not_true, Bool.not_false, Bool.false_eq_true, tmod_nonneg, tdiv_nonneg]
          exact p (fun k k0 k1 => h k (by omega) k1) r hb
        · simp (disch := omega) only [impl_Loudness.l1, ↓if_pos, ↓if_neg, if_pos, if_neg, ↓reduceIte, w64, in_t, in_f, l1In_t, l1In_f, Option.bind_some, Bool.not_true, Bool.not_false, Bool.false_eq_true, tmod_nonneg, tdiv_nonneg]
          refine q ⟨k, ?_, k1, k2⟩
          have : k ≠ j := fun e => k2 (e ▸ hin)
          omega
      · refine ⟨fun h => absurd (h j (by omega) hj) hin, fun _ => ev_unroll ?_⟩
        simp (disch := omega) only [impl_Loudness.l1, ↓if_pos, ↓if_neg, if_pos, if_neg, ↓reduceIte, w64, in_t, in_f, l1In_t, l1In_f, Option.bind_some, Bool.not_true, Bool.not_false, Bool.false_eq_true, tmod_nonneg, tdiv_nonneg]
        exact Ev.now _
    · refine ⟨fun _ r hb => ev_unroll ?_, fun ⟨k, k0, k1, _⟩ => by omega⟩
      simp (disch := omega) only [impl_Loudness.l1, ↓if_pos, ↓if_neg, if_pos, if_neg, ↓reduceIte, w64, in_t, in_f, l1In_t, l1In_f, Option.bind_some, Bool.not_true, Bool.not_false, Bool.false_eq_true, tmod_nonneg, tdiv_nonneg]
      exact hb
theorem igains_ev : ∀ (d : Nat) (i : Int), (m.length : Int) - i ≤ d → 0 ≤ i →
    ((∀ k : Int, i ≤ k → k < (m.length : Int) → GRow m k) → ∀ r, Ev (fun k => impl_Loudness.l2 k m noise want (m.length : Int) (List.replicate m.length 1) st 0) r → Ev (fun k => impl_Loudness.l0 k m noise want st (m.length : Int) m (m.length : Int) i) r) ∧
    ((∃ k : Int, i ≤ k ∧ k < (m.length : Int) ∧ ¬ GRow m k) → Ev (fun k => impl_Loudness.l0 k m noise want st (m.length : Int) m (m.length : Int) i) ([], false)) := by
  have last : ∀ i : Int, (m.length : Int) ≤ i → ∀ r, Ev (fun k => impl_Loudness.l2 k m noise want (m.length : Int) (List.replicate m.length 1) st 0) r → Ev (fun k => impl_Loudness.l0 k m noise want st (m.length : Int) m (m.length : Int) i) r := by
    intro i hi r hb
    refine ev_unroll ?_
    simp (disch := omega) only [impl_Loudness.l0, slices_Repeat_int_int.f, List.length_singleton, Int.toNat_natCast, ↓if_pos, ↓if_neg, if_pos, if_neg, ↓reduceIte, w64, in_t, in_f, l1In_t, l1In_f, Option.bind_some, Bool.not_true, Bool.not_false, Bool.false_eq_true, tmod_nonneg, tdiv_nonneg]
    exact hb
  intro d
  induction d with
  | zero =>
    intro i hd i0
    exact ⟨fun _ r hb => last i (by omega) r hb, fun ⟨k, k0, k1, _⟩ => by omega⟩
  | succ d ih =>
    intro i hd i0
    by_cases hi : i < (m.length : Int)
    · obtain ⟨p, q⟩ := ih (i + 1) (by omega) (by omega)
      by_cases hl : ((rd_L2 m i).length : Int) = (m.length : Int)
      · obtain ⟨p1, q1⟩ := igain_row m hn hm noise want st i i0 hi hl m.length 0 (by omega) (by omega)
        by_cases hd1 : rd (rd_L2 m i) i < 1
        · refine ⟨fun h => absurd (h i (by omega) hi).2.1 (by omega), fun _ => ev_unroll ?_⟩
          simp (disch := omega) only [impl_Loudness.l0, ↓if_pos, ↓if_neg, if_pos, if_neg, ↓reduceIte, w64, in_t, in_f, l1In_t, l1In_f, Option.bind_some, Bool.not_true, Bool.not_false, Bool.false_eq_true, tmod_nonneg, tdiv_nonneg]
          rw [decide_eq_true hd1]
          refine ev_unroll ?_
          simp (disch := omega) only [impl_Loudness.j2, ↓if_pos, ↓if_neg, if_pos, if_neg, ↓reduceIte, w64, in_t, in_f, l1In_t, l1In_f, Option.bind_some, Bool.not_true, Bool.not_false, Bool.false_eq_true, tmod_nonneg, tdiv_nonneg]
          exact Ev.now _
        · by_cases hall : ∀ k : Int, 0 ≤ k → k < (m.length : Int) → 0 ≤ rd (rd_L2 m i) k ∧ rd (rd_L2 m i) k ≤ 1000
          · refine ⟨fun h r hb => ev_unroll ?_, fun ⟨k, k0, k1, k2⟩ => ev_unroll ?_⟩
            · simp (disch := omega) only [impl_Loudness.l0, ↓if_pos, ↓if_neg, if_pos, if_neg, ↓reduceIte, w64, in_t, in_f, l1In_t, l1In_f, Option.bind_some, Bool.not_true, Bool.not_false, Bool.false_eq_true, tmod_nonneg, tdiv_nonneg]
              rw [decide_eq_false hd1]
              refine ev_unroll ?_
              simp (disch := omega) only [impl_Loudness.j2, ↓if_pos, ↓if_neg, if_pos, if_neg, ↓reduceIte, w64, in_t, in_f, l1In_t, l1In_f, Option.bind_some, Bool.not_true, Bool.not_false, Bool.false_eq_true, tmod_nonneg, tdiv_nonneg]
              exact p1 hall r (p (fun k k0 k1 => h k (by omega) k1) r hb)
            · simp (disch := omega) only [impl_Loudness.l0, ↓if_pos, ↓if_neg, if_pos, if_neg, ↓reduceIte, w64, in_t, in_f, l1In_t, l1In_f, Option.bind_some, Bool.not_true, Bool.not_false, Bool.false_eq_true, tmod_nonneg, tdiv_nonneg]
              rw [decide_eq_false hd1]
              refine ev_unroll ?_
              simp (disch := omega) only [impl_Loudness.j2, ↓if_pos, ↓if_neg, if_pos, if_neg, ↓reduceIte, w64, in_t, in_f, l1In_t, l1In_f, Option.bind_some, Bool.not_true, Bool.not_false, Bool.false_eq_true, tmod_nonneg, tdiv_nonneg]
              refine p1 hall _ (q ⟨k, ?_, k1, k2⟩)
              have : k ≠ i := fun e => k2 (e ▸ ⟨hl, by omega, hall⟩)
              omega
          · have hx : ∃ k : Int, 0 ≤ k ∧ k < (m.length : Int) ∧ ¬ (0 ≤ rd (rd_L2 m i) k ∧ rd (rd_L2 m i) k ≤ 1000) :=
              Classical.byContradiction fun hno => hall fun k k0 k1 => Classical.byContradiction fun h => hno ⟨k, k0, k1, h⟩
            refine ⟨fun h => absurd (h i (by omega) hi).2.2 hall, fun _ => ev_unroll ?_⟩
            simp (disch := omega) only [impl_Loudness.l0, ↓if_pos, ↓if_neg, if_pos, if_neg, ↓reduceIte, w64, in_t, in_f, l1In_t, l1In_f, Option.bind_some, Bool.not_true, Bool.not_false, Bool.false_eq_true, tmod_nonneg, tdiv_nonneg]
            rw [decide_eq_false hd1]
            refine ev_unroll ?_
            simp (disch := omega) only [impl_Loudness.j2, ↓if_pos, ↓if_neg, if_pos, if_neg, ↓reduceIte, w64, in_t, in_f, l1In_t, l1In_f, Option.bind_some, Bool.not_true, Bool.not_false, Bool.false_eq_true, tmod_nonneg, tdiv_nonneg]
            exact q1 hx
      · refine ⟨fun h => absurd (h i (by omega) hi).1 hl, fun _ => ev_unroll ?_⟩
        simp (disch := omega) only [impl_Loudness.l0, ↓if_pos, ↓if_neg, if_pos, if_neg, ↓reduceIte, w64, in_t, in_f, l1In_t, l1In_f, Option.bind_some, Bool.not_true, Bool.not_false, Bool.false_eq_true, tmod_nonneg, tdiv_nonneg]
        refine ev_unroll ?_
        simp (disch := omega) only [impl_Loudness.j2, ↓if_pos, ↓if_neg, if_pos, if_neg, ↓reduceIte, w64, in_t, in_f, l1In_t, l1In_f, Option.bind_some, Bool.not_true, Bool.not_false, Bool.false_eq_true, tmod_nonneg, tdiv_nonneg]
        exact Ev.now _
    · exact ⟨fun _ r hb => last i (by omega) r hb, fun ⟨k, k0, k1, _⟩ => by omega⟩
end
/-- May the gains be asked so? -/
def LOk (m : List (List Int)) (noise want st : Int) : Prop := (Gains m ∧ 1 ≤ m.length ∧ m.length ≤ 12) ∧ (1 ≤ noise ∧ noise ≤ 1000) ∧ (1 ≤ want ∧ want ≤ 100) ∧ 0 ≤ st ∧ st ≤ 50
theorem loud_t (m : List (List Int)) (noise want st : Int) (h : LOk m noise want st) : Ev (fun k => spec_Loudness.f k m noise want st) (steps m noise want st.toNat, true) ∧ Ev (fun k => impl_Loudness.f k m noise want st) (steps m noise want st.toNat, true) := by
  obtain ⟨⟨hG, hm⟩, hno, hwa, hst⟩ := h
  obtain ⟨p, q⟩ := both_steps m hm hG noise want hno hwa st hst.2 st.toNat 0 (by omega)
  refine ⟨?_, ?_⟩
  · obtain ⟨b, o, e⟩ := sgains_ev m (by omega)
    have eb := o.2 ⟨hG, hm.1, hm.2⟩
    subst eb
    simp only [spec_Loudness.f]
    refine Ev.bind e ?_
    simp (disch := omega) only [↓if_pos, ↓if_neg, if_pos, if_neg, ↓reduceIte, w64, in_t, in_f, l1In_t, l1In_f, Option.bind_some, Bool.not_true, Bool.not_false, Bool.false_eq_true, tmod_nonneg, tdiv_nonneg]
    refine ev_unroll ?_
    simp (disch := omega) only [spec_Loudness.j0, ↓if_pos, ↓if_neg, if_pos, if_neg, ↓reduceIte, w64, in_t, in_f, l1In_t, l1In_f, Option.bind_some, Bool.not_true, Bool.not_false, Bool.false_eq_true, tmod_nonneg, tdiv_nonneg]
    have key : ∀ (d i : Nat), m.length - i = d → i ≤ m.length → Ev (fun k => spec_Loudness.l0 k m noise want st (List.replicate i 1) (i : Int)) (steps m noise want st.toNat, true) := by
      intro d
      induction d with
      | zero =>
        intro i hd hi
        have ei : i = m.length := by omega
        subst ei
        refine ev_unroll ?_
        simp (disch := omega) only [spec_Loudness.l0, ↓if_pos, ↓if_neg, if_pos, if_neg, ↓reduceIte, w64, in_t, in_f, l1In_t, l1In_f, Option.bind_some, Bool.not_true, Bool.not_false, Bool.false_eq_true, tmod_nonneg, tdiv_nonneg]
        simpa [steps] using p
      | succ d ih =>
        intro i hd hi
        have h := ih (i + 1) (by omega) (by omega)
        have hl : (List.replicate i (1 : Int)).length = i := List.length_replicate
        refine ev_unroll ?_
        simp (disch := omega) only [spec_Loudness.l0, hl, ↓if_pos, ↓if_neg, if_pos, if_neg, ↓reduceIte, w64, in_t, in_f, l1In_t, l1In_f, Option.bind_some, Bool.not_true, Bool.not_false, Bool.false_eq_true, tmod_nonneg, tdiv_nonneg]
        rw [List.replicate_succ'] at h
        simpa using h
    simpa using key m.length 0 (by omega) (by omega)
  · simp (disch := omega) only [impl_Loudness.f, ↓if_pos, ↓if_neg, if_pos, if_neg, ↓reduceIte, w64, in_t, in_f, l1In_t, l1In_f, Option.bind_some, Bool.not_true, Bool.not_false, Bool.false_eq_true, tmod_nonneg, tdiv_nonneg]
    refine ev_unroll ?_
    simp (disch := omega) only [impl_Loudness.j0, ↓if_pos, ↓if_neg, if_pos, if_neg, ↓reduceIte, w64, in_t, in_f, l1In_t, l1In_f, Option.bind_some, Bool.not_true, Bool.not_false, Bool.false_eq_true, tmod_nonneg, tdiv_nonneg]
    exact (igains_ev m (by omega) hm noise want st m.length 0 (by omega) (by omega)).1 (fun k k0 k1 => hG k (by omega) k1) _ (by simpa [steps] using q)
theorem loud_f (m : List (List Int)) (hn : m.length ≤ 1048576) (noise want st : Int) (h : ¬ LOk m noise want st) : Ev (fun k => spec_Loudness.f k m noise want st) ([], false) ∧ Ev (fun k => impl_Loudness.f k m noise want st) ([], false) := by
  refine ⟨?_, ?_⟩
  · obtain ⟨b, o, e⟩ := sgains_ev m hn
    simp only [spec_Loudness.f]
    refine Ev.bind e ?_
    cases b with
    | false =>
      simp (disch := omega) only [↓if_pos, ↓if_neg, if_pos, if_neg, ↓reduceIte, w64, in_t, in_f, l1In_t, l1In_f, Option.bind_some, Bool.not_true, Bool.not_false, Bool.false_eq_true, tmod_nonneg, tdiv_nonneg]
      refine ev_unroll ?_
      simp (disch := omega) only [spec_Loudness.j0, ↓if_pos, ↓if_neg, if_pos, if_neg, ↓reduceIte, w64, in_t, in_f, l1In_t, l1In_f, Option.bind_some, Bool.not_true, Bool.not_false, Bool.false_eq_true, tmod_nonneg, tdiv_nonneg]
      exact Ev.now _
    | true =>
      have hG := o.1 rfl
      by_cases h1 : 1 ≤ noise ∧ noise ≤ 1000
      · by_cases h2 : 1 ≤ want ∧ want ≤ 100
        · have h3 : ¬ (0 ≤ st ∧ st ≤ 50) := fun h3 => h ⟨hG, h1, h2, h3⟩
          simp (disch := omega) only [↓if_pos, ↓if_neg, if_pos, if_neg, ↓reduceIte, w64, in_t, in_f, l1In_t, l1In_f, Option.bind_some, Bool.not_true, Bool.not_false, Bool.false_eq_true, tmod_nonneg, tdiv_nonneg]
          refine ev_unroll ?_
          simp (disch := omega) only [spec_Loudness.j0, ↓if_pos, ↓if_neg, if_pos, if_neg, ↓reduceIte, w64, in_t, in_f, l1In_t, l1In_f, Option.bind_some, Bool.not_true, Bool.not_false, Bool.false_eq_true, tmod_nonneg, tdiv_nonneg]
          exact Ev.now _
        · simp (disch := omega) only [↓if_pos, ↓if_neg, if_pos, if_neg, ↓reduceIte, w64, in_t, in_f, l1In_t, l1In_f, Option.bind_some, Bool.not_true, Bool.not_false, Bool.false_eq_true, tmod_nonneg, tdiv_nonneg]
          refine ev_unroll ?_
          simp (disch := omega) only [spec_Loudness.j0, ↓if_pos, ↓if_neg, if_pos, if_neg, ↓reduceIte, w64, in_t, in_f, l1In_t, l1In_f, Option.bind_some, Bool.not_true, Bool.not_false, Bool.false_eq_true, tmod_nonneg, tdiv_nonneg]
          exact Ev.now _
      · simp (disch := omega) only [↓if_pos, ↓if_neg, if_pos, if_neg, ↓reduceIte, w64, in_t, in_f, l1In_t, l1In_f, Option.bind_some, Bool.not_true, Bool.not_false, Bool.false_eq_true, tmod_nonneg, tdiv_nonneg]
        refine ev_unroll ?_
        simp (disch := omega) only [spec_Loudness.j0, ↓if_pos, ↓if_neg, if_pos, if_neg, ↓reduceIte, w64, in_t, in_f, l1In_t, l1In_f, Option.bind_some, Bool.not_true, Bool.not_false, Bool.false_eq_true, tmod_nonneg, tdiv_nonneg]
        exact Ev.now _
  · by_cases h0 : 1 ≤ (m.length : Int) ∧ (m.length : Int) ≤ 12
    · by_cases h1 : 1 ≤ noise ∧ noise ≤ 1000
      · by_cases h2 : 1 ≤ want ∧ want ≤ 100
        · by_cases h3 : 0 ≤ st ∧ st ≤ 50
          · have hx : ∃ k : Int, 0 ≤ k ∧ k < (m.length : Int) ∧ ¬ GRow m k :=
              Classical.byContradiction fun hno => h ⟨⟨fun k k0 k1 => Classical.byContradiction fun h => hno ⟨k, k0, k1, h⟩, by omega, by omega⟩, h1, h2, h3⟩
            simp (disch := omega) only [impl_Loudness.f, ↓if_pos, ↓if_neg, if_pos, if_neg, ↓reduceIte, w64, in_t, in_f, l1In_t, l1In_f, Option.bind_some, Bool.not_true, Bool.not_false, Bool.false_eq_true, tmod_nonneg, tdiv_nonneg]
            refine ev_unroll ?_
            simp (disch := omega) only [impl_Loudness.j0, ↓if_pos, ↓if_neg, if_pos, if_neg, ↓reduceIte, w64, in_t, in_f, l1In_t, l1In_f, Option.bind_some, Bool.not_true, Bool.not_false, Bool.false_eq_true, tmod_nonneg, tdiv_nonneg]
            exact (igains_ev m (by omega) (by omega) noise want st m.length 0 (by omega) (by omega)).2 hx
          · simp (disch := omega) only [impl_Loudness.f, ↓if_pos, ↓if_neg, if_pos, if_neg, ↓reduceIte, w64, in_t, in_f, l1In_t, l1In_f, Option.bind_some, Bool.not_true, Bool.not_false, Bool.false_eq_true, tmod_nonneg, tdiv_nonneg]
            refine ev_unroll ?_
            simp (disch := omega) only [impl_Loudness.j0, ↓if_pos, ↓if_neg, if_pos, if_neg, ↓reduceIte, w64, in_t, in_f, l1In_t, l1In_f, Option.bind_some, Bool.not_true, Bool.not_false, Bool.false_eq_true, tmod_nonneg, tdiv_nonneg]
            exact Ev.now _
        · simp (disch := omega) only [impl_Loudness.f, ↓if_pos, ↓if_neg, if_pos, if_neg, ↓reduceIte, w64, in_t, in_f, l1In_t, l1In_f, Option.bind_some, Bool.not_true, Bool.not_false, Bool.false_eq_true, tmod_nonneg, tdiv_nonneg]
          refine ev_unroll ?_
          simp (disch := omega) only [impl_Loudness.j0, ↓if_pos, ↓if_neg, if_pos, if_neg, ↓reduceIte, w64, in_t, in_f, l1In_t, l1In_f, Option.bind_some, Bool.not_true, Bool.not_false, Bool.false_eq_true, tmod_nonneg, tdiv_nonneg]
          exact Ev.now _
      · simp (disch := omega) only [impl_Loudness.f, ↓if_pos, ↓if_neg, if_pos, if_neg, ↓reduceIte, w64, in_t, in_f, l1In_t, l1In_f, Option.bind_some, Bool.not_true, Bool.not_false, Bool.false_eq_true, tmod_nonneg, tdiv_nonneg]
        refine ev_unroll ?_
        simp (disch := omega) only [impl_Loudness.j0, ↓if_pos, ↓if_neg, if_pos, if_neg, ↓reduceIte, w64, in_t, in_f, l1In_t, l1In_f, Option.bind_some, Bool.not_true, Bool.not_false, Bool.false_eq_true, tmod_nonneg, tdiv_nonneg]
        exact Ev.now _
    · simp (disch := omega) only [impl_Loudness.f, ↓if_pos, ↓if_neg, if_pos, if_neg, ↓reduceIte, w64, in_t, in_f, l1In_t, l1In_f, Option.bind_some, Bool.not_true, Bool.not_false, Bool.false_eq_true, tmod_nonneg, tdiv_nonneg]
      refine ev_unroll ?_
      simp (disch := omega) only [impl_Loudness.j0, ↓if_pos, ↓if_neg, if_pos, if_neg, ↓reduceIte, w64, in_t, in_f, l1In_t, l1In_f, Option.bind_some, Bool.not_true, Bool.not_false, Bool.false_eq_true, tmod_nonneg, tdiv_nonneg]
      exact Ev.now _
theorem drawG1 (b : List Int) (hb : b.length ≤ 1048576) (x3 : Int) (h3 : 1 ≤ x3 ∧ x3 ≤ 5) (x4 : List (List Int)) (h4 : x4.length ≤ 5) (x5 : Int)
    (H : ∀ (row : List Int) (i h : Int), (row.length : Int) = x3 → 0 ≤ i → i ≤ 1048576 → ∃ m i' h', ((m.length : Int) = x3 ∧ ∀ x ∈ m, (x.length : Int) = x3) ∧ 0 ≤ i' ∧ i' ≤ 1048576 ∧ Ev (fun k => spec_l16DrawGains.l0 k x3 (x4 ++ [row]) (wrap64 (x5 + 1)) b i h) (m, i', h')) :
    ∀ (d : Nat) (x6 : List Int) (x7 i h : Int), x3 - x7 ≤ d → (x6.length : Int) = x7 → 0 ≤ x7 → x7 ≤ x3 → 0 ≤ i → i ≤ 1048576 →
    ∃ m i' h', ((m.length : Int) = x3 ∧ ∀ x ∈ m, (x.length : Int) = x3) ∧ 0 ≤ i' ∧ i' ≤ 1048576 ∧ Ev (fun k => spec_l16DrawGains.l1 k x3 x4 x5 x6 x7 b i h) (m, i', h') := by
  have last : ∀ (x6 : List Int) (x7 i h : Int), x7 = x3 → (x6.length : Int) = x7 → 0 ≤ i → i ≤ 1048576 →
      ∃ m i' h', ((m.length : Int) = x3 ∧ ∀ x ∈ m, (x.length : Int) = x3) ∧ 0 ≤ i' ∧ i' ≤ 1048576 ∧ Ev (fun k => spec_l16DrawGains.l1 k x3 x4 x5 x6 x7 b i h) (m, i', h') := by
    intro x6 x7 i h hx h6 i0 i1
    obtain ⟨m, i', h', o1, o2, o3, q⟩ := H x6 i h (by omega) i0 i1
    refine ⟨m, i', h', o1, o2, o3, ev_unroll ?_⟩
    simp (disch := omega) only [spec_l16DrawGains.l1, ↓if_neg, ↓if_pos]
    exact q
  intro d
  induction d with
  | zero => exact fun x6 x7 i h hd h6 h7 h8 i0 i1 => last x6 x7 i h (by omega) h6 i0 i1
  | succ d ih =>
    intro x6 x7 i h hd h6 h7 h8 i0 i1
    by_cases hlt : x7 < x3
    · obtain ⟨v, i2, s2, e2, p1, p2, p3, p4, p5⟩ := l1Below_some b i h 12 hb i0 i1
      have ew : wrap64 (x7 + 1) = x7 + 1 := w64 (by omega) (by omega)
      have hx6 : x6.length < 17592186044416 := by omega
      by_cases hc : x7 = x5
      · obtain ⟨v2, i3, s3, e3, q1, q2, q3, q4, q5⟩ := l1Below_some b i2 s2 901 hb p4 p5
        obtain ⟨m, i', h', o1, o2, o3, q⟩ := ih (x6 ++ [wrap64 (100 + v2)]) (x7 + 1) i3 s3 (by omega) (by simp; omega) (by omega) (by omega) q4 q5
        refine ⟨m, i', h', o1, o2, o3, ev_unroll ?_⟩
        simp only [spec_l16DrawGains.l1, if_pos hlt, e2, Option.bind_some, if_pos hc, e3, if_pos hx6, ew]
        exact q
      · obtain ⟨m, i', h', o1, o2, o3, q⟩ := ih (x6 ++ [v]) (x7 + 1) i2 s2 (by omega) (by simp; omega) (by omega) (by omega) p4 p5
        refine ⟨m, i', h', o1, o2, o3, ev_unroll ?_⟩
        simp only [spec_l16DrawGains.l1, if_pos hlt, e2, Option.bind_some, if_neg hc, if_pos hx6, ew]
        exact q
    · exact last x6 x7 i h (by omega) h6 i0 i1
theorem drawG0 (b : List Int) (hb : b.length ≤ 1048576) (x3 : Int) (h3 : 1 ≤ x3 ∧ x3 ≤ 5) : ∀ (d : Nat) (x4 : List (List Int)) (x5 i h : Int), x3 - x5 ≤ d → (x4.length : Int) = x5 → 0 ≤ x5 → x5 ≤ x3 → (∀ x ∈ x4, (x.length : Int) = x3) → 0 ≤ i → i ≤ 1048576 →
    ∃ m i' h', ((m.length : Int) = x3 ∧ ∀ x ∈ m, (x.length : Int) = x3) ∧ 0 ≤ i' ∧ i' ≤ 1048576 ∧ Ev (fun k => spec_l16DrawGains.l0 k x3 x4 x5 b i h) (m, i', h') := by
  have last : ∀ (x4 : List (List Int)) (x5 i h : Int), x5 = x3 → (x4.length : Int) = x5 → (∀ x ∈ x4, (x.length : Int) = x3) → 0 ≤ i → i ≤ 1048576 →
      ∃ m i' h', ((m.length : Int) = x3 ∧ ∀ x ∈ m, (x.length : Int) = x3) ∧ 0 ≤ i' ∧ i' ≤ 1048576 ∧ Ev (fun k => spec_l16DrawGains.l0 k x3 x4 x5 b i h) (m, i', h') := by
    intro x4 x5 i h hx h4 hv i0 i1
    refine ⟨x4, i, h, ⟨by omega, hv⟩, i0, i1, ev_unroll ?_⟩
    simp (disch := omega) only [spec_l16DrawGains.l0, ↓if_neg]
    exact Ev.now _
  intro d
  induction d with
  | zero => exact fun x4 x5 i h hd h4 h5 h6 hv i0 i1 => last x4 x5 i h (by omega) h4 hv i0 i1
  | succ d ih =>
    intro x4 x5 i h hd h4 h5 h6 hv i0 i1
    by_cases hlt : x5 < x3
    · obtain ⟨m, i', h', o1, o2, o3, q⟩ := drawG1 b hb x3 h3 x4 (by omega) x5 (fun row i h hr i0 i1 => by
        rw [w64 (x := x5 + 1) (by omega) (by omega)]
        refine ih (x4 ++ [row]) (x5 + 1) i h (by omega) (by simp; omega) (by omega) (by omega) (fun x hx => ?_) i0 i1
        simp only [List.mem_append, List.mem_singleton] at hx
        rcases hx with hx | rfl
        · exact hv x hx
        · exact hr) 5 [] 0 i h (by omega) rfl (by omega) (by omega) i0 i1
      refine ⟨m, i', h', o1, o2, o3, ev_unroll ?_⟩
      simp (disch := omega) only [spec_l16DrawGains.l0, ↓if_pos]
      exact q
    · exact last x4 x5 i h (by omega) h4 hv i0 i1
theorem drawLoud_ev (l0 : List Int) (hb : l0.length ≤ 1048576) : ∃ r : List (List Int) × Int × Int × Int, (r.1.length ≤ 5 ∧ -1 ≤ r.2.2.2 ∧ r.2.2.2 ≤ 51) ∧ Ev (fun k => spec_DrawLoudness.f k l0) r := by
  obtain ⟨h, e0⟩ := l1New_ev l0
  obtain ⟨v0, i1, s1, e1, a1, a2, a3, a4, a5⟩ := l1Below_some l0 0 h 5 hb (by omega) (by omega)
  have a6 := a2 (by omega)
  obtain ⟨m, i2, s2, hm, o2, o3, q0⟩ := drawG0 l0 hb (1 + v0) (by omega) 5 [] 0 i1 s1 (by omega) rfl (by omega) (by omega) (fun x hx => by simp at hx) a4 a5
  have q : Ev (fun k => spec_l16DrawGains.f k l0 0 h) (m, i2, s2) := by
    simp only [spec_l16DrawGains.f, e1, Option.bind_some]
    rw [w64 (x := 1 + v0) (by omega) (by omega)]
    exact q0
  obtain ⟨v, i3, s3, e3, p1, p2, p3, p4, p5⟩ := l1Below_some l0 i2 s2 25 hb o2 o3
  have hml := hm.1
  have hrow : ((rd_L2 m 0).length : Int) = 1 + v0 := hm.2 _ (rdL_mem (xs := m) (i := 0) (by omega) (by omega))
  have picks : ∀ (i s : Int), 0 ≤ i → i ≤ 1048576 → ∃ no i1 s1 wa i2 s2 st i3 s3, spec_l1PickInt.f l0 i s [1, 10, 1000, 1001, 0, 50] = some (no, i1, s1) ∧ spec_l1PickInt.f l0 i1 s1 [1, 2, 5, 100, 101, 0, 3] = some (wa, i2, s2) ∧ spec_l1PickInt.f l0 i2 s2 [0, 1, 2, 10, 50, 51, (-1), 4] = some (st, i3, s3) ∧ -1 ≤ st ∧ st ≤ 51 := by
    intro i s h0 h1
    obtain ⟨v1, j1, t1, f1, b1, b2, b3⟩ := l1PickInt_some l0 i s [1, 10, 1000, 1001, 0, 50] (by simp) hb h0 h1
    obtain ⟨v2, j2, t2, f2, c1, c2, c3⟩ := l1PickInt_some l0 j1 t1 [1, 2, 5, 100, 101, 0, 3] (by simp) hb b2 b3
    obtain ⟨v3, j3, t3, f3, d1, d2, d3⟩ := l1PickInt_some l0 j2 t2 [0, 1, 2, 10, 50, 51, (-1), 4] (by simp) hb c2 c3
    simp only [List.mem_cons, List.not_mem_nil, or_false] at d1
    exact ⟨v1, j1, t1, v2, j2, t2, v3, j3, t3, f1, f2, f3, by omega, by omega⟩
  by_cases c0 : v = 0
  · obtain ⟨no, j1, t1, wa, j2, t2, st, j3, t3, f1, f2, f3, b1, b2⟩ := picks i3 s3 p4 p5
    refine ⟨(m.set 0 ((rd_L2 m 0) ++ [1]), no, wa, st), ⟨by simp; omega, b1, b2⟩, Ev.bind e0 (Ev.bind q ?_)⟩
    have hm0 : 0 < (m.length : Int) := by omega
    have hr0 : (rd_L2 m 0).length < 17592186044416 := by omega
    simp only [e3, Option.bind_some, if_pos c0, if_pos hm0, if_pos hr0, f1, f2, f3]
    exact Ev.now _
  · by_cases c1 : v = 1
    · obtain ⟨z, i4, s4, e4, q1, q2, q3⟩ := l1PickInt_some l0 i3 s3 [0, 1, 1000, 1001] (by simp) hb p4 p5
      obtain ⟨no, j1, t1, wa, j2, t2, st, j3, t3, f1, f2, f3, b1, b2⟩ := picks i4 s4 q2 q3
      refine ⟨(m.set 0 ((rd_L2 m 0).set 0 z), no, wa, st), ⟨by simp; omega, b1, b2⟩, Ev.bind e0 (Ev.bind q ?_)⟩
      have hm0 : 0 < (m.length : Int) := by omega
      have hr0 : 0 < ((rd_L2 m 0).length : Int) := by omega
      simp only [e3, Option.bind_some, if_neg c0, if_pos c1, if_pos hm0, if_pos hr0, e4, f1, f2, f3]
      exact Ev.now _
    · obtain ⟨no, j1, t1, wa, j2, t2, st, j3, t3, f1, f2, f3, b1, b2⟩ := picks i3 s3 p4 p5
      refine ⟨(m, no, wa, st), ⟨by simp only; omega, b1, b2⟩, Ev.bind e0 (Ev.bind q ?_)⟩
      simp only [e3, Option.bind_some, if_neg c0, if_neg c1, f1, f2, f3]
      exact Ev.now _
theorem small_ev : Ev (fun k => impl_Loudness.f k [[4]] 10 2 1) ([5], true) :=
  Ev.of (fun k => impl_Loudness.mono [[4]] 10 2 1 k) (k := 40) (by decide +kernel)
section
variable (m : List (List Int)) (hm : 1 ≤ m.length ∧ m.length ≤ 12) (hG : Gains m) (noise want : Int) (hno : 1 ≤ noise ∧ noise ≤ 1000) (hwa : 1 ≤ want ∧ want ≤ 100)
include hm hG hno hwa
theorem law_l2 (s : Nat) (still : Bool) (i : Int) (i0 : 0 ≤ i) (i1 : i < (m.length : Int)) (hst : rd (steps m noise want (s + 1)) i = rd (steps m noise want s) i)
    (H : Ev (fun k => laws_FnLouder.l1 k m noise want (steps m noise want s) still (i + 1)) true) : ∀ (d j : Nat), m.length - j = d → j ≤ m.length →
    Ev (fun k => laws_FnLouder.l2 k m noise want (steps m noise want s) still i (heard (rd_L2 m i) (steps m noise want s) noise i j) (j : Int)) true := by
  have hl := steps_length m noise want s
  have hb := steps_bd m hm hG noise want hno hwa s
  obtain ⟨g1, g2, g3⟩ := hG i i0 i1
  obtain ⟨b1, b2⟩ := step_bd m hm hG noise want hno hwa _ hb i.toNat (by omega)
  have e := rd_stepAll m noise want (steps m noise want s) (show i.toNat < m.length by omega)
  rw [Int.toNat_of_nonneg i0] at b1 b2 e
  have hxi := hb i i0 i1
  have gi := g3 i i0 i1
  intro d
  induction d with
  | zero =>
    intro j hd hj
    have ej : j = m.length := by omega
    subst ej
    have h := b1 m.length (Nat.le_refl _)
    have w := want_bd hwa.1 hwa.2 h.1 h.2
    have pb := prod_bd gi.1 gi.2 hxi.1 hxi.2
    by_cases hc : rd (steps m noise want s) i < 1000000
    · have hen := loudOf_enough g2 (show rd (steps m noise want s) i = loudOf want (rd (rd_L2 m i) i) (heard (rd_L2 m i) (steps m noise want s) noise i m.length) from hst.symm.trans e) hc
      refine ev_unroll ?_
      simp (disch := omega) only [laws_FnLouder.l2, ↓if_pos, ↓if_neg, if_pos, if_neg, ↓reduceIte, w64, in_t, in_f, l1In_t, l1In_f, Option.bind_some, Bool.not_true, Bool.not_false, Bool.false_eq_true, tmod_nonneg, tdiv_nonneg]
      exact H
    · refine ev_unroll ?_
      simp (disch := omega) only [laws_FnLouder.l2, ↓if_pos, ↓if_neg, if_pos, if_neg, ↓reduceIte, w64, in_t, in_f, l1In_t, l1In_f, Option.bind_some, Bool.not_true, Bool.not_false, Bool.false_eq_true, tmod_nonneg, tdiv_nonneg]
      exact H
  | succ d ih =>
    intro j hd hj
    have p := ih (j + 1) (by omega) (by omega)
    have h := b1 j hj
    have hxj := hb j (by omega) (by omega)
    have gj := g3 j (by omega) (by omega)
    have pb := prod_bd gj.1 gj.2 hxj.1 hxj.2
    simp only [heard] at p
    by_cases hc : (j : Int) = i
    · rw [if_pos hc] at p
      refine ev_unroll ?_
      simp (disch := omega) only [laws_FnLouder.l2, ↓if_pos, ↓if_neg, if_pos, if_neg, ↓reduceIte, w64, in_t, in_f, l1In_t, l1In_f, Option.bind_some, Bool.not_true, Bool.not_false, Bool.false_eq_true, tmod_nonneg, tdiv_nonneg]
      exact p
    · rw [if_neg hc] at p
      refine ev_unroll ?_
      simp (disch := omega) only [laws_FnLouder.l2, ↓if_pos, ↓if_neg, if_pos, if_neg, ↓reduceIte, w64, in_t, in_f, l1In_t, l1In_f, Option.bind_some, Bool.not_true, Bool.not_false, Bool.false_eq_true, tmod_nonneg, tdiv_nonneg]
      exact p
theorem law_l1f (x : List Int) (i : Int) : Ev (fun k => laws_FnLouder.l1 k m noise want x false i) true := by
  refine ev_unroll ?_
  simp only [laws_FnLouder.l1, ite_self]
  refine ev_unroll ?_
  simp only [laws_FnLouder.j4, Bool.false_eq_true, ↓reduceIte]
  exact Ev.now _
theorem law_l1 (s : Nat) (hst : ∀ j : Int, 0 ≤ j → j < (m.length : Int) → rd (steps m noise want (s + 1)) j = rd (steps m noise want s) j) : ∀ (d : Nat) (i : Int), (m.length : Int) - i ≤ d → 0 ≤ i →
    Ev (fun k => laws_FnLouder.l1 k m noise want (steps m noise want s) true i) true := by
  have hl := steps_length m noise want s
  have last : ∀ i : Int, (m.length : Int) ≤ i → Ev (fun k => laws_FnLouder.l1 k m noise want (steps m noise want s) true i) true := by
    intro i hi
    refine ev_unroll ?_
    simp (disch := omega) only [laws_FnLouder.l1, ↓if_pos, ↓if_neg, if_pos, if_neg, ↓reduceIte, w64, in_t, in_f, l1In_t, l1In_f, Option.bind_some, Bool.not_true, Bool.not_false, Bool.false_eq_true, tmod_nonneg, tdiv_nonneg]
    refine ev_unroll ?_
    simp only [laws_FnLouder.j4, Bool.false_eq_true, ↓reduceIte]
    exact Ev.now _
  intro d
  induction d with
  | zero => exact fun i hd i0 => last i (by omega)
  | succ d ih =>
    intro i hd i0
    by_cases hi : i < (m.length : Int)
    · have p := law_l2 m hm hG noise want hno hwa s true i i0 hi (hst i i0 hi) (ih (i + 1) (by omega) (by omega)) m.length 0 (by omega) (by omega)
      simp only [heard] at p
      refine ev_unroll ?_
      simp (disch := omega) only [laws_FnLouder.l1, ↓if_pos, ↓if_neg, if_pos, if_neg, ↓reduceIte, w64, in_t, in_f, l1In_t, l1In_f, Option.bind_some, Bool.not_true, Bool.not_false, Bool.false_eq_true, tmod_nonneg, tdiv_nonneg]
      refine ev_unroll ?_
      simp only [laws_FnLouder.j4, ↓reduceIte]
      exact p
    · exact last i (by omega)
theorem law_l0 (s : Nat) : ∀ (d : Nat) (i : Int) (still : Bool), (m.length : Int) - i ≤ d → 0 ≤ i → (still = true → ∀ j : Int, 0 ≤ j → j < i → j < (m.length : Int) → rd (steps m noise want (s + 1)) j = rd (steps m noise want s) j) →
    Ev (fun k => laws_FnLouder.l0 k m noise want (steps m noise want s) (steps m noise want (s + 1)) still i) true := by
  have hl := steps_length m noise want s
  have hl2 := steps_length m noise want (s + 1)
  have last : ∀ (i : Int) (still : Bool), (m.length : Int) ≤ i → (still = true → ∀ j : Int, 0 ≤ j → j < i → j < (m.length : Int) → rd (steps m noise want (s + 1)) j = rd (steps m noise want s) j) →
      Ev (fun k => laws_FnLouder.l0 k m noise want (steps m noise want s) (steps m noise want (s + 1)) still i) true := by
    intro i still hi hs
    refine ev_unroll ?_
    simp (disch := omega) only [laws_FnLouder.l0, ↓if_pos, ↓if_neg, if_pos, if_neg, ↓reduceIte, w64, in_t, in_f, l1In_t, l1In_f, Option.bind_some, Bool.not_true, Bool.not_false, Bool.false_eq_true, tmod_nonneg, tdiv_nonneg]
    cases still with
    | false => exact law_l1f m hm hG noise want hno hwa _ 0
    | true => exact law_l1 m hm hG noise want hno hwa s (fun j j0 j1 => hs rfl j j0 (by omega) j1) m.length 0 (by omega) (by omega)
  intro d
  induction d with
  | zero => exact fun i still hd i0 hs => last i still (by omega) hs
  | succ d ih =>
    intro i still hd i0 hs
    by_cases hi : i < (m.length : Int)
    · have hmo := steps_mono m hm hG noise want hno hwa s i i0 hi
      have hb := steps_bd m hm hG noise want hno hwa s i i0 hi
      have hb2 := steps_bd m hm hG noise want hno hwa (s + 1) i i0 hi
      refine ev_unroll ?_
      cases still with
      | false =>
        have p := ih (i + 1) false (by omega) (by omega) (fun h => by simp at h)
        simp (disch := omega) only [laws_FnLouder.l0, ↓if_pos, ↓if_neg, if_pos, if_neg, ↓reduceIte, w64, in_t, in_f, l1In_t, l1In_f, Option.bind_some, Bool.not_true, Bool.not_false, Bool.false_eq_true, tmod_nonneg, tdiv_nonneg]
        exact p
      | true =>
        have p := ih (i + 1) (rd (steps m noise want (s + 1)) i == rd (steps m noise want s) i) (by omega) (by omega) (fun h j j0 j1 j2 => by
          by_cases e : j = i
          · rw [e]; exact beq_iff_eq.mp h
          · exact hs rfl j j0 (by omega) j2)
        simp (disch := omega) only [laws_FnLouder.l0, ↓if_pos, ↓if_neg, if_pos, if_neg, ↓reduceIte, w64, in_t, in_f, l1In_t, l1In_f, Option.bind_some, Bool.not_true, Bool.not_false, Bool.false_eq_true, tmod_nonneg, tdiv_nonneg]
        exact p
    · exact last i still (by omega) hs
end
theorem loud_any (m : List (List Int)) (hn : m.length ≤ 5) (noise want st : Int) : ∃ r : List Int × Bool, Ev (fun k => impl_Loudness.f k m noise want st) r := by
  by_cases h : LOk m noise want st
  · exact ⟨_, (loud_t m noise want st h).2⟩
  · exact ⟨_, (loud_f m (by omega) noise want st h).2⟩
theorem FnLouder : laws_FnLouder.Pure := by
  intro l0 _ _ hw
  refine Ev.rounds (g := fun k => laws_FnLouder.f k l0) ?_
  simp only [laws_FnLouder.f, laws_big.f, Option.bind_some, decide_eq_true_eq]
  by_cases hb : (l0.length : Int) > 1048576
  · simp only [if_pos hb]
    exact Ev.now _
  simp only [if_neg hb]
  obtain ⟨⟨m, noise, want, st⟩, ⟨hm, hst⟩, hd⟩ := drawLoud_ev l0 (by omega)
  simp only at hm hst
  refine Ev.bind hd ?_
  simp only
  by_cases h : LOk m noise want st
  · obtain ⟨hs, hi⟩ := loud_t m noise want st h
    refine Ev.bind hi (Ev.bind hs ?_)
    simp only [bne_self_eq_false, Bool.false_eq_true, ↓reduceIte]
    refine Ev.bind small_ev ?_
    simp only [↓reduceIte]
    refine Ev.bind (sameInts_ev [5] [5] (by simp)) ?_
    simp only [decide_true, Bool.not_true]
    refine ev_unroll ?_
    simp only [laws_FnLouder.j0, Bool.false_eq_true, ↓reduceIte]
    rw [w64 (x := st + 1) (by omega) (by omega)]
    by_cases h2 : LOk m noise want (st + 1)
    · refine Ev.bind (loud_t m noise want (st + 1) h2).2 ?_
      simp only [Bool.not_true]
      refine ev_unroll ?_
      simp only [laws_FnLouder.j1, Bool.false_eq_true, ↓reduceIte]
      obtain ⟨⟨hG, hm1⟩, hno, hwa, hs1⟩ := h
      have es : (st + 1).toNat = st.toNat + 1 := by omega
      rw [es]
      exact law_l0 m hm1 hG noise want hno hwa st.toNat m.length 0 _ (by omega) (by omega) (fun _ j j0 j1 => by omega)
    · refine Ev.bind (loud_f m (by omega) noise want (st + 1) h2).2 ?_
      simp only [Bool.not_false]
      refine ev_unroll ?_
      simp only [laws_FnLouder.j1, ↓reduceIte]
      exact Ev.now _
  · obtain ⟨hs, hi⟩ := loud_f m (by omega) noise want st h
    refine Ev.bind hi (Ev.bind hs ?_)
    simp only [bne_self_eq_false, Bool.false_eq_true, ↓reduceIte]
    refine Ev.bind small_ev ?_
    simp only [↓reduceIte]
    refine Ev.bind (sameInts_ev [5] [5] (by simp)) ?_
    simp only [decide_true, Bool.not_true]
    refine ev_unroll ?_
    simp only [laws_FnLouder.j0, Bool.false_eq_true, ↓reduceIte]
    obtain ⟨⟨y, ok⟩, p⟩ := loud_any m hm noise want (wrap64 (st + 1))
    refine Ev.bind p ?_
    refine ev_unroll ?_
    simp only [laws_FnLouder.j1, ↓reduceIte]
    exact Ev.now _

end Go.Proofs.Ythhbeekokbcnfaa.Pure
