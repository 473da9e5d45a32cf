/- The law FnExactLoudness: for all gains the program's Loudness and the reference's tell the same, the gains stay as they were, and what is told is a list of its own. -/
import Derived.Test.YthhbeekokbcnfaaMFnExactLoudnessx6
import Derived.Test.YthhbeekokbcnfaaKit
namespace Go.Proofs.Ythhbeekokbcnfaa.Pure
set_option linter.unusedSimpArgs false
set_option linter.unusedVariables false
set_option linter.unusedSectionVars false
open Go Go.RowKit Go.Proofs.Ythhbeekokbcnfaa.MFnExactLoudness Go.Proofs.YthhbeekokbcnfaaW.PrintWords Go.Proofs.YthhbeekokbcnfaaW.PrintLast Go.Proofs.Ythhbeekokbcnfaa.Mine

theorem toIntS_ev (x0 : List Int) (hn : x0.length ≤ 1048576) : Ev (fun k => laws_toIntS.f k x0) x0 := by
  have key : ∀ (d : Nat) (x3 : List Int) (i : Nat), x0.length - i = d → i ≤ x0.length → x3.length = x0.length → x3.take i = x0.take i → Ev (fun k => laws_toIntS.l0 k x0 x3 (i : Int)) x0 := by
    intro d
    induction d with
    | zero =>
      intro x3 i hd hi hl ht
      have e : x3 = x0 := by
        have h : i = x0.length := by omega
        rw [h, List.take_length, ← hl, List.take_length] at ht
        exact ht
      subst e
      refine ev_unroll ?_
      simp (disch := omega) only [laws_toIntS.l0, ↓if_neg]
      exact Ev.now _
    | succ d ih =>
      intro x3 i hd hi hl ht
      refine ev_unroll ?_
      simp (disch := omega) only [laws_toIntS.l0, ↓if_pos, w64]
      have h := ih (x3.set i (rd x0 i)) (i + 1) (by omega) (by omega) (by simp [hl]) (by rw [rd_nat]; exact take_set_succ 0 hl ht (by omega))
      simpa using h
  have h := key _ (List.replicate x0.length 0) 0 rfl (by omega) (by simp) (by simp)
  simp (disch := omega) only [laws_toIntS.f, ↓if_pos]
  simpa using h
theorem eqIntS_ev (x0 : List Int) (hn : x0.length ≤ 1048576) : Ev (fun k => laws_eqIntS.f k x0 x0) true := by
  have key : ∀ (d : Nat) (i : Nat), x0.length - i = d → i ≤ x0.length → Ev (fun k => laws_eqIntS.l0 k x0 x0 (i : Int)) true := by
    intro d
    induction d with
    | zero =>
      intro i hd hi
      refine ev_unroll ?_
      simp (disch := omega) only [laws_eqIntS.l0, ↓if_neg]
      exact Ev.now _
    | succ d ih =>
      intro i hd hi
      refine ev_unroll ?_
      simp (disch := omega) only [laws_eqIntS.l0, ↓if_pos, w64]
      have h := ih (i + 1) (by omega) (by omega)
      simpa using h
  have h := key _ 0 rfl (by omega)
  simp (disch := omega) only [laws_eqIntS.f, ↓if_pos]
  simpa using h
/-- What a marked list holds. -/
def marks (m : Int) (n : Nat) : List Int := (List.range n).map fun (j : Nat) => m + (j : Int)
theorem marks_length (m : Int) (n : Nat) : (marks m n).length = n := by simp [marks]
theorem rd_marks (m : Int) (n i : Nat) (h : i < n) : rd (marks m n) (i : Int) = m + i := by simp [rd, marks, h]
theorem markIntS_ev (x0 : List Int) (m : Int) (hm : 0 ≤ m) (hm2 : m ≤ 1000000000) (hn : x0.length ≤ 1048576) : Ev (fun k => laws_markIntS.f k x0 m) ((m + x0.length : Int), marks m x0.length) := by
  have key : ∀ (d : Nat) (y : List Int) (i : Nat), x0.length - i = d → i ≤ x0.length → y.length = x0.length → y.take i = (marks m x0.length).take i → Ev (fun k => laws_markIntS.l0 k y (m + (i : Int)) (i : Int)) ((m + x0.length : Int), marks m x0.length) := by
    intro d
    induction d with
    | zero =>
      intro y i hd hi hl ht
      have h : i = x0.length := by omega
      have e : y = marks m x0.length := by
        have h2 := ht
        rw [List.take_of_length_le (by omega), List.take_of_length_le (by rw [marks_length]; omega)] at h2
        exact h2
      refine ev_unroll ?_
      simp (disch := omega) only [laws_markIntS.l0, ↓if_neg]
      rw [h, e]
      exact Ev.now _
    | succ d ih =>
      intro y i hd hi hl ht
      refine ev_unroll ?_
      simp (disch := omega) only [laws_markIntS.l0, ↓if_pos, w64]
      have h := ih (y.set i (m + (i : Int))) (i + 1) (by omega) (by omega) (by simp [hl]) (by
        have h2 := take_set_succ (l := y) (m := marks m x0.length) 0 (by rw [marks_length]; exact hl) ht (by rw [marks_length]; omega)
        rw [show (marks m x0.length).getD i 0 = m + (i : Int) from by rw [← rd_nat, rd_marks _ _ _ (by omega)]] at h2
        exact h2)
      rw [show (m + (i : Int) + 1) = m + ((i + 1 : Nat) : Int) from by omega, show ((i : Int) + 1) = ((i + 1 : Nat) : Int) from by omega]
      simpa using h
  have h := key _ x0 0 rfl (by omega) rfl (by simp)
  simp only [laws_markIntS.f]
  simpa using h
theorem heldIntS_ev (n : Nat) (m : Int) (hm : 0 ≤ m) (hm2 : m ≤ 1000000000) (hn : n ≤ 1048576) : Ev (fun k => laws_heldIntS.f k (marks m n) m) (m + n : Int) := by
  have key : ∀ (d : Nat) (i : Nat), n - i = d → i ≤ n → Ev (fun k => laws_heldIntS.l0 k (marks m n) (m + (i : Int)) (i : Int)) (m + n : Int) := by
    intro d
    induction d with
    | zero =>
      intro i hd hi
      have h : i = n := by omega
      have hl := marks_length m n
      refine ev_unroll ?_
      simp (disch := omega) only [laws_heldIntS.l0, ↓if_neg]
      rw [h]
      exact Ev.now _
    | succ d ih =>
      intro i hd hi
      have hl := marks_length m n
      have hr := rd_marks m n i (by omega)
      refine ev_unroll ?_
      simp (disch := omega) only [laws_heldIntS.l0, ↓if_pos, w64]
      have h := ih (i + 1) (by omega) (by omega)
      rw [show (m + (i : Int) + 1) = m + ((i + 1 : Nat) : Int) from by omega, show ((i : Int) + 1) = ((i + 1 : Nat) : Int) from by omega]
      exact h
  have h := key _ 0 rfl (by omega)
  simp only [laws_heldIntS.f]
  simpa using h
theorem in_t {a b c : Int} (h : b ≤ a) (h2 : a ≤ c) : impl_in.f a b c = some true := by
  unfold impl_in.f
  rw [if_pos (by omega)]; simp [h2]
theorem in_f {a b c : Int} (h : ¬ (b ≤ a ∧ a ≤ c)) : impl_in.f a b c = some false := by
  unfold impl_in.f
  by_cases g : a ≥ b
  · rw [if_pos g]; simp; omega
  · rw [if_neg g]
theorem l1In_t {a b c : Int} (h : b ≤ a) (h2 : a ≤ c) : spec_l1In.f a b c = some true := by
  unfold spec_l1In.f
  rw [if_pos (by omega)]; simp [h2]
theorem l1In_f {a b c : Int} (h : ¬ (b ≤ a ∧ a ≤ c)) : spec_l1In.f a b c = some false := by
  unfold spec_l1In.f
  by_cases g : a ≥ b
  · rw [if_pos g]; simp; omega
  · rw [if_neg g]
theorem rdL_mem {xs : List (List Int)} {i : Int} (h0 : 0 ≤ i) (h1 : i < (xs.length : Int)) : rd_L1 xs i ∈ xs := by
  have h : i.toNat < xs.length := by omega
  have e : rd_L1 xs i = xs[i.toNat] := by simp [rd_L1, h]
  rw [e]; exact List.getElem_mem h
theorem rdL_nil {xs : List (List Int)} {i : Int} (h1 : (xs.length : Int) ≤ i) : rd_L1 xs i = [] := by
  simp only [rd_L1, List.getD_eq_getElem?_getD]
  rw [List.getElem?_eq_none (by omega)]
  rfl
theorem rdL_le {xs : List (List Int)} {n : Nat} (h : ∀ x ∈ xs, x.length ≤ n) (i : Int) (h0 : 0 ≤ i) : (rd_L1 xs i).length ≤ n := by
  by_cases h1 : i < (xs.length : Int)
  · exact h _ (rdL_mem h0 h1)
  · rw [rdL_nil (by omega)]; exact Nat.zero_le _
/-- What a station hears beside itself: the noise, and of the first k stations all but itself. -/
def heard (row x : List Int) (noise i : Int) : Nat → Int
  | 0 => noise
  | k + 1 => if (k : Int) = i then heard row x noise i k else heard row x noise i k + rd row (k : Int) * rd x (k : Int)
theorem prod_bd {a b : Int} (a0 : 0 ≤ a) (a1 : a ≤ 1000) (b0 : 1 ≤ b) (b1 : b ≤ 1000000) : 0 ≤ a * b ∧ a * b ≤ 1000000000 := by
  have h1 : 0 ≤ a * b := Int.mul_nonneg a0 (by omega)
  have h2 : a * b ≤ 1000 * b := Int.mul_le_mul_of_nonneg_right a1 (by omega)
  omega
theorem heard_bd {row x : List Int} {noise i : Int} (n0 : 1 ≤ noise) (n1 : noise ≤ 1000) : ∀ k : Nat, (∀ j : Int, 0 ≤ j → j < (k : Int) → 0 ≤ rd row j ∧ rd row j ≤ 1000) → (∀ j : Int, 0 ≤ j → j < (k : Int) → 1 ≤ rd x j ∧ rd x j ≤ 1000000) →
    1 ≤ heard row x noise i k ∧ heard row x noise i k ≤ 1000 + 1000000000 * (k : Int) := by
  intro k
  induction k with
  | zero => intro _ _; simp only [heard]; omega
  | succ k ih =>
    intro hr hx
    have h := ih (fun j j0 j1 => hr j j0 (by omega)) (fun j j0 j1 => hx j j0 (by omega))
    have r := hr k (by omega) (by omega)
    have y := hx k (by omega) (by omega)
    have p := prod_bd r.1 r.2 y.1 y.2
    simp only [heard]
    split <;> omega
theorem heard_mono {row x y : List Int} {noise i : Int} : ∀ k : Nat, (∀ j : Int, 0 ≤ j → j < (k : Int) → 0 ≤ rd row j) → (∀ j : Int, 0 ≤ j → j < (k : Int) → rd x j ≤ rd y j) → heard row x noise i k ≤ heard row y noise i k := by
  intro k
  induction k with
  | zero => intro _ _; simp only [heard]; omega
  | succ k ih =>
    intro hr hx
    have h := ih (fun j j0 j1 => hr j j0 (by omega)) (fun j j0 j1 => hx j j0 (by omega))
    have p : rd row (k : Int) * rd x (k : Int) ≤ rd row (k : Int) * rd y (k : Int) := Int.mul_le_mul_of_nonneg_left (hx k (by omega) (by omega)) (hr k (by omega) (by omega))
    simp only [heard]
    split <;> omega
/-- How loud a station is to be that hears s, its own gain being g. -/
def loudOf (want g s : Int) : Int := if (want * s + g - 1) / g > 1000000 then 1000000 else (want * s + g - 1) / g
theorem want_bd {want s : Int} (w0 : 1 ≤ want) (w1 : want ≤ 100) (s0 : 1 ≤ s) (s1 : s ≤ 13000000000) : 1 ≤ want * s ∧ want * s ≤ 1300000000000 := by
  have h1 : 1 * s ≤ want * s := Int.mul_le_mul_of_nonneg_right w0 (by omega)
  have h2 : want * s ≤ 100 * s := Int.mul_le_mul_of_nonneg_right w1 (by omega)
  omega
theorem div_bd {a g : Int} (h1 : 1 ≤ a) (g0 : 1 ≤ g) : 1 ≤ (a + g - 1) / g ∧ (a + g - 1) / g ≤ a + g - 1 := by
  refine ⟨?_, ?_⟩
  · rw [Int.le_ediv_iff_mul_le (by omega)]; omega
  · exact Int.ediv_le_self _ (by omega)
theorem loudOf_bd {want g s : Int} (h : 1 ≤ want * s) (g0 : 1 ≤ g) : 1 ≤ loudOf want g s ∧ loudOf want g s ≤ 1000000 := by
  have := div_bd h g0
  unfold loudOf
  split <;> omega
theorem loudOf_mono {want g s t : Int} (h : want * s ≤ want * t) (g0 : 1 ≤ g) : loudOf want g s ≤ loudOf want g t := by
  have h2 : (want * s + g - 1) / g ≤ (want * t + g - 1) / g := Int.ediv_le_ediv (by omega) (by omega)
  unfold loudOf
  split <;> split <;> omega
theorem loudOf_enough {want g s x : Int} (g0 : 1 ≤ g) (h : x = loudOf want g s) (hx : x < 1000000) : want * s ≤ g * x := by
  unfold loudOf at h
  split at h
  · omega
  · have h1 : want * s + g - 1 < ((want * s + g - 1) / g + 1) * g := Int.lt_ediv_add_one_mul_self _ (by omega)
    rw [← h, Int.add_mul, Int.one_mul, Int.mul_comm x g] at h1
    omega
/-- One step of all stations. -/
def stepAll (m : List (List Int)) (noise want : Int) (x : List Int) : List Int := (List.range m.length).map fun (i : Nat) => loudOf want (rd (rd_L1 m (i : Int)) (i : Int)) (heard (rd_L1 m (i : Int)) x noise (i : Int) m.length)
theorem stepAll_length (m : List (List Int)) (noise want : Int) (x : List Int) : (stepAll m noise want x).length = m.length := by simp [stepAll]
theorem rd_stepAll (m : List (List Int)) (noise want : Int) (x : List Int) {i : Nat} (h : i < m.length) : rd (stepAll m noise want x) (i : Int) = loudOf want (rd (rd_L1 m (i : Int)) (i : Int)) (heard (rd_L1 m (i : Int)) x noise (i : Int) m.length) := by
  simp [rd, stepAll, h]
def steps (m : List (List Int)) (noise want : Int) : Nat → List Int
  | 0 => List.replicate m.length 1
  | s + 1 => stepAll m noise want (steps m noise want s)
theorem steps_length (m : List (List Int)) (noise want : Int) : ∀ s, (steps m noise want s).length = m.length := by
  intro s
  cases s with
  | zero => simp [steps]
  | succ s => simp [steps, stepAll_length]
/-- Gains as they may be. -/
def Gains (m : List (List Int)) : Prop := ∀ i : Int, 0 ≤ i → i < (m.length : Int) → ((rd_L1 m i).length : Int) = (m.length : Int) ∧ 1 ≤ rd (rd_L1 m i) i ∧ ∀ j : Int, 0 ≤ j → j < (m.length : Int) → 0 ≤ rd (rd_L1 m i) j ∧ rd (rd_L1 m i) j ≤ 1000
theorem rd_one {n : Nat} {i : Int} (h0 : 0 ≤ i) (h1 : i < (n : Int)) : rd (List.replicate n (1 : Int)) i = 1 := by
  have h : i.toNat < n := by omega
  simp [rd, h]
section
variable (m : List (List Int)) (hm : 1 ≤ m.length ∧ m.length ≤ 12) (hG : Gains m) (noise want : Int) (hno : 1 ≤ noise ∧ noise ≤ 1000) (hwa : 1 ≤ want ∧ want ≤ 100)
include hm hG hno hwa
theorem step_bd (x : List Int) (hx : ∀ j : Int, 0 ≤ j → j < (m.length : Int) → 1 ≤ rd x j ∧ rd x j ≤ 1000000) (i : Nat) (hi : i < m.length) :
    (∀ k : Nat, k ≤ m.length → 1 ≤ heard (rd_L1 m (i : Int)) x noise (i : Int) k ∧ heard (rd_L1 m (i : Int)) x noise (i : Int) k ≤ 13000000000) ∧ 1 ≤ rd (stepAll m noise want x) (i : Int) ∧ rd (stepAll m noise want x) (i : Int) ≤ 1000000 := by
  obtain ⟨g1, g2, g3⟩ := hG i (by omega) (by omega)
  have hh : ∀ k : Nat, k ≤ m.length → 1 ≤ heard (rd_L1 m (i : Int)) x noise (i : Int) k ∧ heard (rd_L1 m (i : Int)) x noise (i : Int) k ≤ 13000000000 := by
    intro k hk
    have h := heard_bd (row := rd_L1 m (i : Int)) (x := x) (i := (i : Int)) hno.1 hno.2 k (fun j j0 j1 => g3 j j0 (by omega)) (fun j j0 j1 => hx j j0 (by omega))
    omega
  refine ⟨hh, ?_⟩
  have h := hh m.length (Nat.le_refl _)
  have w := want_bd hwa.1 hwa.2 h.1 h.2
  rw [rd_stepAll m noise want x hi]
  exact loudOf_bd w.1 g2
theorem steps_bd : ∀ s : Nat, ∀ j : Int, 0 ≤ j → j < (m.length : Int) → 1 ≤ rd (steps m noise want s) j ∧ rd (steps m noise want s) j ≤ 1000000 := by
  intro s
  induction s with
  | zero =>
    intro j j0 j1
    simp only [steps]
    rw [rd_one j0 j1]
    omega
  | succ s ih =>
    intro j j0 j1
    have h := (step_bd m hm hG noise want hno hwa _ ih j.toNat (by omega)).2
    rw [Int.toNat_of_nonneg j0] at h
    exact h
theorem steps_mono : ∀ s : Nat, ∀ j : Int, 0 ≤ j → j < (m.length : Int) → rd (steps m noise want s) j ≤ rd (steps m noise want (s + 1)) j := by
  intro s
  induction s with
  | zero =>
    intro j j0 j1
    have h := steps_bd m hm hG noise want hno hwa 1 j j0 j1
    have e : rd (steps m noise want 0) j = 1 := by simp only [steps]; exact rd_one j0 j1
    show rd (steps m noise want 0) j ≤ rd (steps m noise want 1) j
    omega
  | succ s ih =>
    intro j j0 j1
    have hj : j.toNat < m.length := by omega
    have ej : ((j.toNat : Nat) : Int) = j := Int.toNat_of_nonneg j0
    obtain ⟨g1, g2, g3⟩ := hG j j0 j1
    have e1 := rd_stepAll m noise want (steps m noise want s) hj
    have e2 := rd_stepAll m noise want (steps m noise want (s + 1)) hj
    rw [ej] at e1 e2
    show rd (stepAll m noise want (steps m noise want s)) j ≤ rd (stepAll m noise want (steps m noise want (s + 1))) j
    rw [e1, e2]
    refine loudOf_mono ?_ g2
    exact Int.mul_le_mul_of_nonneg_left (heard_mono m.length (fun k k0 k1 => (g3 k k0 k1).1) (fun k k0 k1 => ih k k0 k1)) (by omega)
/-- The reference's inner loop. -/
theorem spec_l3 (st now : Int) (x acc : List Int) (hl : x.length = m.length) (hx : ∀ j : Int, 0 ≤ j → j < (m.length : Int) → 1 ≤ rd x j ∧ rd x j ≤ 1000000) (i : Nat) (hi : i < m.length) (ha : acc.length = i) (r : List Int × Bool)
    (H : Ev (fun k => spec_Loudness.l2 k m noise want st x now (acc ++ [rd (stepAll m noise want x) (i : Int)]) ((i : Int) + 1)) r) : ∀ (d j : Nat), m.length - j = d → j ≤ m.length →
    Ev (fun k => spec_Loudness.l3 k m noise want st x now acc (i : Int) (heard (rd_L1 m (i : Int)) x noise (i : Int) j) (j : Int)) r := by
  obtain ⟨g1, g2, g3⟩ := hG i (by omega) (by omega)
  obtain ⟨b1, b2⟩ := step_bd m hm hG noise want hno hwa x hx i hi
  intro d
  induction d with
  | zero =>
    intro j hd hj
    have ej : j = m.length := by omega
    subst ej
    have h := b1 m.length (Nat.le_refl _)
    have w := want_bd hwa.1 hwa.2 h.1 h.2
    have dv := div_bd w.1 g2
    have gi := g3 i (by omega) (by omega)
    have e := rd_stepAll m noise want x hi
    unfold loudOf at e
    by_cases hc : (want * heard (rd_L1 m (i : Int)) x noise (i : Int) m.length + rd (rd_L1 m (i : Int)) (i : Int) - 1) / rd (rd_L1 m (i : Int)) (i : Int) > 1000000
    · rw [if_pos hc] at e
      rw [e] at H
      refine ev_unroll ?_
      simp (disch := omega) only [spec_Loudness.l3, ↓if_pos, ↓if_neg, if_pos, if_neg, ↓reduceIte, w64, in_t, in_f, l1In_t, l1In_f, Option.bind_some, Bool.not_true, Bool.not_false, Bool.false_eq_true, tmod_nonneg, tdiv_nonneg]
      exact H
    · rw [if_neg hc] at e
      rw [e] at H
      refine ev_unroll ?_
      simp (disch := omega) only [spec_Loudness.l3, ↓if_pos, ↓if_neg, if_pos, if_neg, ↓reduceIte, w64, in_t, in_f, l1In_t, l1In_f, Option.bind_some, Bool.not_true, Bool.not_false, Bool.false_eq_true, tmod_nonneg, tdiv_nonneg]
      exact H
  | succ d ih =>
    intro j hd hj
    have p := ih (j + 1) (by omega) (by omega)
    have h := b1 j hj
    have hxj := hx j (by omega) (by omega)
    have gj := g3 j (by omega) (by omega)
    have pb := prod_bd gj.1 gj.2 hxj.1 hxj.2
    simp only [heard] at p
    by_cases hc : (j : Int) = (i : Int)
    · rw [if_pos hc] at p
      refine ev_unroll ?_
      simp (disch := omega) only [spec_Loudness.l3, ↓if_pos, ↓if_neg, if_pos, if_neg, ↓reduceIte, w64, in_t, in_f, l1In_t, l1In_f, Option.bind_some, Bool.not_true, Bool.not_false, Bool.false_eq_true, tmod_nonneg, tdiv_nonneg]
      exact p
    · rw [if_neg hc] at p
      refine ev_unroll ?_
      simp (disch := omega) only [spec_Loudness.l3, ↓if_pos, ↓if_neg, if_pos, if_neg, ↓reduceIte, w64, in_t, in_f, l1In_t, l1In_f, Option.bind_some, Bool.not_true, Bool.not_false, Bool.false_eq_true, tmod_nonneg, tdiv_nonneg]
      exact p
theorem impl_l4 (st cnt : Int) (x acc : List Int) (hl : x.length = m.length) (hx : ∀ j : Int, 0 ≤ j → j < (m.length : Int) → 1 ≤ rd x j ∧ rd x j ≤ 1000000) (i : Nat) (hi : i < m.length) (ha : acc.length = m.length) (r : List Int × Bool)
    (H : Ev (fun k => impl_Loudness.l3 k m noise want (m.length : Int) x (acc.set i (rd (stepAll m noise want x) (i : Int))) st cnt m (m.length : Int) ((i : Int) + 1)) r) : ∀ (d j : Nat), m.length - j = d → j ≤ m.length →
    Ev (fun k => impl_Loudness.l4 k m noise want (m.length : Int) x acc (i : Int) (rd_L1 m (i : Int)) (heard (rd_L1 m (i : Int)) x noise (i : Int) j) st cnt m (m.length : Int) (i : Int) (rd_L1 m (i : Int)) (m.length : Int) (j : Int)) r := by
  obtain ⟨g1, g2, g3⟩ := hG i (by omega) (by omega)
  obtain ⟨b1, b2⟩ := step_bd m hm hG noise want hno hwa x hx i hi
  intro d
  induction d with
  | zero =>
    intro j hd hj
    have ej : j = m.length := by omega
    subst ej
    have h := b1 m.length (Nat.le_refl _)
    have w := want_bd hwa.1 hwa.2 h.1 h.2
    have dv := div_bd w.1 g2
    have gi := g3 i (by omega) (by omega)
    have e := rd_stepAll m noise want x hi
    have en : impl_nearer.f ((want * heard (rd_L1 m (i : Int)) x noise (i : Int) m.length + rd (rd_L1 m (i : Int)) (i : Int) - 1) / rd (rd_L1 m (i : Int)) (i : Int)) 1 1000000 = some (rd (stepAll m noise want x) (i : Int)) := by
      rw [e]
      unfold impl_nearer.f loudOf mn mx
      congr 1
      split <;> split <;> (try split) <;> omega
    refine ev_unroll ?_
    simp (disch := omega) only [impl_Loudness.l4, en, Int.toNat_natCast, ↓if_pos, ↓if_neg, if_pos, if_neg, ↓reduceIte, w64, in_t, in_f, l1In_t, l1In_f, Option.bind_some, Bool.not_true, Bool.not_false, Bool.false_eq_true, tmod_nonneg, tdiv_nonneg]
    exact H
  | succ d ih =>
    intro j hd hj
    have p := ih (j + 1) (by omega) (by omega)
    have h := b1 j hj
    have hxj := hx j (by omega) (by omega)
    have gj := g3 j (by omega) (by omega)
    have pb := prod_bd gj.1 gj.2 hxj.1 hxj.2
    simp only [heard] at p
    by_cases hc : (j : Int) = (i : Int)
    · rw [if_pos hc] at p
      refine ev_unroll ?_
      simp (disch := omega) only [impl_Loudness.l4, ↓if_pos, ↓if_neg, if_pos, if_neg, ↓reduceIte, w64, in_t, in_f, l1In_t, l1In_f, Option.bind_some, Bool.not_true, Bool.not_false, Bool.false_eq_true, tmod_nonneg, tdiv_nonneg]
      exact p
    · rw [if_neg hc] at p
      refine ev_unroll ?_
      simp (disch := omega) only [impl_Loudness.l4, ↓if_pos, ↓if_neg, if_pos, if_neg, ↓reduceIte, w64, in_t, in_f, l1In_t, l1In_f, Option.bind_some, Bool.not_true, Bool.not_false, Bool.false_eq_true, tmod_nonneg, tdiv_nonneg]
      exact p
theorem spec_l2 (st now : Int) (x : List Int) (hl : x.length = m.length) (hx : ∀ j : Int, 0 ≤ j → j < (m.length : Int) → 1 ≤ rd x j ∧ rd x j ≤ 1000000) (n0 : 0 ≤ now) (n1 : now ≤ 50) (r : List Int × Bool)
    (H : Ev (fun k => spec_Loudness.l1 k m noise want st (stepAll m noise want x) (now + 1)) r) : ∀ (d i : Nat), m.length - i = d → i ≤ m.length →
    Ev (fun k => spec_Loudness.l2 k m noise want st x now ((stepAll m noise want x).take i) (i : Int)) r := by
  intro d
  induction d with
  | zero =>
    intro i hd hi
    rw [List.take_of_length_le (by rw [stepAll_length]; omega)]
    refine ev_unroll ?_
    simp (disch := omega) only [spec_Loudness.l2, ↓if_pos, ↓if_neg, if_pos, if_neg, ↓reduceIte, w64, in_t, in_f, l1In_t, l1In_f, Option.bind_some, Bool.not_true, Bool.not_false, Bool.false_eq_true, tmod_nonneg, tdiv_nonneg]
    exact H
  | succ d ih =>
    intro i hd hi
    have p := ih (i + 1) (by omega) (by omega)
    rw [take_rd (by rw [stepAll_length]; omega)] at p
    have q := spec_l3 m hm hG noise want hno hwa st now x ((stepAll m noise want x).take i) hl hx i (by omega) (by rw [List.length_take, stepAll_length]; omega) r (by simpa using p) m.length 0 (by omega) (by omega)
    refine ev_unroll ?_
    simp (disch := omega) only [spec_Loudness.l2, ↓if_pos, ↓if_neg, if_pos, if_neg, ↓reduceIte, w64, in_t, in_f, l1In_t, l1In_f, Option.bind_some, Bool.not_true, Bool.not_false, Bool.false_eq_true, tmod_nonneg, tdiv_nonneg]
    exact q
theorem impl_l3 (st cnt : Int) (x : List Int) (hl : x.length = m.length) (hx : ∀ j : Int, 0 ≤ j → j < (m.length : Int) → 1 ≤ rd x j ∧ rd x j ≤ 1000000) (n0 : 0 ≤ cnt) (n1 : cnt ≤ 50) (r : List Int × Bool)
    (H : Ev (fun k => impl_Loudness.l2 k m noise want (m.length : Int) (stepAll m noise want x) st (cnt + 1)) r) : ∀ (d i : Nat) (acc : List Int), m.length - i = d → i ≤ m.length → acc.length = m.length → acc.take i = (stepAll m noise want x).take i →
    Ev (fun k => impl_Loudness.l3 k m noise want (m.length : Int) x acc st cnt m (m.length : Int) (i : Int)) r := by
  intro d
  induction d with
  | zero =>
    intro i acc hd hi ha ht
    rw [List.take_of_length_le (by omega), List.take_of_length_le (by rw [stepAll_length]; omega)] at ht
    subst ht
    refine ev_unroll ?_
    simp (disch := omega) only [impl_Loudness.l3, ↓if_pos, ↓if_neg, if_pos, if_neg, ↓reduceIte, w64, in_t, in_f, l1In_t, l1In_f, Option.bind_some, Bool.not_true, Bool.not_false, Bool.false_eq_true, tmod_nonneg, tdiv_nonneg]
    exact H
  | succ d ih =>
    intro i acc hd hi ha ht
    obtain ⟨g1, g2, g3⟩ := hG i (by omega) (by omega)
    have hs := take_set_succ (l := acc) (m := stepAll m noise want x) 0 (by rw [stepAll_length]; exact ha) ht (by rw [stepAll_length]; omega)
    rw [← rd_nat] at hs
    have p := ih (i + 1) _ (by omega) (by omega) (by simpa using ha) hs
    have q := impl_l4 m hm hG noise want hno hwa st cnt x acc hl hx i (by omega) ha r (by simpa using p) m.length 0 (by omega) (by omega)
    refine ev_unroll ?_
    simp (disch := omega) only [impl_Loudness.l3, ↓if_pos, ↓if_neg, if_pos, if_neg, ↓reduceIte, w64, in_t, in_f, l1In_t, l1In_f, Option.bind_some, Bool.not_true, Bool.not_false, Bool.false_eq_true, tmod_nonneg, tdiv_nonneg]
    rw [g1]
    exact q
theorem both_steps (st : Int) (s1 : st ≤ 50) : ∀ (d s : Nat), st - (s : Int) = d → Ev (fun k => spec_Loudness.l1 k m noise want st (steps m noise want s) (s : Int)) (steps m noise want st.toNat, true) ∧ Ev (fun k => impl_Loudness.l2 k m noise want (m.length : Int) (steps m noise want s) st (s : Int)) (steps m noise want st.toNat, true) := by
  intro d
  induction d with
  | zero =>
    intro s hd
    have e : st.toNat = s := by omega
    rw [e]
    refine ⟨ev_unroll ?_, ev_unroll ?_⟩
    · simp (disch := omega) only [spec_Loudness.l1, ↓if_pos, ↓if_neg, if_pos, if_neg, ↓reduceIte, w64, in_t, in_f, l1In_t, l1In_f, Option.bind_some, Bool.not_true, Bool.not_false, Bool.false_eq_true, tmod_nonneg, tdiv_nonneg]
      exact Ev.now _
    · simp (disch := omega) only [impl_Loudness.l2, ↓if_pos, ↓if_neg, if_pos, if_neg, ↓reduceIte, w64, in_t, in_f, l1In_t, l1In_f, Option.bind_some, Bool.not_true, Bool.not_false, Bool.false_eq_true, tmod_nonneg, tdiv_nonneg]
      exact Ev.now _
  | succ d ih =>
    intro s hd
    obtain ⟨p, q⟩ := ih (s + 1) (by omega)
    have hb := steps_bd m hm hG noise want hno hwa s
    have p2 := spec_l2 m hm hG noise want hno hwa st s (steps m noise want s) (steps_length m noise want s) hb (by omega) (by omega) _ (by simpa [steps] using p) m.length 0 (by omega) (by omega)
    have q2 := impl_l3 m hm hG noise want hno hwa st s (steps m noise want s) (steps_length m noise want s) hb (by omega) (by omega) _ (by simpa [steps] using q) m.length 0 (List.replicate m.length 0) (by omega) (by omega) (by simp) (by simp)
    refine ⟨ev_unroll ?_, ev_unroll ?_⟩
    · simp (disch := omega) only [spec_Loudness.l1, ↓if_pos, ↓if_neg, if_pos, if_neg, ↓reduceIte, w64, in_t, in_f, l1In_t, l1In_f, Option.bind_some, Bool.not_true, Bool.not_false, Bool.false_eq_true, tmod_nonneg, tdiv_nonneg]
      simpa using p2
    · simp (disch := omega) only [impl_Loudness.l2, Int.toNat_natCast, ↓if_pos, ↓if_neg, if_pos, if_neg, ↓reduceIte, w64, in_t, in_f, l1In_t, l1In_f, Option.bind_some, Bool.not_true, Bool.not_false, Bool.false_eq_true, tmod_nonneg, tdiv_nonneg]
      exact q2
end
section
variable (m : List (List Int)) (hn : m.length ≤ 1048576)
include hn
/-- One row of gains is as it may be. -/
def GRow (i : Int) : Prop := ((rd_L1 m i).length : Int) = (m.length : Int) ∧ 1 ≤ rd (rd_L1 m i) i ∧ ∀ j : Int, 0 ≤ j → j < (m.length : Int) → 0 ≤ rd (rd_L1 m i) j ∧ rd (rd_L1 m i) j ≤ 1000
theorem sgain_row (i : Int) (i0 : 0 ≤ i) (i1 : i < (m.length : Int)) (hl : ((rd_L1 m i).length : Int) = (m.length : Int)) : ∀ (d : Nat) (j : Int), (m.length : Int) - j ≤ d → 0 ≤ j → (∀ k : Int, 0 ≤ k → k < j → 0 ≤ rd (rd_L1 m i) k ∧ rd (rd_L1 m i) k ≤ 1000) →
    (GRow m i → ∀ b, Ev (fun k => spec_l16Gains.l0 k m (i + 1)) b → Ev (fun k => spec_l16Gains.l1 k m i j) b) ∧ (¬ GRow m i → Ev (fun k => spec_l16Gains.l1 k m i j) false) := by
  have last : ∀ j : Int, (m.length : Int) ≤ j → (∀ k : Int, 0 ≤ k → k < j → 0 ≤ rd (rd_L1 m i) k ∧ rd (rd_L1 m i) k ≤ 1000) →
      (GRow m i → ∀ b, Ev (fun k => spec_l16Gains.l0 k m (i + 1)) b → Ev (fun k => spec_l16Gains.l1 k m i j) b) ∧ (¬ GRow m i → Ev (fun k => spec_l16Gains.l1 k m i j) false) := by
    intro j hj hv
    refine ⟨fun h b hb => ev_unroll ?_, fun h => ev_unroll ?_⟩
    · have h1 := h.2.1
      simp (disch := omega) only [spec_l16Gains.l1, ↓if_pos, ↓if_neg, if_pos, if_neg, ↓reduceIte, w64, in_t, in_f, l1In_t, l1In_f, Option.bind_some, Bool.not_true, Bool.not_false, Bool.false_eq_true, tmod_nonneg, tdiv_nonneg]
      exact hb
    · have h1 : rd (rd_L1 m i) i < 1 := by
        by_cases h2 : rd (rd_L1 m i) i < 1
        · exact h2
        · exact absurd ⟨hl, by omega, fun k k0 k1 => hv k k0 (by omega)⟩ h
      simp (disch := omega) only [spec_l16Gains.l1, ↓if_pos, ↓if_neg, if_pos, if_neg, ↓reduceIte, w64, in_t, in_f, l1In_t, l1In_f, Option.bind_some, Bool.not_true, Bool.not_false, Bool.false_eq_true, tmod_nonneg, tdiv_nonneg]
      exact Ev.now _
  intro d
  induction d with
  | zero => exact fun j hd j0 hv => last j (by omega) hv
  | succ d ih =>
    intro j hd j0 hv
    by_cases hj : j < (m.length : Int)
    · by_cases hin : 0 ≤ rd (rd_L1 m i) j ∧ rd (rd_L1 m i) j ≤ 1000
      · obtain ⟨p, q⟩ := ih (j + 1) (by omega) (by omega) (fun k k0 k1 => by
          by_cases e : k = j
          · rw [e]; exact hin
          · exact hv k k0 (by omega))
        refine ⟨fun h b hb => ev_unroll ?_, fun h => ev_unroll ?_⟩
        · simp (disch := omega) only [spec_l16Gains.l1, ↓if_pos, ↓if_neg, if_pos, if_neg, ↓reduceIte, w64, in_t, in_f, l1In_t, l1In_f, Option.bind_some, Bool.not_true, Bool.not_false, Bool.false_eq_true, tmod_nonneg, tdiv_nonneg]
          exact p h b hb
        · simp (disch := omega) only [spec_l16Gains.l1, ↓if_pos, ↓if_neg, if_pos, if_neg, ↓reduceIte, w64, in_t, in_f, l1In_t, l1In_f, Option.bind_some, Bool.not_true, Bool.not_false, Bool.false_eq_true, tmod_nonneg, tdiv_nonneg]
          exact q h
      · refine ⟨fun h => absurd (h.2.2 j j0 hj) hin, fun h => ev_unroll ?_⟩
        simp (disch := omega) only [spec_l16Gains.l1, ↓if_pos, ↓if_neg, if_pos, if_neg, ↓reduceIte, w64, in_t, in_f, l1In_t, l1In_f, Option.bind_some, Bool.not_true, Bool.not_false, Bool.false_eq_true, tmod_nonneg, tdiv_nonneg]
        exact Ev.now _
    · exact last j (by omega) hv
theorem sgains_ev : ∃ b : Bool, (b = true ↔ Gains m ∧ 1 ≤ m.length ∧ m.length ≤ 12) ∧ Ev (fun k => spec_l16Gains.f k m) b := by
  have key : ∀ (d : Nat) (i : Int), (m.length : Int) - i ≤ d → 0 ≤ i → (∀ k : Int, 0 ≤ k → k < i → k < (m.length : Int) → GRow m k) → ∃ b : Bool, (b = true ↔ Gains m ∧ 1 ≤ m.length ∧ m.length ≤ 12) ∧ Ev (fun k => spec_l16Gains.l0 k m i) b := by
    have last : ∀ i : Int, (m.length : Int) ≤ i → (∀ k : Int, 0 ≤ k → k < i → k < (m.length : Int) → GRow m k) → ∃ b : Bool, (b = true ↔ Gains m ∧ 1 ≤ m.length ∧ m.length ≤ 12) ∧ Ev (fun k => spec_l16Gains.l0 k m i) b := by
      intro i hi hv
      have hG : Gains m := fun k k0 k1 => hv k k0 (by omega) k1
      by_cases hm : 1 ≤ (m.length : Int) ∧ (m.length : Int) ≤ 12
      · refine ⟨true, ⟨fun _ => ⟨hG, by omega, by omega⟩, fun _ => rfl⟩, ev_unroll ?_⟩
        simp (disch := omega) only [spec_l16Gains.l0, ↓if_pos, ↓if_neg, if_pos, if_neg, ↓reduceIte, w64, in_t, in_f, l1In_t, l1In_f, Option.bind_some, Bool.not_true, Bool.not_false, Bool.false_eq_true, tmod_nonneg, tdiv_nonneg]
        exact Ev.now _
      · refine ⟨false, ⟨fun h => by simp at h, fun h => absurd (show 1 ≤ (m.length : Int) ∧ (m.length : Int) ≤ 12 by omega) hm⟩, ev_unroll ?_⟩
        simp (disch := omega) only [spec_l16Gains.l0, ↓if_pos, ↓if_neg, if_pos, if_neg, ↓reduceIte, w64, in_t, in_f, l1In_t, l1In_f, Option.bind_some, Bool.not_true, Bool.not_false, Bool.false_eq_true, tmod_nonneg, tdiv_nonneg]
        exact Ev.now _
    intro d
    induction d with
    | zero => exact fun i hd i0 hv => last i (by omega) hv
    | succ d ih =>
      intro i hd i0 hv
      by_cases hi : i < (m.length : Int)
      · by_cases hl : ((rd_L1 m i).length : Int) = (m.length : Int)
        · obtain ⟨p, q⟩ := sgain_row m hn i i0 hi hl m.length 0 (by omega) (by omega) (fun k k0 k1 => by omega)
          by_cases hg : GRow m i
          · obtain ⟨b, o, p1⟩ := ih (i + 1) (by omega) (by omega) (fun k k0 k1 k2 => by
              by_cases e : k = i
              · rw [e]; exact hg
              · exact hv k k0 (by omega) k2)
            refine ⟨b, o, ev_unroll ?_⟩
            simp (disch := omega) only [spec_l16Gains.l0, ↓if_pos, ↓if_neg, if_pos, if_neg, ↓reduceIte, w64, in_t, in_f, l1In_t, l1In_f, Option.bind_some, Bool.not_true, Bool.not_false, Bool.false_eq_true, tmod_nonneg, tdiv_nonneg]
            exact p hg b p1
          · refine ⟨false, ⟨fun h => by simp at h, fun h => absurd (h.1 i i0 hi) hg⟩, ev_unroll ?_⟩
            simp (disch := omega) only [spec_l16Gains.l0, ↓if_pos, ↓if_neg, if_pos, if_neg, ↓reduceIte, w64, in_t, in_f, l1In_t, l1In_f, Option.bind_some, Bool.not_true, Bool.not_false, Bool.false_eq_true, tmod_nonneg, tdiv_nonneg]
            exact q hg
        · refine ⟨false, ⟨fun h => by simp at h, fun h => absurd (h.1 i i0 hi).1 hl⟩, ev_unroll ?_⟩
          simp (disch := omega) only [spec_l16Gains.l0, ↓if_pos, ↓if_neg, if_pos, if_neg, ↓reduceIte, w64, in_t, in_f, l1In_t, l1In_f, Option.bind_some, Bool.not_true, Bool.not_false, Bool.false_eq_true, tmod_nonneg, tdiv_nonneg]
          exact Ev.now _
      · exact last i (by omega) hv
  obtain ⟨b, o, p⟩ := key m.length 0 (by omega) (by omega) (fun k k0 k1 => by omega)
  exact ⟨b, o, p⟩
variable (hm : 1 ≤ m.length ∧ m.length ≤ 12) (noise want st : Int)
include hm
theorem igain_row (i : Int) (i0 : 0 ≤ i) (i1 : i < (m.length : Int)) (hl : ((rd_L1 m i).length : Int) = (m.length : Int)) : ∀ (d : Nat) (j : Int), (m.length : Int) - j ≤ d → 0 ≤ j →
    ((∀ k : Int, j ≤ k → k < (m.length : Int) → 0 ≤ rd (rd_L1 m i) k ∧ rd (rd_L1 m i) k ≤ 1000) → ∀ r, Ev (fun k => impl_Loudness.l0 k m noise want st (m.length : Int) m (m.length : Int) (i + 1)) r → Ev (fun k => impl_Loudness.l1 k m noise want st (m.length : Int) m (m.length : Int) i (rd_L1 m i) ((rd_L1 m i).length : Int) j) r) ∧
    ((∃ k : Int, j ≤ k ∧ k < (m.length : Int) ∧ ¬ (0 ≤ rd (rd_L1 m i) k ∧ rd (rd_L1 m i) k ≤ 1000)) → Ev (fun k => impl_Loudness.l1 k m noise want st (m.length : Int) m (m.length : Int) i (rd_L1 m i) ((rd_L1 m i).length : Int) j) ([], false)) := by
  intro d
  induction d with
  | zero =>
    intro j hd j0
    refine ⟨fun _ r hb => ev_unroll ?_, fun ⟨k, k0, k1, _⟩ => by omega⟩
    simp (disch := omega) only [impl_Loudness.l1, ↓if_pos, ↓if_neg, if_pos, if_neg, ↓reduceIte, w64, in_t, in_f, l1In_t, l1In_f, Option.bind_some, Bool.not_true, Bool.not_false, Bool.false_eq_true, tmod_nonneg, tdiv_nonneg]
    exact hb
  | succ d ih =>
    intro j hd j0
    by_cases hj : j < (m.length : Int)
    · obtain ⟨p, q⟩ := ih (j + 1) (by omega) (by omega)
      by_cases hin : 0 ≤ rd (rd_L1 m i) j ∧ rd (rd_L1 m i) j ≤ 1000
      · refine ⟨fun h r hb => ev_unroll ?_, fun ⟨k, k0, k1, k2⟩ => ev_unroll ?_⟩
        · simp (disch := omega) only [impl_Loudness.l1, ↓if_pos, ↓if_neg, if_pos, if_neg, ↓reduceIte, w64, in_t, in_f, l1In_t, l1In_f, Option.bind_some, Bool.not_true, Bool.not_false, Bool.false_eq_true, tmod_nonneg, tdiv_nonneg]
          exact p (fun k k0 k1 => h k (by omega) k1) r hb
        · simp (disch := omega) only [impl_Loudness.l1, ↓if_pos, ↓if_neg, if_pos, if_neg, ↓reduceIte, w64, in_t, in_f, l1In_t, l1In_f, Option.bind_some, Bool.not_true, Bool.not_false, Bool.false_eq_true, tmod_nonneg, tdiv_nonneg]
          refine q ⟨k, ?_, k1, k2⟩
          have : k ≠ j := fun e => k2 (e ▸ hin)
          omega
      · refine ⟨fun h => absurd (h j (by omega) hj) hin, fun _ => ev_unroll ?_⟩
        simp (disch := omega) only [impl_Loudness.l1, ↓if_pos, ↓if_neg, if_pos, if_neg, ↓reduceIte, w64, in_t, in_f, l1In_t, l1In_f, Option.bind_some, Bool.not_true, Bool.not_false, Bool.false_eq_true, tmod_nonneg, tdiv_nonneg]
        exact Ev.now _
    · refine ⟨fun _ r hb => ev_unroll ?_, fun ⟨k, k0, k1, _⟩ => by omega⟩
      simp (disch := omega) only [impl_Loudness.l1, ↓if_pos, ↓if_neg, if_pos, if_neg, ↓reduceIte, w64, in_t, in_f, l1In_t, l1In_f, Option.bind_some, Bool.not_true, Bool.not_false, Bool.false_eq_true, tmod_nonneg, tdiv_nonneg]
      exact hb
theorem igains_ev : ∀ (d : Nat) (i : Int), (m.length : Int) - i ≤ d → 0 ≤ i →
    ((∀ k : Int, i ≤ k → k < (m.length : Int) → GRow m k) → ∀ r, Ev (fun k => impl_Loudness.l2 k m noise want (m.length : Int) (List.replicate m.length 1) st 0) r → Ev (fun k => impl_Loudness.l0 k m noise want st (m.length : Int) m (m.length : Int) i) r) ∧
    ((∃ k : Int, i ≤ k ∧ k < (m.length : Int) ∧ ¬ GRow m k) → Ev (fun k => impl_Loudness.l0 k m noise want st (m.length : Int) m (m.length : Int) i) ([], false)) := by
  have last : ∀ i : Int, (m.length : Int) ≤ i → ∀ r, Ev (fun k => impl_Loudness.l2 k m noise want (m.length : Int) (List.replicate m.length 1) st 0) r → Ev (fun k => impl_Loudness.l0 k m noise want st (m.length : Int) m (m.length : Int) i) r := by
    intro i hi r hb
    refine ev_unroll ?_
    simp (disch := omega) only [impl_Loudness.l0, slices_Repeat_int_int.f, List.length_singleton, Int.toNat_natCast, ↓if_pos, ↓if_neg, if_pos, if_neg, ↓reduceIte, w64, in_t, in_f, l1In_t, l1In_f, Option.bind_some, Bool.not_true, Bool.not_false, Bool.false_eq_true, tmod_nonneg, tdiv_nonneg]
    exact hb
  intro d
  induction d with
  | zero =>
    intro i hd i0
    exact ⟨fun _ r hb => last i (by omega) r hb, fun ⟨k, k0, k1, _⟩ => by omega⟩
  | succ d ih =>
    intro i hd i0
    by_cases hi : i < (m.length : Int)
    · obtain ⟨p, q⟩ := ih (i + 1) (by omega) (by omega)
      by_cases hl : ((rd_L1 m i).length : Int) = (m.length : Int)
      · obtain ⟨p1, q1⟩ := igain_row m hn hm noise want st i i0 hi hl m.length 0 (by omega) (by omega)
        by_cases hd1 : rd (rd_L1 m i) i < 1
        · refine ⟨fun h => absurd (h i (by omega) hi).2.1 (by omega), fun _ => ev_unroll ?_⟩
          simp (disch := omega) only [impl_Loudness.l0, ↓if_pos, ↓if_neg, if_pos, if_neg, ↓reduceIte, w64, in_t, in_f, l1In_t, l1In_f, Option.bind_some, Bool.not_true, Bool.not_false, Bool.false_eq_true, tmod_nonneg, tdiv_nonneg]
          rw [decide_eq_true hd1]
          refine ev_unroll ?_
          simp (disch := omega) only [impl_Loudness.j2, ↓if_pos, ↓if_neg, if_pos, if_neg, ↓reduceIte, w64, in_t, in_f, l1In_t, l1In_f, Option.bind_some, Bool.not_true, Bool.not_false, Bool.false_eq_true, tmod_nonneg, tdiv_nonneg]
          exact Ev.now _
        · by_cases hall : ∀ k : Int, 0 ≤ k → k < (m.length : Int) → 0 ≤ rd (rd_L1 m i) k ∧ rd (rd_L1 m i) k ≤ 1000
          · refine ⟨fun h r hb => ev_unroll ?_, fun ⟨k, k0, k1, k2⟩ => ev_unroll ?_⟩
            · simp (disch := omega) only [impl_Loudness.l0, ↓if_pos, ↓if_neg, if_pos, if_neg, ↓reduceIte, w64, in_t, in_f, l1In_t, l1In_f, Option.bind_some, Bool.not_true, Bool.not_false, Bool.false_eq_true, tmod_nonneg, tdiv_nonneg]
              rw [decide_eq_false hd1]
              refine ev_unroll ?_
              simp (disch := omega) only [impl_Loudness.j2, ↓if_pos, ↓if_neg, if_pos, if_neg, ↓reduceIte, w64, in_t, in_f, l1In_t, l1In_f, Option.bind_some, Bool.not_true, Bool.not_false, Bool.false_eq_true, tmod_nonneg, tdiv_nonneg]
              exact p1 hall r (p (fun k k0 k1 => h k (by omega) k1) r hb)
            · simp (disch := omega) only [impl_Loudness.l0, ↓if_pos, ↓if_neg, if_pos, if_neg, ↓reduceIte, w64, in_t, in_f, l1In_t, l1In_f, Option.bind_some, Bool.not_true, Bool.not_false, Bool.false_eq_true, tmod_nonneg, tdiv_nonneg]
              rw [decide_eq_false hd1]
              refine ev_unroll ?_
              simp (disch := omega) only [impl_Loudness.j2, ↓if_pos, ↓if_neg, if_pos, if_neg, ↓reduceIte, w64, in_t, in_f, l1In_t, l1In_f, Option.bind_some, Bool.not_true, Bool.not_false, Bool.false_eq_true, tmod_nonneg, tdiv_nonneg]
              refine p1 hall _ (q ⟨k, ?_, k1, k2⟩)
              have : k ≠ i := fun e => k2 (e ▸ ⟨hl, by omega, hall⟩)
              omega
          · have hx : ∃ k : Int, 0 ≤ k ∧ k < (m.length : Int) ∧ ¬ (0 ≤ rd (rd_L1 m i) k ∧ rd (rd_L1 m i) k ≤ 1000) :=
              Classical.byContradiction fun hno => hall fun k k0 k1 => Classical.byContradiction fun h => hno ⟨k, k0, k1, h⟩
            refine ⟨fun h => absurd (h i (by omega) hi).2.2 hall, fun _ => ev_unroll ?_⟩
            simp (disch := omega) only [impl_Loudness.l0, ↓if_pos, ↓if_neg, if_pos, if_neg, ↓reduceIte, w64, in_t, in_f, l1In_t, l1In_f, Option.bind_some, Bool.not_true, Bool.not_false, Bool.false_eq_true, tmod_nonneg, tdiv_nonneg]
            rw [decide_eq_false hd1]
            refine ev_unroll ?_
            simp (disch := omega) only [impl_Loudness.j2, ↓if_pos, ↓if_neg, if_pos, if_neg, ↓reduceIte, w64, in_t, in_f, l1In_t, l1In_f, Option.bind_some, Bool.not_true, Bool.not_false, Bool.false_eq_true, tmod_nonneg, tdiv_nonneg]
            exact q1 hx
      · refine ⟨fun h => absurd (h i (by omega) hi).1 hl, fun _ => ev_unroll ?_⟩
        simp (disch := omega) only [impl_Loudness.l0, ↓if_pos, ↓if_neg, if_pos, if_neg, ↓reduceIte, w64, in_t, in_f, l1In_t, l1In_f, Option.bind_some, Bool.not_true, Bool.not_false, Bool.false_eq_true, tmod_nonneg, tdiv_nonneg]
        refine ev_unroll ?_
        simp (disch := omega) only [impl_Loudness.j2, ↓if_pos, ↓if_neg, if_pos, if_neg, ↓reduceIte, w64, in_t, in_f, l1In_t, l1In_f, Option.bind_some, Bool.not_true, Bool.not_false, Bool.false_eq_true, tmod_nonneg, tdiv_nonneg]
        exact Ev.now _
    · exact ⟨fun _ r hb => last i (by omega) r hb, fun ⟨k, k0, k1, _⟩ => by omega⟩
end
/-- May the gains be asked so? -/
def LOk (m : List (List Int)) (noise want st : Int) : Prop := (Gains m ∧ 1 ≤ m.length ∧ m.length ≤ 12) ∧ (1 ≤ noise ∧ noise ≤ 1000) ∧ (1 ≤ want ∧ want ≤ 100) ∧ 0 ≤ st ∧ st ≤ 50
theorem loud_t (m : List (List Int)) (noise want st : Int) (h : LOk m noise want st) : Ev (fun k => spec_Loudness.f k m noise want st) (steps m noise want st.toNat, true) ∧ Ev (fun k => impl_Loudness.f k m noise want st) (steps m noise want st.toNat, true) := by
  obtain ⟨⟨hG, hm⟩, hno, hwa, hst⟩ := h
  obtain ⟨p, q⟩ := both_steps m hm hG noise want hno hwa st hst.2 st.toNat 0 (by omega)
  refine ⟨?_, ?_⟩
  · obtain ⟨b, o, e⟩ := sgains_ev m (by omega)
    have eb := o.2 ⟨hG, hm.1, hm.2⟩
    subst eb
    simp only [spec_Loudness.f]
    refine Ev.bind e ?_
    simp (disch := omega) only [↓if_pos, ↓if_neg, if_pos, if_neg, ↓reduceIte, w64, in_t, in_f, l1In_t, l1In_f, Option.bind_some, Bool.not_true, Bool.not_false, Bool.false_eq_true, tmod_nonneg, tdiv_nonneg]
    refine ev_unroll ?_
    simp (disch := omega) only [spec_Loudness.j0, ↓if_pos, ↓if_neg, if_pos, if_neg, ↓reduceIte, w64, in_t, in_f, l1In_t, l1In_f, Option.bind_some, Bool.not_true, Bool.not_false, Bool.false_eq_true, tmod_nonneg, tdiv_nonneg]
    have key : ∀ (d i : Nat), m.length - i = d → i ≤ m.length → Ev (fun k => spec_Loudness.l0 k m noise want st (List.replicate i 1) (i : Int)) (steps m noise want st.toNat, true) := by
      intro d
      induction d with
      | zero =>
        intro i hd hi
        have ei : i = m.length := by omega
        subst ei
        refine ev_unroll ?_
        simp (disch := omega) only [spec_Loudness.l0, ↓if_pos, ↓if_neg, if_pos, if_neg, ↓reduceIte, w64, in_t, in_f, l1In_t, l1In_f, Option.bind_some, Bool.not_true, Bool.not_false, Bool.false_eq_true, tmod_nonneg, tdiv_nonneg]
        simpa [steps] using p
      | succ d ih =>
        intro i hd hi
        have h := ih (i + 1) (by omega) (by omega)
        have hl : (List.replicate i (1 : Int)).length = i := List.length_replicate
        refine ev_unroll ?_
        simp (disch := omega) only [spec_Loudness.l0, hl, ↓if_pos, ↓if_neg, if_pos, if_neg, ↓reduceIte, w64, in_t, in_f, l1In_t, l1In_f, Option.bind_some, Bool.not_true, Bool.not_false, Bool.false_eq_true, tmod_nonneg, tdiv_nonneg]
        rw [List.replicate_succ'] at h
        simpa using h
    simpa using key m.length 0 (by omega) (by omega)
  · simp (disch := omega) only [impl_Loudness.f, ↓if_pos, ↓if_neg, if_pos, if_neg, ↓reduceIte, w64, in_t, in_f, l1In_t, l1In_f, Option.bind_some, Bool.not_true, Bool.not_false, Bool.false_eq_true, tmod_nonneg, tdiv_nonneg]
    refine ev_unroll ?_
    simp (disch := omega) only [impl_Loudness.j0, ↓if_pos, ↓if_neg, if_pos, if_neg, ↓reduceIte, w64, in_t, in_f, l1In_t, l1In_f, Option.bind_some, Bool.not_true, Bool.not_false, Bool.false_eq_true, tmod_nonneg, tdiv_nonneg]
    exact (igains_ev m (by omega) hm noise want st m.length 0 (by omega) (by omega)).1 (fun k k0 k1 => hG k (by omega) k1) _ (by simpa [steps] using q)
theorem loud_f (m : List (List Int)) (hn : m.length ≤ 1048576) (noise want st : Int) (h : ¬ LOk m noise want st) : Ev (fun k => spec_Loudness.f k m noise want st) ([], false) ∧ Ev (fun k => impl_Loudness.f k m noise want st) ([], false) := by
  refine ⟨?_, ?_⟩
  · obtain ⟨b, o, e⟩ := sgains_ev m hn
    simp only [spec_Loudness.f]
    refine Ev.bind e ?_
    cases b with
    | false =>
      simp (disch := omega) only [↓if_pos, ↓if_neg, if_pos, if_neg, ↓reduceIte, w64, in_t, in_f, l1In_t, l1In_f, Option.bind_some, Bool.not_true, Bool.not_false, Bool.false_eq_true, tmod_nonneg, tdiv_nonneg]
      refine ev_unroll ?_
      simp (disch := omega) only [spec_Loudness.j0, ↓if_pos, ↓if_neg, if_pos, if_neg, ↓reduceIte, w64, in_t, in_f, l1In_t, l1In_f, Option.bind_some, Bool.not_true, Bool.not_false, Bool.false_eq_true, tmod_nonneg, tdiv_nonneg]
      exact Ev.now _
    | true =>
      have hG := o.1 rfl
      by_cases h1 : 1 ≤ noise ∧ noise ≤ 1000
      · by_cases h2 : 1 ≤ want ∧ want ≤ 100
        · have h3 : ¬ (0 ≤ st ∧ st ≤ 50) := fun h3 => h ⟨hG, h1, h2, h3⟩
          simp (disch := omega) only [↓if_pos, ↓if_neg, if_pos, if_neg, ↓reduceIte, w64, in_t, in_f, l1In_t, l1In_f, Option.bind_some, Bool.not_true, Bool.not_false, Bool.false_eq_true, tmod_nonneg, tdiv_nonneg]
          refine ev_unroll ?_
          simp (disch := omega) only [spec_Loudness.j0, ↓if_pos, ↓if_neg, if_pos, if_neg, ↓reduceIte, w64, in_t, in_f, l1In_t, l1In_f, Option.bind_some, Bool.not_true, Bool.not_false, Bool.false_eq_true, tmod_nonneg, tdiv_nonneg]
          exact Ev.now _
        · simp (disch := omega) only [↓if_pos, ↓if_neg, if_pos, if_neg, ↓reduceIte, w64, in_t, in_f, l1In_t, l1In_f, Option.bind_some, Bool.not_true, Bool.not_false, Bool.false_eq_true, tmod_nonneg, tdiv_nonneg]
          refine ev_unroll ?_
          simp (disch := omega) only [spec_Loudness.j0, ↓if_pos, ↓if_neg, if_pos, if_neg, ↓reduceIte, w64, in_t, in_f, l1In_t, l1In_f, Option.bind_some, Bool.not_true, Bool.not_false, Bool.false_eq_true, tmod_nonneg, tdiv_nonneg]
          exact Ev.now _
      · simp (disch := omega) only [↓if_pos, ↓if_neg, if_pos, if_neg, ↓reduceIte, w64, in_t, in_f, l1In_t, l1In_f, Option.bind_some, Bool.not_true, Bool.not_false, Bool.false_eq_true, tmod_nonneg, tdiv_nonneg]
        refine ev_unroll ?_
        simp (disch := omega) only [spec_Loudness.j0, ↓if_pos, ↓if_neg, if_pos, if_neg, ↓reduceIte, w64, in_t, in_f, l1In_t, l1In_f, Option.bind_some, Bool.not_true, Bool.not_false, Bool.false_eq_true, tmod_nonneg, tdiv_nonneg]
        exact Ev.now _
  · by_cases h0 : 1 ≤ (m.length : Int) ∧ (m.length : Int) ≤ 12
    · by_cases h1 : 1 ≤ noise ∧ noise ≤ 1000
      · by_cases h2 : 1 ≤ want ∧ want ≤ 100
        · by_cases h3 : 0 ≤ st ∧ st ≤ 50
          · have hx : ∃ k : Int, 0 ≤ k ∧ k < (m.length : Int) ∧ ¬ GRow m k :=
              Classical.byContradiction fun hno => h ⟨⟨fun k k0 k1 => Classical.byContradiction fun h => hno ⟨k, k0, k1, h⟩, by omega, by omega⟩, h1, h2, h3⟩
            simp (disch := omega) only [impl_Loudness.f, ↓if_pos, ↓if_neg, if_pos, if_neg, ↓reduceIte, w64, in_t, in_f, l1In_t, l1In_f, Option.bind_some, Bool.not_true, Bool.not_false, Bool.false_eq_true, tmod_nonneg, tdiv_nonneg]
            refine ev_unroll ?_
            simp (disch := omega) only [impl_Loudness.j0, ↓if_pos, ↓if_neg, if_pos, if_neg, ↓reduceIte, w64, in_t, in_f, l1In_t, l1In_f, Option.bind_some, Bool.not_true, Bool.not_false, Bool.false_eq_true, tmod_nonneg, tdiv_nonneg]
            exact (igains_ev m (by omega) (by omega) noise want st m.length 0 (by omega) (by omega)).2 hx
          · simp (disch := omega) only [impl_Loudness.f, ↓if_pos, ↓if_neg, if_pos, if_neg, ↓reduceIte, w64, in_t, in_f, l1In_t, l1In_f, Option.bind_some, Bool.not_true, Bool.not_false, Bool.false_eq_true, tmod_nonneg, tdiv_nonneg]
            refine ev_unroll ?_
            simp (disch := omega) only [impl_Loudness.j0, ↓if_pos, ↓if_neg, if_pos, if_neg, ↓reduceIte, w64, in_t, in_f, l1In_t, l1In_f, Option.bind_some, Bool.not_true, Bool.not_false, Bool.false_eq_true, tmod_nonneg, tdiv_nonneg]
            exact Ev.now _
        · simp (disch := omega) only [impl_Loudness.f, ↓if_pos, ↓if_neg, if_pos, if_neg, ↓reduceIte, w64, in_t, in_f, l1In_t, l1In_f, Option.bind_some, Bool.not_true, Bool.not_false, Bool.false_eq_true, tmod_nonneg, tdiv_nonneg]
          refine ev_unroll ?_
          simp (disch := omega) only [impl_Loudness.j0, ↓if_pos, ↓if_neg, if_pos, if_neg, ↓reduceIte, w64, in_t, in_f, l1In_t, l1In_f, Option.bind_some, Bool.not_true, Bool.not_false, Bool.false_eq_true, tmod_nonneg, tdiv_nonneg]
          exact Ev.now _
      · simp (disch := omega) only [impl_Loudness.f, ↓if_pos, ↓if_neg, if_pos, if_neg, ↓reduceIte, w64, in_t, in_f, l1In_t, l1In_f, Option.bind_some, Bool.not_true, Bool.not_false, Bool.false_eq_true, tmod_nonneg, tdiv_nonneg]
        refine ev_unroll ?_
        simp (disch := omega) only [impl_Loudness.j0, ↓if_pos, ↓if_neg, if_pos, if_neg, ↓reduceIte, w64, in_t, in_f, l1In_t, l1In_f, Option.bind_some, Bool.not_true, Bool.not_false, Bool.false_eq_true, tmod_nonneg, tdiv_nonneg]
        exact Ev.now _
    · simp (disch := omega) only [impl_Loudness.f, ↓if_pos, ↓if_neg, if_pos, if_neg, ↓reduceIte, w64, in_t, in_f, l1In_t, l1In_f, Option.bind_some, Bool.not_true, Bool.not_false, Bool.false_eq_true, tmod_nonneg, tdiv_nonneg]
      refine ev_unroll ?_
      simp (disch := omega) only [impl_Loudness.j0, ↓if_pos, ↓if_neg, if_pos, if_neg, ↓reduceIte, w64, in_t, in_f, l1In_t, l1In_f, Option.bind_some, Bool.not_true, Bool.not_false, Bool.false_eq_true, tmod_nonneg, tdiv_nonneg]
      exact Ev.now _
/-- How many numbers the first rows hold. -/
def tot (x0 : List (List Int)) : Nat → Int
  | 0 => 0
  | i + 1 => tot x0 i + ((rd_L1 x0 (i : Int)).length : Int)
theorem tot_nonneg (x0 : List (List Int)) : ∀ i, 0 ≤ tot x0 i := by
  intro i
  induction i with
  | zero => simp [tot]
  | succ i ih => simp only [tot]; omega
theorem tot_le (x0 : List (List Int)) (i : Nat) : ∀ d, tot x0 i ≤ tot x0 (i + d) := by
  intro d
  induction d with
  | zero => exact Int.le_refl _
  | succ d ih =>
    have : tot x0 (i + (d + 1)) = tot x0 (i + d) + ((rd_L1 x0 ((i + d : Nat) : Int)).length : Int) := rfl
    omega
theorem szIntSS_ev (x0 : List (List Int)) (hm : x0.length ≤ maxLen) (hr : ∀ x ∈ x0, x.length ≤ maxLen) : ∃ v, Ev (fun k => laws_szIntSS.f k x0 1048576) v ∧ (0 ≤ v → (x0.length : Int) + tot x0 x0.length ≤ 1048576) := by
  have hM : maxLen = 9223372036854775807 := rfl
  have key : ∀ (d i : Nat) (v : Int), x0.length - i = d → i ≤ x0.length → 0 ≤ v → v = 1048576 - (x0.length : Int) - tot x0 i → ∃ r, Ev (fun k => laws_szIntSS.l0 k x0 v (i : Int)) r ∧ (0 ≤ r → (x0.length : Int) + tot x0 x0.length ≤ 1048576) := by
    intro d
    induction d with
    | zero =>
      intro i v hd hi h0 hv
      have h : i = x0.length := by omega
      have ht := tot_nonneg x0 i
      refine ⟨v, ev_unroll ?_, fun _ => by rw [← h]; rw [← h] at hv; omega⟩
      simp (disch := omega) only [laws_szIntSS.l0, ↓if_neg]
      exact Ev.now _
    | succ d ih =>
      intro i v hd hi h0 hv
      have ht := tot_nonneg x0 i
      have hrow := hr _ (rdL_mem (xs := x0) (i := (i : Int)) (by omega) (by omega))
      by_cases hc : v - ((rd_L1 x0 (i : Int)).length : Int) < 0
      · refine ⟨-1, ev_unroll ?_, fun h => by omega⟩
        simp (disch := omega) only [laws_szIntSS.l0, laws_szIntS.f, ↓if_pos, w64, Option.bind_some]
        exact Ev.now _
      · obtain ⟨r, p, q⟩ := ih (i + 1) (v - ((rd_L1 x0 (i : Int)).length : Int)) (by omega) (by omega) (by omega) (by simp only [tot]; omega)
        refine ⟨r, ev_unroll ?_, q⟩
        simp (disch := omega) only [laws_szIntSS.l0, laws_szIntS.f, ↓if_pos, ↓if_neg, w64, Option.bind_some]
        simpa using p
  by_cases hc : 1048576 - (x0.length : Int) < 0
  · refine ⟨-1, ?_, fun h => by omega⟩
    simp (disch := omega) only [laws_szIntSS.f, ↓if_pos, w64]
    exact Ev.now _
  · obtain ⟨r, p, q⟩ := key x0.length 0 (1048576 - (x0.length : Int)) (by omega) (by omega) (by omega) (by simp [tot])
    refine ⟨r, ?_, q⟩
    simp (disch := omega) only [laws_szIntSS.f, ↓if_neg, w64]
    simpa using p
section
variable (x0 : List (List Int)) (hs : (x0.length : Int) + tot x0 x0.length ≤ 1048576)
include hs
theorem ss_row (i : Nat) (hi : i < x0.length) : (rd_L1 x0 (i : Int)).length ≤ 1048576 := by
  have h1 := tot_le x0 (i + 1) (x0.length - (i + 1))
  have h2 := tot_nonneg x0 i
  rw [show i + 1 + (x0.length - (i + 1)) = x0.length by omega] at h1
  simp only [tot] at h1
  omega
theorem ss_len : x0.length ≤ 1048576 := by
  have := tot_nonneg x0 x0.length
  omega
theorem ss_rows : ∀ x ∈ x0, x.length ≤ 1048576 := by
  intro x hx
  obtain ⟨i, hi, rfl⟩ := List.getElem_of_mem hx
  have h := ss_row x0 hs i hi
  have e : rd_L1 x0 (i : Int) = x0[i] := by simp [rd_L1, hi]
  rw [e] at h
  exact h
theorem toIntSS_ev : Ev (fun k => laws_toIntSS.f k x0) x0 := by
  have hn := ss_len x0 hs
  have key : ∀ (d : Nat) (x3 : List (List Int)) (i : Nat), x0.length - i = d → i ≤ x0.length → x3.length = x0.length → x3.take i = x0.take i → Ev (fun k => laws_toIntSS.l0 k x0 x3 (i : Int)) x0 := by
    intro d
    induction d with
    | zero =>
      intro x3 i hd hi hl ht
      have e : x3 = x0 := by
        have h : i = x0.length := by omega
        rw [h, List.take_length, ← hl, List.take_length] at ht
        exact ht
      subst e
      refine ev_unroll ?_
      simp (disch := omega) only [laws_toIntSS.l0, ↓if_neg]
      exact Ev.now _
    | succ d ih =>
      intro x3 i hd hi hl ht
      have hrow := ss_row x0 hs i (by omega)
      have e : rd_L1 x0 (i : Int) = x0.getD i [] := by simp only [rd_L1, Int.toNat_natCast]
      have h := ih (x3.set i (rd_L1 x0 (i : Int))) (i + 1) (by omega) (by omega) (by simp [hl]) (by rw [e]; exact take_set_succ [] hl ht (by omega))
      refine ev_unroll ?_
      simp (disch := omega) only [laws_toIntSS.l0, ↓if_pos, w64]
      refine Ev.bind (toIntS_ev _ hrow) ?_
      simpa using h
  have h := key _ (List.replicate x0.length []) 0 rfl (by omega) (by simp) (by simp)
  simp (disch := omega) only [laws_toIntSS.f, ↓if_pos]
  simpa using h
theorem eqIntSS_ev : Ev (fun k => laws_eqIntSS.f k x0 x0) true := by
  have hn := ss_len x0 hs
  have key : ∀ (d : Nat) (i : Nat), x0.length - i = d → i ≤ x0.length → Ev (fun k => laws_eqIntSS.l0 k x0 x0 (i : Int)) true := by
    intro d
    induction d with
    | zero =>
      intro i hd hi
      refine ev_unroll ?_
      simp (disch := omega) only [laws_eqIntSS.l0, ↓if_neg]
      exact Ev.now _
    | succ d ih =>
      intro i hd hi
      have h := ih (i + 1) (by omega) (by omega)
      have hrow := ss_row x0 hs i (by omega)
      refine ev_unroll ?_
      simp (disch := omega) only [laws_eqIntSS.l0, ↓if_pos, w64]
      refine Ev.bind (eqIntS_ev _ hrow) ?_
      simp only [↓reduceIte]
      simpa using h
  have h := key _ 0 rfl (by omega)
  simp (disch := omega) only [laws_eqIntSS.f, ↓if_pos]
  simpa using h
theorem markIntSS_ev : Ev (fun k => laws_markIntSS.f k x0 1) (1 + tot x0 x0.length) := by
  have hn := ss_len x0 hs
  have key : ∀ (d : Nat) (i : Nat), x0.length - i = d → i ≤ x0.length → Ev (fun k => laws_markIntSS.l0 k x0 (1 + tot x0 i) (i : Int)) (1 + tot x0 x0.length) := by
    intro d
    induction d with
    | zero =>
      intro i hd hi
      have h : i = x0.length := by omega
      rw [h]
      refine ev_unroll ?_
      simp (disch := omega) only [laws_markIntSS.l0, ↓if_neg]
      exact Ev.now _
    | succ d ih =>
      intro i hd hi
      have h := ih (i + 1) (by omega) (by omega)
      have hrow := ss_row x0 hs i (by omega)
      have t0 := tot_nonneg x0 i
      have t1 := tot_le x0 i (x0.length - i)
      rw [show i + (x0.length - i) = x0.length by omega] at t1
      refine ev_unroll ?_
      simp (disch := omega) only [laws_markIntSS.l0, ↓if_pos, w64]
      refine Ev.bind (markIntS_ev _ (1 + tot x0 i) (by omega) (by omega) hrow) ?_
      simp only [tot] at h
      rw [Int.add_assoc]
      simpa using h
  exact key _ 0 rfl (by omega)
end
theorem both (m : List (List Int)) (noise want st : Int) (hn : m.length ≤ 1048576) (hr : ∀ x ∈ m, x.length ≤ 1048576) : ∃ r : List Int × Bool, r.1.length ≤ 1048576 ∧ Ev (fun k => spec_Loudness.f k m noise want st) r ∧ Ev (fun k => impl_Loudness.f k m noise want st) r := by
  by_cases h : LOk m noise want st
  · have hp := loud_t m noise want st h
    exact ⟨_, by simp only [steps_length]; exact hn, hp.1, hp.2⟩
  · have hp := loud_f m hn noise want st h
    exact ⟨_, by simp, hp.1, hp.2⟩
def laws_FnExactLoudness.Pure : Prop := ∀ (l0 : List (List Int)) (a1 a2 a3 : Int), l0.length ≤ maxLen → (∀ x ∈ l0, x.length ≤ maxLen ∧ ∀ n ∈ x, (Lit.int .i64 n).wf = true) → (Lit.int .i64 a1).wf = true → (Lit.int .i64 a2).wf = true → (Lit.int .i64 a3).wf = true → ∃ k, laws_FnExactLoudness.f k l0 a1 a2 a3 = some true
theorem FnExactLoudness : laws_FnExactLoudness.Pure := by
  intro l0 a1 a2 a3 hm0 hw0 _ _ _
  refine Ev.rounds (g := fun k => laws_FnExactLoudness.f k l0 a1 a2 a3) ?_
  obtain ⟨v, hv, hv2⟩ := szIntSS_ev l0 hm0 (fun x hx => (hw0 x hx).1)
  simp only [laws_FnExactLoudness.f]
  refine Ev.bind hv ?_
  by_cases hb : v < 0
  · simp only [if_pos hb]
    exact Ev.now _
  simp only [if_neg hb]
  have hs := hv2 (by omega)
  have hn := ss_len l0 hs
  have htn := tot_nonneg l0 l0.length
  have ht := toIntSS_ev l0 hs
  obtain ⟨⟨l, b⟩, hl, hsp, hi⟩ := both l0 a1 a2 a3 hn (ss_rows l0 hs)
  simp only at hl
  refine Ev.bind ht (Ev.bind hsp (Ev.bind ht (Ev.bind hi (Ev.bind (eqIntS_ev l hl) ?_))))
  simp only [↓reduceIte, bne_self_eq_false]
  refine ev_unroll ?_
  simp only [laws_FnExactLoudness.j0, Bool.false_eq_true, ↓reduceIte]
  refine Ev.bind ht (Ev.bind (eqIntSS_ev l0 hs) ?_)
  simp only [↓reduceIte]
  refine Ev.bind (markIntSS_ev l0 hs) ?_
  simp (disch := omega) only [↓if_neg]
  refine Ev.bind (eqIntS_ev l hl) ?_
  simp only [↓reduceIte, bne_self_eq_false]
  refine ev_unroll ?_
  simp only [laws_FnExactLoudness.j1, Bool.false_eq_true, ↓reduceIte]
  refine Ev.bind (markIntS_ev l 1 (by omega) (by omega) hl) (Ev.bind (heldIntS_ev l.length 1 (by omega) (by omega) hl) ?_)
  simp (disch := omega) only [↓if_neg, ↓reduceIte]
  refine Ev.bind ht (Ev.bind hi (Ev.bind (eqIntS_ev l hl) ?_))
  simp only [↓reduceIte, bne_self_eq_false]
  refine ev_unroll ?_
  simp only [laws_FnExactLoudness.j2, Bool.false_eq_true, ↓reduceIte]
  refine Ev.bind (heldIntS_ev l.length 1 (by omega) (by omega) hl) ?_
  simp (disch := omega) only [↓if_neg, ↓reduceIte]
  exact Ev.now _

end Go.Proofs.Ythhbeekokbcnfaa.Pure
