/- The law FnFairTurns: of drawn queues the program's turns are fair: who is served is next among those who wait. -/
import Derived.Test.YtheinelpeapleaaMFnFairTurnsx5
import Derived.Test.YtheinelpeapleaaMFnFairTurnsx5z
import Derived.Test.YtheinelpeapleaaKit
namespace Go.Proofs.Ytheinelpeapleaa.Pure
set_option linter.unusedSimpArgs false
set_option linter.unusedVariables false
set_option linter.unusedSectionVars false
open Go Go.RowKit Go.Proofs.Ytheinelpeapleaa.MFnFairTurns Go.Proofs.YtheinelpeapleaaW.PrintWords Go.Proofs.YtheinelpeapleaaW.PrintLast Go.Proofs.Ytheinelpeapleaa.Mine

theorem in_t {a b c : Int} (h : b ≤ a) (h2 : a ≤ c) : impl_in.f a b c = some true := by
  unfold impl_in.f
  rw [if_pos (by omega)]; simp [h2]
theorem in_f {a b c : Int} (h : ¬ (b ≤ a ∧ a ≤ c)) : impl_in.f a b c = some false := by
  unfold impl_in.f
  by_cases g : a ≥ b
  · rw [if_pos g]; simp; omega
  · rw [if_neg g]
theorem l1In_t {a b c : Int} (h : b ≤ a) (h2 : a ≤ c) : spec_l1In.f a b c = some true := by
  unfold spec_l1In.f
  rw [if_pos (by omega)]; simp [h2]
theorem l1In_f {a b c : Int} (h : ¬ (b ≤ a ∧ a ≤ c)) : spec_l1In.f a b c = some false := by
  unfold spec_l1In.f
  by_cases g : a ≥ b
  · rw [if_pos g]; simp; omega
  · rw [if_neg g]
theorem l1New_ev (x0 : List Int) : ∃ h, Ev (fun k => spec_l1New.f k x0) (x0, 0, h) := by
  have key : ∀ (d : Nat) (i h : Int), 4000 - i ≤ d → 0 ≤ i → ∃ h', Ev (fun k => spec_l1New.l0 k x0 h i) (x0, 0, h') := by
    intro d
    induction d with
    | zero =>
      intro i h hd h0
      refine ⟨h, ev_unroll ?_⟩
      by_cases hlt : i < (x0.length : Int)
      · simp (disch := omega) only [spec_l1New.l0, ↓if_pos, ↓if_neg, if_pos, if_neg, ↓reduceIte, w64, in_t, in_f, l1In_t, l1In_f, Option.bind_some, Bool.not_true, Bool.not_false, Bool.false_eq_true, tmod_nonneg, tdiv_nonneg]
        exact Ev.now _
      · simp (disch := omega) only [spec_l1New.l0, ↓if_pos, ↓if_neg, if_pos, if_neg, ↓reduceIte, w64, in_t, in_f, l1In_t, l1In_f, Option.bind_some, Bool.not_true, Bool.not_false, Bool.false_eq_true, tmod_nonneg, tdiv_nonneg]
        exact Ev.now _
    | succ d ih =>
      intro i h hd h0
      by_cases hlt : i < (x0.length : Int)
      · by_cases h4 : i < 4000
        · obtain ⟨h', p⟩ := ih (i + 1) (Go.bits .and .i64 (wrap64 ((wrap64 ((wrap64 (h * 131)) + (wrap64 (rd x0 i)))) + 7)) 1073741823) (by omega) (by omega)
          refine ⟨h', ev_unroll ?_⟩
          simp only [spec_l1New.l0, if_pos hlt, if_pos h4, if_pos h0]
          rw [w64 (x := i + 1) (by omega) (by omega)]
          exact p
        · refine ⟨h, ev_unroll ?_⟩
          simp (disch := omega) only [spec_l1New.l0, ↓if_pos, ↓if_neg, if_pos, if_neg, ↓reduceIte, w64, in_t, in_f, l1In_t, l1In_f, Option.bind_some, Bool.not_true, Bool.not_false, Bool.false_eq_true, tmod_nonneg, tdiv_nonneg]
          exact Ev.now _
      · refine ⟨h, ev_unroll ?_⟩
        simp (disch := omega) only [spec_l1New.l0, ↓if_pos, ↓if_neg, if_pos, if_neg, ↓reduceIte, w64, in_t, in_f, l1In_t, l1In_f, Option.bind_some, Bool.not_true, Bool.not_false, Bool.false_eq_true, tmod_nonneg, tdiv_nonneg]
        exact Ev.now _
  obtain ⟨h', p⟩ := key 4000 0 (wrap64 (71933 + (x0.length : Int))) (by omega) (by omega)
  exact ⟨h', p⟩
theorem l1Byte_some (b : List Int) (i h : Int) (hb : b.length ≤ 1048576) (h0 : 0 ≤ i) (h1 : i ≤ 1048576) :
    ∃ v i' h', spec_l1Byte.f b i h = some (v, i', h') ∧ 0 ≤ v ∧ v ≤ 255 ∧ 0 ≤ i' ∧ i' ≤ 1048576 := by
  unfold spec_l1Byte.f
  by_cases hlt : i < (b.length : Int)
  · rw [if_pos hlt, if_pos h0, w64 (x := i + 1) (by omega) (by omega)]
    refine ⟨_, _, _, rfl, ?_, ?_, by omega, by omega⟩
    · rw [and255]; omega
    · rw [and255]; omega
  · rw [if_neg hlt]
    refine ⟨_, _, _, rfl, ?_, ?_, h0, h1⟩
    · rw [and255]; omega
    · rw [and255]; omega
theorem l1Below_some (b : List Int) (i h n : Int) (hb : b.length ≤ 1048576) (h0 : 0 ≤ i) (h1 : i ≤ 1048576) :
    ∃ v i' h', spec_l1Below.f b i h n = some (v, i', h') ∧ 0 ≤ v ∧ (0 < n → v < n) ∧ (n ≤ 0 → v = 0) ∧ 0 ≤ i' ∧ i' ≤ 1048576 := by
  unfold spec_l1Below.f
  by_cases hn : n ≤ 0
  · rw [if_pos hn]
    exact ⟨0, i, h, rfl, by omega, by omega, fun _ => rfl, h0, h1⟩
  rw [if_neg hn]
  by_cases hm : n ≤ 256
  · rw [if_pos hm]
    obtain ⟨v, i1, s1, e1, p1, p2, p3, p4⟩ := l1Byte_some b i h hb h0 h1
    rw [e1]
    simp only [Option.bind_some]
    rw [if_neg (by omega), tmod_nonneg p1]
    exact ⟨_, _, _, rfl, Int.emod_nonneg _ (by omega), fun _ => Int.emod_lt_of_pos _ (by omega), fun h => absurd h hn, p3, p4⟩
  · rw [if_neg hm]
    obtain ⟨v1, i1, s1, e1, p1, p2, p3, p4⟩ := l1Byte_some b i h hb h0 h1
    obtain ⟨v2, i2, s2, e2, q1, q2, q3, q4⟩ := l1Byte_some b i1 s1 hb p3 p4
    obtain ⟨v3, i3, s3, e3, r1, r2, r3, r4⟩ := l1Byte_some b i2 s2 hb q3 q4
    obtain ⟨v4, i4, s4, e4, t1, t2, t3, t4⟩ := l1Byte_some b i3 s3 hb r3 r4
    rw [e1]
    simp only [Option.bind_some]
    rw [e2]
    simp only [Option.bind_some]
    rw [e3]
    simp only [Option.bind_some]
    rw [e4]
    simp only [Option.bind_some]
    rw [if_neg (by omega)]
    refine ⟨_, _, _, rfl, ?_, ?_, fun h => absurd h hn, t3, t4⟩
    · simp (disch := omega) only [w64]
      rw [tmod_nonneg (by omega)]
      exact Int.emod_nonneg _ (by omega)
    · intro _
      simp (disch := omega) only [w64]
      rw [tmod_nonneg (by omega)]
      exact Int.emod_lt_of_pos _ (by omega)
theorem l1PickInt_some (b : List Int) (i h : Int) (l : List Int) (hl : 0 < l.length) (hb : b.length ≤ 1048576) (h0 : 0 ≤ i) (h1 : i ≤ 1048576) :
    ∃ v i' h', spec_l1PickInt.f b i h l = some (v, i', h') ∧ v ∈ l ∧ 0 ≤ i' ∧ i' ≤ 1048576 := by
  unfold spec_l1PickInt.f
  obtain ⟨v, i1, s1, e1, p1, p2, p3, p4, p5⟩ := l1Below_some b i h (l.length : Int) hb h0 h1
  rw [e1]
  simp only [Option.bind_some]
  rw [if_pos p1, if_pos (p2 (by omega))]
  exact ⟨_, _, _, rfl, rd_mem p1 (p2 (by omega)), p4, p5⟩
theorem sameInts_ev (x0 : List Int) (x1 : List Int) (hn : x0.length ≤ 1048576) : Ev (fun k => laws_sameInts.f k x0 x1) (decide (x0 = x1)) := by
  by_cases hl : x0.length = x1.length
  · have key : ∀ (d : Nat) (i : Nat), x0.length - i = d → i ≤ x0.length → Ev (fun k => laws_sameInts.l0 k x0 x1 (i : Int)) (decide (x0.drop i = x1.drop i)) := by
      intro d
      induction d with
      | zero =>
        intro i hd hi
        rw [List.drop_eq_nil_of_le (show x0.length ≤ i by omega), List.drop_eq_nil_of_le (show x1.length ≤ i by omega)]
        refine ev_unroll ?_
        simp (disch := omega) only [laws_sameInts.l0, ↓if_neg, decide_true]
        exact Ev.now _
      | succ d ih =>
        intro i hd hi
        have h := ih (i + 1) (by omega) (by omega)
        rw [drop_rd (show i < x0.length by omega), drop_rd (show i < x1.length by omega)]
        by_cases he : rd x0 (i : Int) = rd x1 (i : Int)
        · refine ev_unroll ?_
          simp (disch := omega) only [laws_sameInts.l0, ↓if_pos, w64]
          simpa [he] using h
        · refine ev_unroll ?_
          simp (disch := omega) only [laws_sameInts.l0, ↓if_pos, ↓if_neg]
          rw [decide_eq_false (by intro h2; injection h2 with h3 h4; exact he h3)]
          exact Ev.now _
    have h := key _ 0 rfl (by omega)
    simp (disch := omega) only [laws_sameInts.f, ↓if_pos]
    simpa using h
  · have he : x0 ≠ x1 := fun h => hl (by rw [h])
    simp (disch := omega) only [laws_sameInts.f, ↓if_neg]
    rw [decide_eq_false he]
    exact Ev.now _
theorem rdL_mem {xs : List (List Int)} {i : Int} (h0 : 0 ≤ i) (h1 : i < (xs.length : Int)) : rd_L2 xs i ∈ xs := by
  have h : i.toNat < xs.length := by omega
  have e : rd_L2 xs i = xs[i.toNat] := by simp [rd_L2, h]
  rw [e]; exact List.getElem_mem h
theorem rdL_nil {xs : List (List Int)} {i : Int} (h1 : (xs.length : Int) ≤ i) : rd_L2 xs i = [] := by
  simp only [rd_L2, List.getD_eq_getElem?_getD]
  rw [List.getElem?_eq_none (by omega)]
  rfl
theorem rdL_le {xs : List (List Int)} {n : Nat} (h : ∀ x ∈ xs, x.length ≤ n) (i : Int) (h0 : 0 ≤ i) : (rd_L2 xs i).length ≤ n := by
  by_cases h1 : i < (xs.length : Int)
  · exact h _ (rdL_mem h0 h1)
  · rw [rdL_nil (by omega)]; exact Nat.zero_le _
def Sm (f : Nat → Int) : Nat → Int
  | 0 => 0
  | n + 1 => Sm f n + f n
theorem Sm_congr {f g : Nat → Int} : ∀ n : Nat, (∀ j, j < n → f j = g j) → Sm f n = Sm g n := by
  intro n
  induction n with
  | zero => intro _; rfl
  | succ n ih =>
    intro h
    have h1 := ih (fun j hj => h j (by omega))
    have h2 := h n (by omega)
    simp only [Sm]; omega
theorem Sm_one {f g : Nat → Int} {i : Nat} : ∀ n : Nat, i < n → f i = g i + 1 → (∀ j, j < n → j ≠ i → f j = g j) → Sm f n = Sm g n + 1 := by
  intro n
  induction n with
  | zero => intro h; omega
  | succ n ih =>
    intro hi he h
    simp only [Sm]
    by_cases e : i = n
    · subst e
      have h1 := Sm_congr (f := f) (g := g) i (fun j hj => h j (by omega) (by omega))
      omega
    · have h1 := ih (by omega) he (fun j hj hn => h j (by omega) hn)
      have h2 := h n (by omega) (fun h => e h.symm)
      omega
theorem Sm_ge {f : Nat → Int} : ∀ n : Nat, (∀ j, j < n → 0 ≤ f j) → 0 ≤ Sm f n ∧ ∀ j, j < n → f j ≤ Sm f n := by
  intro n
  induction n with
  | zero => intro _; exact ⟨by simp [Sm], fun j hj => by omega⟩
  | succ n ih =>
    intro h
    obtain ⟨h1, h2⟩ := ih (fun j hj => h j (by omega))
    have h3 := h n (by omega)
    simp only [Sm]
    refine ⟨by omega, fun j hj => ?_⟩
    by_cases e : j = n
    · subst e; omega
    · have := h2 j (by omega); omega
theorem Sm_pos {f : Nat → Int} : ∀ n : Nat, 0 < Sm f n → ∃ j, j < n ∧ 0 < f j := by
  intro n
  induction n with
  | zero => intro h; simp [Sm] at h
  | succ n ih =>
    intro h
    simp only [Sm] at h
    by_cases e : 0 < f n
    · exact ⟨n, by omega, e⟩
    · obtain ⟨j, hj, hp⟩ := ih (by omega)
      exact ⟨j, by omega, hp⟩
/-- How much of queue j has been served, i queues into round k. -/
def atF (x0 : List (List Int)) (k i j : Nat) : Int := if j < i then (if k + 1 ≤ (rd_L2 x0 (j : Int)).length then ((k + 1 : Nat) : Int) else ((rd_L2 x0 (j : Int)).length : Int)) else (if k ≤ (rd_L2 x0 (j : Int)).length then (k : Int) else ((rd_L2 x0 (j : Int)).length : Int))
def atL (x0 : List (List Int)) (k i : Nat) : List Int := (List.range x0.length).map (atF x0 k i)
theorem atL_length (x0 : List (List Int)) (k i : Nat) : (atL x0 k i).length = x0.length := by simp [atL]
theorem rd_atL (x0 : List (List Int)) (k i j : Nat) (h : j < x0.length) : rd (atL x0 k i) (j : Int) = atF x0 k i j := by simp [rd, atL, h]
theorem atL_ext (x0 : List (List Int)) (k i k2 i2 : Nat) (h : ∀ j, j < x0.length → atF x0 k i j = atF x0 k2 i2 j) : atL x0 k i = atL x0 k2 i2 := by
  unfold atL
  refine List.map_congr_left (fun j hj => h j (by simpa using hj))
theorem atL_set (x0 : List (List Int)) (k i : Nat) (hi : i < x0.length) (hk : k < (rd_L2 x0 (i : Int)).length) : (atL x0 k i).set i ((k : Int) + 1) = atL x0 k (i + 1) := by
  refine List.ext_getElem (by simp [atL]) (fun j h1 h2 => ?_)
  simp only [atL, List.length_map, List.length_range] at h2
  simp only [List.getElem_set, atL, List.getElem_map, List.getElem_range]
  by_cases e : i = j
  · subst e
    simp only [↓reduceIte, atF, if_pos (Nat.lt_succ_self i), if_pos (show k + 1 ≤ (rd_L2 x0 (i : Int)).length by omega)]
    omega
  · simp only [if_neg e, atF]
    by_cases h3 : j < i
    · simp only [if_pos h3, if_pos (show j < i + 1 by omega)]
    · simp only [if_neg h3, if_neg (show ¬ j < i + 1 by omega)]
/-- What is left. -/
def rest (x0 : List (List Int)) (k i : Nat) : Int := Sm (fun j => ((rd_L2 x0 (j : Int)).length : Int) - atF x0 k i j) x0.length
theorem at_le (x0 : List (List Int)) (k i j : Nat) : 0 ≤ ((rd_L2 x0 (j : Int)).length : Int) - atF x0 k i j := by
  unfold atF
  split <;> split <;> omega
theorem rest_def (x0 : List (List Int)) (k i : Nat) : rest x0 k i = Sm (fun j => ((rd_L2 x0 (j : Int)).length : Int) - atF x0 k i j) x0.length := rfl
theorem at_nonneg (x0 : List (List Int)) (k i j : Nat) : 0 ≤ atF x0 k i j := by
  unfold atF
  split <;> split <;> omega
theorem at_here (x0 : List (List Int)) (k i : Nat) : atF x0 k i i = if k ≤ (rd_L2 x0 (i : Int)).length then (k : Int) else ((rd_L2 x0 (i : Int)).length : Int) := by
  unfold atF
  rw [if_neg (Nat.lt_irrefl i)]
theorem rest_nonneg (x0 : List (List Int)) (k i : Nat) : 0 ≤ rest x0 k i := (Sm_ge _ (fun j _ => at_le x0 k i j)).1
theorem rest_step (x0 : List (List Int)) (k i : Nat) (hi : i < x0.length) (hk : k < (rd_L2 x0 (i : Int)).length) : rest x0 k i = rest x0 k (i + 1) + 1 := by
  refine Sm_one (i := i) _ hi ?_ (fun j hj hn => ?_)
  · simp only [atF, if_neg (Nat.lt_irrefl i), if_pos (Nat.lt_succ_self i), if_pos (show k ≤ (rd_L2 x0 (i : Int)).length by omega), if_pos (show k + 1 ≤ (rd_L2 x0 (i : Int)).length by omega)]
    omega
  · simp only [atF]
    by_cases h3 : j < i
    · simp only [if_pos h3, if_pos (show j < i + 1 by omega)]
    · simp only [if_neg h3, if_neg (show ¬ j < i + 1 by omega)]
theorem at_skip (x0 : List (List Int)) (k i : Nat) (hk : ¬ k < (rd_L2 x0 (i : Int)).length) (j : Nat) : atF x0 k i j = atF x0 k (i + 1) j := by
  simp only [atF]
  by_cases e : j = i
  · subst e
    simp only [if_neg (Nat.lt_irrefl j), if_pos (Nat.lt_succ_self j), if_neg (show ¬ k + 1 ≤ (rd_L2 x0 (j : Int)).length by omega)]
    split <;> omega
  · by_cases h3 : j < i
    · simp only [if_pos h3, if_pos (show j < i + 1 by omega)]
    · simp only [if_neg h3, if_neg (show ¬ j < i + 1 by omega)]
theorem rest_skip (x0 : List (List Int)) (k i : Nat) (hk : ¬ k < (rd_L2 x0 (i : Int)).length) : rest x0 k i = rest x0 k (i + 1) := by
  unfold rest
  exact Sm_congr _ (fun j _ => by rw [at_skip x0 k i hk j])
theorem at_next (x0 : List (List Int)) (k j : Nat) (hj : j < x0.length) : atF x0 k x0.length j = atF x0 (k + 1) 0 j := by
  simp only [atF, if_pos hj, if_neg (Nat.not_lt_zero j)]
theorem rest_next (x0 : List (List Int)) (k : Nat) : rest x0 k x0.length = rest x0 (k + 1) 0 := by
  unfold rest
  exact Sm_congr _ (fun j hj => by rw [at_next x0 k j hj])
theorem rest_zero (x0 : List (List Int)) (k i j : Nat) (h : rest x0 k i = 0) (hj : j < x0.length) (hij : i ≤ j) : ¬ k < (rd_L2 x0 (j : Int)).length := by
  intro hk
  have h2 : ((rd_L2 x0 (j : Int)).length : Int) - atF x0 k i j ≤ rest x0 k i := (Sm_ge (f := fun j => ((rd_L2 x0 (j : Int)).length : Int) - atF x0 k i j) x0.length (fun j _ => at_le x0 k i j)).2 j hj
  have h3 : atF x0 k i j = (k : Int) := by simp only [atF, if_neg (show ¬ j < i by omega), if_pos (show k ≤ (rd_L2 x0 (j : Int)).length by omega)]
  rw [h3] at h2
  omega
theorem rest_more (x0 : List (List Int)) (k i : Nat) (hl : ∀ j : Nat, j < x0.length → (rd_L2 x0 (j : Int)).length ≤ 60) (h : 0 < rest x0 k i) : k < 60 := by
  obtain ⟨j, hj, hp⟩ := Sm_pos _ h
  have := hl j hj
  simp only [atF] at hp
  split at hp <;> split at hp <;> omega
attribute [local irreducible] rest atL atF
section
variable (x0 : List (List Int)) (hn : 1 ≤ x0.length ∧ x0.length ≤ 8) (hl : ∀ j : Nat, j < x0.length → (rd_L2 x0 (j : Int)).length ≤ 60)
include hn hl
/-- Where nothing more is served, the program's round goes by. -/
theorem idle (k : Nat) (hk : k ≤ 100) (turns left : Int) (out : List Int) (t0 : 0 ≤ turns) (l0 : 0 ≤ left) (h : turns = 0 ∨ left = 0) : ∀ (d i : Nat), x0.length - i ≤ d → (∀ j, i ≤ j → j < x0.length → turns = 0 ∨ ¬ k < (rd_L2 x0 (j : Int)).length) →
    Ev (fun q => impl_Fair.l2 q x0 turns left out (k : Int) x0 (x0.length : Int) (i : Int)) (out, true) := by
  have last : ∀ i : Nat, x0.length ≤ i → Ev (fun q => impl_Fair.l2 q x0 turns left out (k : Int) x0 (x0.length : Int) (i : Int)) (out, true) := by
    intro i hi
    refine ev_unroll ?_
    simp (disch := omega) only [impl_Fair.l2, ↓if_neg, w64]
    by_cases ht : turns > 0
    · refine ev_unroll ?_
      simp only [impl_Fair.l1, if_pos ht, decide_eq_false (show ¬ left > 0 by omega)]
      refine ev_unroll ?_
      simp only [impl_Fair.j3, Bool.false_eq_true, ↓reduceIte]
      exact Ev.now _
    · refine ev_unroll ?_
      simp only [impl_Fair.l1, if_neg ht]
      refine ev_unroll ?_
      simp only [impl_Fair.j3, Bool.false_eq_true, ↓reduceIte]
      exact Ev.now _
  intro d
  induction d with
  | zero => exact fun i hd _ => last i (by omega)
  | succ d ih =>
    intro i hd hj
    by_cases hi : i < x0.length
    · have p := ih (i + 1) (by omega) (fun j h1 h2 => hj j (by omega) h2)
      have e : ((i + 1 : Nat) : Int) = (i : Int) + 1 := by omega
      rw [e] at p
      have hi2 : (i : Int) < (x0.length : Int) := by omega
      have hw : wrap64 ((i : Int) + 1) = (i : Int) + 1 := w64 (by omega) (by omega)
      refine ev_unroll ?_
      by_cases hk2 : (k : Int) < ((rd_L2 x0 (i : Int)).length : Int)
      · have ht : ¬ turns > 0 := by
          rcases hj i (Nat.le_refl _) hi with h1 | h1
          · omega
          · exact absurd (by omega) h1
        simp only [impl_Fair.l2, if_pos hi2, if_pos (show (0 : Int) ≤ (i : Int) by omega), if_pos hk2, if_neg ht, hw]
        exact p
      · simp only [impl_Fair.l2, if_pos hi2, if_pos (show (0 : Int) ≤ (i : Int) by omega), if_neg hk2, hw]
        exact p
    · exact last i (by omega)
set_option maxHeartbeats 1000000 in
theorem fair_walk : ∀ (d k i : Nat) (turns : Int) (out : List Int), (61 - k) * 8 + (8 - i) ≤ d → k ≤ 60 → i < x0.length → 0 ≤ turns → turns ≤ 500 → (out.length : Int) + turns ≤ 500 →
    ∃ r : List Int × Bool, r.1.length ≤ 500 ∧ Ev (fun q => spec_Fair.l1 q x0 turns out (rest x0 k i) (atL x0 k i) (i : Int)) r ∧ Ev (fun q => impl_Fair.l2 q x0 turns (rest x0 k i) out (k : Int) x0 (x0.length : Int) (i : Int)) r := by
  intro d
  induction d with
  | zero => intro k i turns out hd hk hi; omega
  | succ d ih =>
    intro k i turns out hd hk hi t0 t1 ho
    have hr0 := rest_nonneg x0 k i
    have hrb : rest x0 k i ≤ 1000000 := by
      have key : ∀ n : Nat, n ≤ x0.length → Sm (fun j => ((rd_L2 x0 (j : Int)).length : Int) - atF x0 k i j) n ≤ 60 * (n : Int) := by
        intro n
        induction n with
        | zero => intro _; simp [Sm]
        | succ n ihn =>
          intro hnn
          have h1 := ihn (by omega)
          have h2 := hl n (by omega)
          have h3 : 0 ≤ atF x0 k i n := at_nonneg x0 k i n
          simp only [Sm]
          omega
      have := key x0.length (Nat.le_refl _)
      rw [rest_def]
      omega
    by_cases hgo : turns > 0 ∧ rest x0 k i > 0
    · obtain ⟨ht, hrest⟩ := hgo
      have hk60 := rest_more x0 k i hl hrest
      have hi2 : (i : Int) < (x0.length : Int) := by omega
      have hi0 : (0 : Int) ≤ (i : Int) := by omega
      have hw := Aside0.mk (show wrap64 ((i : Int) + 1) = (i : Int) + 1 from w64 (by omega) (by omega))
      have hne : ¬ (x0.length : Int) = 0 := by omega
      -- what comes behind this queue
      have next : ∀ (turns2 : Int) (out2 : List Int), 0 ≤ turns2 → turns2 ≤ 500 → (out2.length : Int) + turns2 ≤ 500 → ∃ r : List Int × Bool, r.1.length ≤ 500 ∧ Ev (fun q => spec_Fair.l1 q x0 turns2 out2 (rest x0 k (i + 1)) (atL x0 k (i + 1)) (Int.tmod ((i : Int) + 1) (x0.length : Int))) r ∧ Ev (fun q => impl_Fair.l2 q x0 turns2 (rest x0 k (i + 1)) out2 (k : Int) x0 (x0.length : Int) ((i : Int) + 1)) r := by
        intro turns2 out2 u0 u1 uo
        by_cases hin : i + 1 < x0.length
        · have et := Aside0.mk (show Int.tmod ((i : Int) + 1) (x0.length : Int) = ((i + 1 : Nat) : Int) from (Int.tmod_eq_of_lt (by omega) (by omega)).trans (by omega))
          have e : (i : Int) + 1 = ((i + 1 : Nat) : Int) := by omega
          rw [et.out, e]
          exact ih k (i + 1) turns2 out2 (by omega) hk hin u0 u1 uo
        · have en : i + 1 = x0.length := by omega
          have ei : (i : Int) + 1 = (x0.length : Int) := by omega
          have et := Aside0.mk (show Int.tmod ((i : Int) + 1) (x0.length : Int) = 0 from by rw [ei, Int.tmod_self])
          have e1 : rest x0 k (i + 1) = rest x0 (k + 1) 0 := by rw [en]; exact rest_next x0 k
          have e2 : atL x0 k (i + 1) = atL x0 (k + 1) 0 := by rw [en]; exact atL_ext _ _ _ _ _ (fun j hj => at_next x0 k j hj)
          rw [et.out, e1, e2]
          clear e1 e2
          have hnl : ¬ (i : Int) + 1 < (x0.length : Int) := by omega
          have hwk := Aside0.mk (show wrap64 ((k : Int) + 1) = ((k + 1 : Nat) : Int) from (w64 (by omega) (by omega)).trans (by omega))
          have hr2 := rest_nonneg x0 (k + 1) 0
          by_cases hgo2 : turns2 > 0 ∧ rest x0 (k + 1) 0 > 0
          · obtain ⟨r, b, p, q⟩ := ih (k + 1) 0 turns2 out2 (by omega) (by omega) (by omega) u0 u1 uo
            rw [show ((0 : Nat) : Int) = 0 from rfl] at p q
            refine ⟨r, b, p, ev_unroll ?_⟩
            simp only [impl_Fair.l2, if_neg hnl, hwk.out]
            refine ev_unroll ?_
            simp only [impl_Fair.l1, if_pos hgo2.1, decide_eq_true hgo2.2]
            refine ev_unroll ?_
            simp only [impl_Fair.j3, ↓reduceIte]
            exact q
          · refine ⟨(out2, true), by simp only; omega, ?_, ev_unroll ?_⟩
            · by_cases h1 : turns2 > 0
              · refine ev_unroll ?_
                simp only [spec_Fair.l1, if_pos h1, decide_eq_false (show ¬ rest x0 (k + 1) 0 > 0 from fun h => hgo2 ⟨h1, h⟩)]
                refine ev_unroll ?_
                simp only [spec_Fair.j3, Bool.false_eq_true, ↓reduceIte]
                exact Ev.now _
              · refine ev_unroll ?_
                simp only [spec_Fair.l1, if_neg h1]
                refine ev_unroll ?_
                simp only [spec_Fair.j3, Bool.false_eq_true, ↓reduceIte]
                exact Ev.now _
            · simp only [impl_Fair.l2, if_neg hnl, hwk.out]
              by_cases h1 : turns2 > 0
              · refine ev_unroll ?_
                simp only [impl_Fair.l1, if_pos h1, decide_eq_false (show ¬ rest x0 (k + 1) 0 > 0 from fun h => hgo2 ⟨h1, h⟩)]
                refine ev_unroll ?_
                simp only [impl_Fair.j3, Bool.false_eq_true, ↓reduceIte]
                exact Ev.now _
              · refine ev_unroll ?_
                simp only [impl_Fair.l1, if_neg h1]
                refine ev_unroll ?_
                simp only [impl_Fair.j3, Bool.false_eq_true, ↓reduceIte]
                exact Ev.now _
      have hal : (i : Int) < ((atL x0 k i).length : Int) := by rw [atL_length]; omega
      have ho2 : out.length < 17592186044416 := by omega
      by_cases hc : (k : Int) < ((rd_L2 x0 (i : Int)).length : Int)
      · have ea : rd (atL x0 k i) (i : Int) = (k : Int) := by
          rw [rd_atL x0 k i i hi]
          rw [at_here, if_pos (show k ≤ (rd_L2 x0 (i : Int)).length by omega)]
        have hst := rest_step x0 k i hi (by omega)
        obtain ⟨r, b, p, q⟩ := next (turns - 1) (out ++ [rd (rd_L2 x0 (i : Int)) (k : Int)]) (by omega) (by omega) (by rw [List.length_append, List.length_singleton]; omega)
        have wr := Aside0.mk (show wrap64 (rest x0 k i - 1) = rest x0 k (i + 1) from (w64 (by omega) (by omega)).trans (by omega))
        have wt := Aside0.mk (show wrap64 (turns - 1) = turns - 1 from w64 (by omega) (by omega))
        have wk := Aside0.mk (show wrap64 ((k : Int) + 1) = (k : Int) + 1 from w64 (by omega) (by omega))
        refine ⟨r, b, ev_unroll ?_, ev_unroll ?_⟩
        · simp only [spec_Fair.l1, if_pos ht, decide_eq_true hrest]
          refine ev_unroll ?_
          simp only [spec_Fair.j3, ↓reduceIte, if_pos hi0, if_pos hal, if_pos hi2, ea, if_pos hc, if_pos (show (0 : Int) ≤ (k : Int) by omega), if_pos ho2, if_neg hne, wr.out, wt.out, wk.out, hw.out, Int.toNat_natCast, atL_set x0 k i hi (by omega)]
          exact p
        · simp only [impl_Fair.l2, if_pos hi2, if_pos hi0, if_pos hc, if_pos ht, if_pos (show (0 : Int) ≤ (k : Int) by omega), if_pos ho2, wr.out, wt.out, hw.out]
          exact q
      · have ea : rd (atL x0 k i) (i : Int) = ((rd_L2 x0 (i : Int)).length : Int) := by
          rw [rd_atL x0 k i i hi]
          rw [at_here]
          split <;> omega
        have hst := rest_skip x0 k i (by omega)
        have hat : atL x0 k i = atL x0 k (i + 1) := atL_ext _ _ _ _ _ (fun j _ => at_skip x0 k i (by omega) j)
        obtain ⟨r, b, p, q⟩ := next turns out t0 t1 ho
        refine ⟨r, b, ev_unroll ?_, ev_unroll ?_⟩
        · simp only [spec_Fair.l1, if_pos ht, decide_eq_true hrest]
          refine ev_unroll ?_
          simp only [spec_Fair.j3, ↓reduceIte, if_pos hi0, if_pos hal, if_pos hi2, ea, if_neg (show ¬ ((rd_L2 x0 (i : Int)).length : Int) < ((rd_L2 x0 (i : Int)).length : Int) by omega), if_neg hne, hw.out]
          rw [hst, hat]
          exact p
        · simp only [impl_Fair.l2, if_pos hi2, if_pos hi0, if_neg hc, hw.out]
          rw [hst]
          exact q
    · refine ⟨(out, true), by simp only; omega, ?_, ?_⟩
      · by_cases h1 : turns > 0
        · refine ev_unroll ?_
          simp only [spec_Fair.l1, if_pos h1, decide_eq_false (show ¬ rest x0 k i > 0 from fun h => hgo ⟨h1, h⟩)]
          refine ev_unroll ?_
          simp only [spec_Fair.j3, Bool.false_eq_true, ↓reduceIte]
          exact Ev.now _
        · refine ev_unroll ?_
          simp only [spec_Fair.l1, if_neg h1]
          refine ev_unroll ?_
          simp only [spec_Fair.j3, Bool.false_eq_true, ↓reduceIte]
          exact Ev.now _
      · refine idle x0 hn hl k (by omega) turns (rest x0 k i) out t0 hr0 (by omega) x0.length i (by omega) (fun j h1 h2 => ?_)
        by_cases h3 : turns = 0
        · exact .inl h3
        · exact .inr (rest_zero x0 k i j (by omega) h2 h1)
end
/-- Who is served with which of his own: from queue i in round k on, t turns. -/
def trc (len : Nat → Nat) (n : Nat) : Nat → Nat → Nat → Nat → List (Nat × Nat)
  | 0, _, _, _ => []
  | d + 1, k, i, t => if t = 0 then [] else if k < len i then (i, k) :: trc len n d (if i + 1 < n then k else k + 1) (if i + 1 < n then i + 1 else 0) (t - 1) else trc len n d (if i + 1 < n then k else k + 1) (if i + 1 < n then i + 1 else 0) t
theorem trc_zero (len : Nat → Nat) (n d k i : Nat) : trc len n d k i 0 = [] := by
  cases d with
  | zero => rfl
  | succ d => simp [trc]
theorem trc_serve (len : Nat → Nat) (n d k i t : Nat) (ht : 0 < t) (h : k < len i) : trc len n (d + 1) k i t = (i, k) :: trc len n d (if i + 1 < n then k else k + 1) (if i + 1 < n then i + 1 else 0) (t - 1) := by
  rw [trc, if_neg (by omega), if_pos h]
theorem trc_pass (len : Nat → Nat) (n d k i t : Nat) (ht : 0 < t) (h : ¬ k < len i) : trc len n (d + 1) k i t = trc len n d (if i + 1 < n then k else k + 1) (if i + 1 < n then i + 1 else 0) t := by
  rw [trc, if_neg (by omega), if_neg h]
theorem trc_none (len : Nat → Nat) (n : Nat) : ∀ (d k i t : Nat), i < n → (∀ k' j, j < n → (k < k' ∨ k = k' ∧ i ≤ j) → ¬ k' < len j) → trc len n d k i t = [] := by
  intro d
  induction d with
  | zero => intro k i t _ _; rfl
  | succ d ih =>
    intro k i t hi h
    by_cases ht : t = 0
    · rw [ht]; exact trc_zero _ _ _ _ _
    rw [trc_pass _ _ _ _ _ _ (by omega) (h k i hi (.inr ⟨rfl, Nat.le_refl _⟩))]
    by_cases c : i + 1 < n
    · rw [if_pos c, if_pos c]
      exact ih k (i + 1) t c (fun k' j hj hh => h k' j hj (by omega))
    · rw [if_neg c, if_neg c]
      exact ih (k + 1) 0 t (by omega) (fun k' j hj hh => h k' j hj (by omega))
def lenF (x0 : List (List Int)) (j : Nat) : Nat := (rd_L2 x0 (j : Int)).length
def valF (x0 : List (List Int)) (p : Nat × Nat) : Int := rd (rd_L2 x0 (p.1 : Int)) (p.2 : Int)
attribute [local semireducible] rest atL atF
theorem trc_rest (x0 : List (List Int)) (k i : Nat) (h : ¬ rest x0 k i > 0) (hi : i < x0.length) (d t : Nat) : trc (lenF x0) x0.length d k i t = [] := by
  have h0 := rest_nonneg x0 k i
  refine trc_none _ _ d k i t hi (fun k' j hj hh hlt => ?_)
  have h2 : ((rd_L2 x0 (j : Int)).length : Int) - atF x0 k i j ≤ rest x0 k i := (Sm_ge (f := fun j => ((rd_L2 x0 (j : Int)).length : Int) - atF x0 k i j) x0.length (fun j _ => at_le x0 k i j)).2 j hj
  unfold lenF at hlt
  unfold atF at h2
  split at h2 <;> split at h2 <;> omega
attribute [local irreducible] rest atL atF
section
variable (x0 : List (List Int)) (hn : 1 ≤ x0.length ∧ x0.length ≤ 8) (hl : ∀ j : Nat, j < x0.length → (rd_L2 x0 (j : Int)).length ≤ 60)
include hn hl
set_option maxHeartbeats 1000000 in
theorem fair_trace : ∀ (d k i : Nat) (turns : Int) (out : List Int), (61 - k) * 8 + (8 - i) ≤ d → k ≤ 60 → i < x0.length → 0 ≤ turns → turns ≤ 500 → (out.length : Int) + turns ≤ 500 →
    Ev (fun q => spec_Fair.l1 q x0 turns out (rest x0 k i) (atL x0 k i) (i : Int)) (out ++ (trc (lenF x0) x0.length d k i turns.toNat).map (valF x0), true) ∧ Ev (fun q => impl_Fair.l2 q x0 turns (rest x0 k i) out (k : Int) x0 (x0.length : Int) (i : Int)) (out ++ (trc (lenF x0) x0.length d k i turns.toNat).map (valF x0), true) := by
  intro d
  induction d with
  | zero => intro k i turns out hd hk hi; omega
  | succ d ih =>
    intro k i turns out hd hk hi t0 t1 ho
    have hr0 := rest_nonneg x0 k i
    have hrb : rest x0 k i ≤ 1000000 := by
      have key : ∀ n : Nat, n ≤ x0.length → Sm (fun j => ((rd_L2 x0 (j : Int)).length : Int) - atF x0 k i j) n ≤ 60 * (n : Int) := by
        intro n
        induction n with
        | zero => intro _; simp [Sm]
        | succ n ihn =>
          intro hnn
          have h1 := ihn (by omega)
          have h2 := hl n (by omega)
          have h3 : 0 ≤ atF x0 k i n := at_nonneg x0 k i n
          simp only [Sm]
          omega
      have := key x0.length (Nat.le_refl _)
      rw [rest_def]
      omega
    by_cases hgo : turns > 0 ∧ rest x0 k i > 0
    · obtain ⟨ht, hrest⟩ := hgo
      have hk60 := rest_more x0 k i hl hrest
      have hi2 : (i : Int) < (x0.length : Int) := by omega
      have hi0 : (0 : Int) ≤ (i : Int) := by omega
      have hw := Aside0.mk (show wrap64 ((i : Int) + 1) = (i : Int) + 1 from w64 (by omega) (by omega))
      have hne : ¬ (x0.length : Int) = 0 := by omega
      -- what comes behind this queue
      have next : ∀ (turns2 : Int) (out2 : List Int), 0 ≤ turns2 → turns2 ≤ 500 → (out2.length : Int) + turns2 ≤ 500 → Ev (fun q => spec_Fair.l1 q x0 turns2 out2 (rest x0 k (i + 1)) (atL x0 k (i + 1)) (Int.tmod ((i : Int) + 1) (x0.length : Int))) (out2 ++ (trc (lenF x0) x0.length d (if i + 1 < x0.length then k else k + 1) (if i + 1 < x0.length then i + 1 else 0) turns2.toNat).map (valF x0), true) ∧ Ev (fun q => impl_Fair.l2 q x0 turns2 (rest x0 k (i + 1)) out2 (k : Int) x0 (x0.length : Int) ((i : Int) + 1)) (out2 ++ (trc (lenF x0) x0.length d (if i + 1 < x0.length then k else k + 1) (if i + 1 < x0.length then i + 1 else 0) turns2.toNat).map (valF x0), true) := by
        intro turns2 out2 u0 u1 uo
        by_cases hin : i + 1 < x0.length
        · have et := Aside0.mk (show Int.tmod ((i : Int) + 1) (x0.length : Int) = ((i + 1 : Nat) : Int) from (Int.tmod_eq_of_lt (by omega) (by omega)).trans (by omega))
          have e : (i : Int) + 1 = ((i + 1 : Nat) : Int) := by omega
          rw [et.out, e, if_pos hin, if_pos hin]
          exact ih k (i + 1) turns2 out2 (by omega) hk hin u0 u1 uo
        · have en : i + 1 = x0.length := by omega
          have ei : (i : Int) + 1 = (x0.length : Int) := by omega
          have et := Aside0.mk (show Int.tmod ((i : Int) + 1) (x0.length : Int) = 0 from by rw [ei, Int.tmod_self])
          have e1 : rest x0 k (i + 1) = rest x0 (k + 1) 0 := by rw [en]; exact rest_next x0 k
          have e2 : atL x0 k (i + 1) = atL x0 (k + 1) 0 := by rw [en]; exact atL_ext _ _ _ _ _ (fun j hj => at_next x0 k j hj)
          rw [et.out, e1, e2, if_neg hin, if_neg hin]
          clear e1 e2
          have hnl : ¬ (i : Int) + 1 < (x0.length : Int) := by omega
          have hwk := Aside0.mk (show wrap64 ((k : Int) + 1) = ((k + 1 : Nat) : Int) from (w64 (by omega) (by omega)).trans (by omega))
          have hr2 := rest_nonneg x0 (k + 1) 0
          by_cases hgo2 : turns2 > 0 ∧ rest x0 (k + 1) 0 > 0
          · obtain ⟨p, q⟩ := ih (k + 1) 0 turns2 out2 (by omega) (by omega) (by omega) u0 u1 uo
            rw [show ((0 : Nat) : Int) = 0 from rfl] at p q
            refine ⟨p, ev_unroll ?_⟩
            simp only [impl_Fair.l2, if_neg hnl, hwk.out]
            refine ev_unroll ?_
            simp only [impl_Fair.l1, if_pos hgo2.1, decide_eq_true hgo2.2]
            refine ev_unroll ?_
            simp only [impl_Fair.j3, ↓reduceIte]
            exact q
          · have en2 : trc (lenF x0) x0.length d (k + 1) 0 turns2.toNat = [] := by
              by_cases h1 : turns2 > 0
              · exact trc_rest x0 (k + 1) 0 (fun h => hgo2 ⟨h1, h⟩) (by omega) d _
              · rw [show turns2.toNat = 0 by omega]; exact trc_zero _ _ _ _ _
            rw [en2, List.map_nil, List.append_nil]
            refine ⟨?_, ev_unroll ?_⟩
            · by_cases h1 : turns2 > 0
              · refine ev_unroll ?_
                simp only [spec_Fair.l1, if_pos h1, decide_eq_false (show ¬ rest x0 (k + 1) 0 > 0 from fun h => hgo2 ⟨h1, h⟩)]
                refine ev_unroll ?_
                simp only [spec_Fair.j3, Bool.false_eq_true, ↓reduceIte]
                exact Ev.now _
              · refine ev_unroll ?_
                simp only [spec_Fair.l1, if_neg h1]
                refine ev_unroll ?_
                simp only [spec_Fair.j3, Bool.false_eq_true, ↓reduceIte]
                exact Ev.now _
            · simp only [impl_Fair.l2, if_neg hnl, hwk.out]
              by_cases h1 : turns2 > 0
              · refine ev_unroll ?_
                simp only [impl_Fair.l1, if_pos h1, decide_eq_false (show ¬ rest x0 (k + 1) 0 > 0 from fun h => hgo2 ⟨h1, h⟩)]
                refine ev_unroll ?_
                simp only [impl_Fair.j3, Bool.false_eq_true, ↓reduceIte]
                exact Ev.now _
              · refine ev_unroll ?_
                simp only [impl_Fair.l1, if_neg h1]
                refine ev_unroll ?_
                simp only [impl_Fair.j3, Bool.false_eq_true, ↓reduceIte]
                exact Ev.now _
      have hal : (i : Int) < ((atL x0 k i).length : Int) := by rw [atL_length]; omega
      have ho2 : out.length < 17592186044416 := by omega
      by_cases hc : (k : Int) < ((rd_L2 x0 (i : Int)).length : Int)
      · have ea : rd (atL x0 k i) (i : Int) = (k : Int) := by
          rw [rd_atL x0 k i i hi]
          rw [at_here, if_pos (show k ≤ (rd_L2 x0 (i : Int)).length by omega)]
        have hst := rest_step x0 k i hi (by omega)
        obtain ⟨p, q⟩ := next (turns - 1) (out ++ [rd (rd_L2 x0 (i : Int)) (k : Int)]) (by omega) (by omega) (by rw [List.length_append, List.length_singleton]; omega)
        have wr := Aside0.mk (show wrap64 (rest x0 k i - 1) = rest x0 k (i + 1) from (w64 (by omega) (by omega)).trans (by omega))
        have wt := Aside0.mk (show wrap64 (turns - 1) = turns - 1 from w64 (by omega) (by omega))
        have wk := Aside0.mk (show wrap64 ((k : Int) + 1) = (k : Int) + 1 from w64 (by omega) (by omega))
        have etr : out ++ (trc (lenF x0) x0.length (d + 1) k i turns.toNat).map (valF x0) = (out ++ [rd (rd_L2 x0 (i : Int)) (k : Int)]) ++ (trc (lenF x0) x0.length d (if i + 1 < x0.length then k else k + 1) (if i + 1 < x0.length then i + 1 else 0) (turns - 1).toNat).map (valF x0) := by
          rw [trc_serve _ _ _ _ _ _ (by omega) (show k < lenF x0 i by unfold lenF; omega), List.map_cons, show (turns - 1).toNat = turns.toNat - 1 by omega]
          simp [valF]
        rw [etr]
        refine ⟨ev_unroll ?_, ev_unroll ?_⟩
        · simp only [spec_Fair.l1, if_pos ht, decide_eq_true hrest]
          refine ev_unroll ?_
          simp only [spec_Fair.j3, ↓reduceIte, if_pos hi0, if_pos hal, if_pos hi2, ea, if_pos hc, if_pos (show (0 : Int) ≤ (k : Int) by omega), if_pos ho2, if_neg hne, wr.out, wt.out, wk.out, hw.out, Int.toNat_natCast, atL_set x0 k i hi (by omega)]
          exact p
        · simp only [impl_Fair.l2, if_pos hi2, if_pos hi0, if_pos hc, if_pos ht, if_pos (show (0 : Int) ≤ (k : Int) by omega), if_pos ho2, wr.out, wt.out, hw.out]
          exact q
      · have ea : rd (atL x0 k i) (i : Int) = ((rd_L2 x0 (i : Int)).length : Int) := by
          rw [rd_atL x0 k i i hi]
          rw [at_here]
          split <;> omega
        have hst := rest_skip x0 k i (by omega)
        have hat : atL x0 k i = atL x0 k (i + 1) := atL_ext _ _ _ _ _ (fun j _ => at_skip x0 k i (by omega) j)
        obtain ⟨p, q⟩ := next turns out t0 t1 ho
        rw [trc_pass _ _ _ _ _ _ (by omega) (show ¬ k < lenF x0 i by unfold lenF; omega)]
        refine ⟨ev_unroll ?_, ev_unroll ?_⟩
        · simp only [spec_Fair.l1, if_pos ht, decide_eq_true hrest]
          refine ev_unroll ?_
          simp only [spec_Fair.j3, ↓reduceIte, if_pos hi0, if_pos hal, if_pos hi2, ea, if_neg (show ¬ ((rd_L2 x0 (i : Int)).length : Int) < ((rd_L2 x0 (i : Int)).length : Int) by omega), if_neg hne, hw.out]
          rw [hst, hat]
          exact p
        · simp only [impl_Fair.l2, if_pos hi2, if_pos hi0, if_neg hc, hw.out]
          rw [hst]
          exact q
    · have en : trc (lenF x0) x0.length (d + 1) k i turns.toNat = [] := by
        by_cases h1 : turns > 0
        · exact trc_rest x0 k i (fun h => hgo ⟨h1, h⟩) hi (d + 1) _
        · rw [show turns.toNat = 0 by omega]; exact trc_zero _ _ _ _ _
      rw [en, List.map_nil, List.append_nil]
      refine ⟨?_, ?_⟩
      · by_cases h1 : turns > 0
        · refine ev_unroll ?_
          simp only [spec_Fair.l1, if_pos h1, decide_eq_false (show ¬ rest x0 k i > 0 from fun h => hgo ⟨h1, h⟩)]
          refine ev_unroll ?_
          simp only [spec_Fair.j3, Bool.false_eq_true, ↓reduceIte]
          exact Ev.now _
        · refine ev_unroll ?_
          simp only [spec_Fair.l1, if_neg h1]
          refine ev_unroll ?_
          simp only [spec_Fair.j3, Bool.false_eq_true, ↓reduceIte]
          exact Ev.now _
      · refine idle x0 hn hl k (by omega) turns (rest x0 k i) out t0 hr0 (by omega) x0.length i (by omega) (fun j h1 h2 => ?_)
        by_cases h3 : turns = 0
        · exact .inl h3
        · exact .inr (rest_zero x0 k i j (by omega) h2 h1)
end
/-- How many numbers the first rows hold. -/
def tot (x0 : List (List Int)) : Nat → Int
  | 0 => 0
  | i + 1 => tot x0 i + ((rd_L2 x0 (i : Int)).length : Int)
theorem tot_nonneg (x0 : List (List Int)) : ∀ i, 0 ≤ tot x0 i := by
  intro i
  induction i with
  | zero => simp [tot]
  | succ i ih => simp only [tot]; omega
theorem tot_le (x0 : List (List Int)) (i : Nat) : ∀ d, tot x0 i ≤ tot x0 (i + d) := by
  intro d
  induction d with
  | zero => exact Int.le_refl _
  | succ d ih =>
    have : tot x0 (i + (d + 1)) = tot x0 (i + d) + ((rd_L2 x0 ((i + d : Nat) : Int)).length : Int) := rfl
    omega
theorem ev_unique {α : Type} {g : Nat → Option α} {r s : α} (h : Ev g r) (h2 : Ev g s) : r = s := by
  obtain ⟨a, ha⟩ := h
  obtain ⟨b, hb⟩ := h2
  have h3 := ha (a + b) (by omega)
  have h4 := hb (a + b) (by omega)
  rw [h3] at h4
  exact Option.some.inj h4
/-- The reference's count of what is there. -/
theorem spec_count (x0 : List (List Int)) (hn : x0.length ≤ 1048576) (hr : ∀ x ∈ x0, x.length ≤ 1048576) (turns : Int) :
    ((∀ j : Nat, j < x0.length → (rd_L2 x0 (j : Int)).length ≤ 60) → ∀ r, Ev (fun q => spec_Fair.l0 q x0 turns [] (tot x0 x0.length) (x0.length : Int)) r → Ev (fun q => spec_Fair.f q x0 turns) r) ∧ ((∃ j : Nat, j < x0.length ∧ ¬ (rd_L2 x0 (j : Int)).length ≤ 60) → Ev (fun q => spec_Fair.f q x0 turns) ([], false)) := by
  have key : ∀ (d i : Nat), x0.length - i = d → i ≤ x0.length → (tot x0 i ≤ 60 * (i : Int)) → ((∀ j : Nat, i ≤ j → j < x0.length → (rd_L2 x0 (j : Int)).length ≤ 60) → ∀ r, Ev (fun q => spec_Fair.l0 q x0 turns [] (tot x0 x0.length) (x0.length : Int)) r → Ev (fun q => spec_Fair.l0 q x0 turns [] (tot x0 i) (i : Int)) r) ∧ ((∃ j : Nat, i ≤ j ∧ j < x0.length ∧ ¬ (rd_L2 x0 (j : Int)).length ≤ 60) → Ev (fun q => spec_Fair.l0 q x0 turns [] (tot x0 i) (i : Int)) ([], false)) := by
    intro d
    induction d with
    | zero =>
      intro i hd hi _
      obtain rfl : i = x0.length := by omega
      exact ⟨fun _ r h => h, fun ⟨j, h1, h2, _⟩ => by omega⟩
    | succ d ih =>
      intro i hd hi ht
      have t0 := tot_nonneg x0 i
      have hrow := hr _ (rdL_mem (xs := x0) (i := (i : Int)) (by omega) (by omega))
      by_cases hc : (rd_L2 x0 (i : Int)).length ≤ 60
      · obtain ⟨p, q⟩ := ih (i + 1) (by omega) (by omega) (by simp only [tot]; omega)
        simp only [tot] at p q
        refine ⟨fun h r hx => ev_unroll ?_, fun ⟨j, h1, h2, h3⟩ => ev_unroll ?_⟩
        · have h4 := p (fun j h1 h2 => h j (by omega) h2) r hx
          simp (disch := omega) only [spec_Fair.l0, ↓if_pos, ↓if_neg, if_pos, if_neg, ↓reduceIte, w64, in_t, in_f, l1In_t, l1In_f, Option.bind_some, Bool.not_true, Bool.not_false, Bool.false_eq_true, tmod_nonneg, tdiv_nonneg]
          simpa using h4
        · have h4 := q ⟨j, by
            by_cases e : j = i
            · subst e; exact absurd hc h3
            · omega, h2, h3⟩
          simp (disch := omega) only [spec_Fair.l0, ↓if_pos, ↓if_neg, if_pos, if_neg, ↓reduceIte, w64, in_t, in_f, l1In_t, l1In_f, Option.bind_some, Bool.not_true, Bool.not_false, Bool.false_eq_true, tmod_nonneg, tdiv_nonneg]
          simpa using h4
      · refine ⟨fun h => absurd (h i (Nat.le_refl _) (by omega)) hc, fun _ => ev_unroll ?_⟩
        simp (disch := omega) only [spec_Fair.l0, ↓if_pos, ↓if_neg, if_pos, if_neg, ↓reduceIte, w64, in_t, in_f, l1In_t, l1In_f, Option.bind_some, Bool.not_true, Bool.not_false, Bool.false_eq_true, tmod_nonneg, tdiv_nonneg]
        exact Ev.now _
  obtain ⟨p, q⟩ := key x0.length 0 (by omega) (by omega) (by simp [tot])
  refine ⟨fun h r hx => p (fun j _ h2 => h j h2) r hx, fun ⟨j, h1, h2⟩ => q ⟨j, by omega, h1, h2⟩⟩
/-- The program's count. -/
theorem impl_count (x0 : List (List Int)) (hn : x0.length ≤ 1048576) (hr : ∀ x ∈ x0, x.length ≤ 1048576) (turns : Int) :
    ((∀ j : Nat, j < x0.length → (rd_L2 x0 (j : Int)).length ≤ 60) → ∀ r, Ev (fun q => impl_Fair.l1 q x0 turns (tot x0 x0.length) [] 0) r → Ev (fun q => impl_Fair.l0 q x0 turns 0 x0 (x0.length : Int) 0) r) ∧ ((∃ j : Nat, j < x0.length ∧ ¬ (rd_L2 x0 (j : Int)).length ≤ 60) → Ev (fun q => impl_Fair.l0 q x0 turns 0 x0 (x0.length : Int) 0) ([], false)) := by
  have key : ∀ (d i : Nat), x0.length - i = d → i ≤ x0.length → (tot x0 i ≤ 60 * (i : Int)) → ((∀ j : Nat, i ≤ j → j < x0.length → (rd_L2 x0 (j : Int)).length ≤ 60) → ∀ r, Ev (fun q => impl_Fair.l1 q x0 turns (tot x0 x0.length) [] 0) r → Ev (fun q => impl_Fair.l0 q x0 turns (tot x0 i) x0 (x0.length : Int) (i : Int)) r) ∧ ((∃ j : Nat, i ≤ j ∧ j < x0.length ∧ ¬ (rd_L2 x0 (j : Int)).length ≤ 60) → Ev (fun q => impl_Fair.l0 q x0 turns (tot x0 i) x0 (x0.length : Int) (i : Int)) ([], false)) := by
    intro d
    induction d with
    | zero =>
      intro i hd hi _
      obtain rfl : i = x0.length := by omega
      refine ⟨fun _ r h => ev_unroll ?_, fun ⟨j, h1, h2, _⟩ => by omega⟩
      simp (disch := omega) only [impl_Fair.l0, ↓if_pos, ↓if_neg, if_pos, if_neg, ↓reduceIte, w64, in_t, in_f, l1In_t, l1In_f, Option.bind_some, Bool.not_true, Bool.not_false, Bool.false_eq_true, tmod_nonneg, tdiv_nonneg]
      exact h
    | succ d ih =>
      intro i hd hi ht
      have t0 := tot_nonneg x0 i
      have hrow := hr _ (rdL_mem (xs := x0) (i := (i : Int)) (by omega) (by omega))
      by_cases hc : (rd_L2 x0 (i : Int)).length ≤ 60
      · obtain ⟨p, q⟩ := ih (i + 1) (by omega) (by omega) (by simp only [tot]; omega)
        simp only [tot] at p q
        refine ⟨fun h r hx => ev_unroll ?_, fun ⟨j, h1, h2, h3⟩ => ev_unroll ?_⟩
        · have h4 := p (fun j h1 h2 => h j (by omega) h2) r hx
          simp (disch := omega) only [impl_Fair.l0, ↓if_pos, ↓if_neg, if_pos, if_neg, ↓reduceIte, w64, in_t, in_f, l1In_t, l1In_f, Option.bind_some, Bool.not_true, Bool.not_false, Bool.false_eq_true, tmod_nonneg, tdiv_nonneg]
          simpa using h4
        · have h4 := q ⟨j, by
            by_cases e : j = i
            · subst e; exact absurd hc h3
            · omega, h2, h3⟩
          simp (disch := omega) only [impl_Fair.l0, ↓if_pos, ↓if_neg, if_pos, if_neg, ↓reduceIte, w64, in_t, in_f, l1In_t, l1In_f, Option.bind_some, Bool.not_true, Bool.not_false, Bool.false_eq_true, tmod_nonneg, tdiv_nonneg]
          simpa using h4
      · refine ⟨fun h => absurd (h i (Nat.le_refl _) (by omega)) hc, fun _ => ev_unroll ?_⟩
        simp (disch := omega) only [impl_Fair.l0, ↓if_pos, ↓if_neg, if_pos, if_neg, ↓reduceIte, w64, in_t, in_f, l1In_t, l1In_f, Option.bind_some, Bool.not_true, Bool.not_false, Bool.false_eq_true, tmod_nonneg, tdiv_nonneg]
        exact Ev.now _
  obtain ⟨p, q⟩ := key x0.length 0 (by omega) (by omega) (by simp [tot])
  refine ⟨fun h r hx => p (fun j _ h2 => h j h2) r hx, fun ⟨j, h1, h2⟩ => q ⟨j, by omega, h1, h2⟩⟩
attribute [local semireducible] rest atL atF
theorem rest_start (x0 : List (List Int)) : rest x0 0 0 = tot x0 x0.length := by
  have key : ∀ n : Nat, Sm (fun j => ((rd_L2 x0 (j : Int)).length : Int) - atF x0 0 0 j) n = tot x0 n := by
    intro n
    induction n with
    | zero => rfl
    | succ n ih =>
      have h : atF x0 0 0 n = 0 := by
        unfold atF
        rw [if_neg (Nat.not_lt_zero n), if_pos (Nat.zero_le _)]
        rfl
      simp only [Sm, tot, ih, h]
      omega
  exact key _
theorem atL_start (x0 : List (List Int)) : atL x0 0 0 = List.replicate x0.length 0 := by
  refine List.ext_getElem (by simp [atL]) (fun j h1 h2 => ?_)
  simp [atL, atF]
theorem both (x0 : List (List Int)) (turns : Int) (hn : x0.length ≤ 1048576) (hr : ∀ x ∈ x0, x.length ≤ 1048576) : ∃ r : List Int × Bool, r.1.length ≤ 1048576 ∧ Ev (fun k => spec_Fair.f k x0 turns) r ∧ Ev (fun k => impl_Fair.f k x0 turns) r := by
  obtain ⟨sp, sq⟩ := spec_count x0 hn hr turns
  obtain ⟨ip, iq⟩ := impl_count x0 hn hr turns
  by_cases hall : ∀ j : Nat, j < x0.length → (rd_L2 x0 (j : Int)).length ≤ 60
  · by_cases h1 : 1 ≤ (x0.length : Int) ∧ (x0.length : Int) ≤ 8
    · by_cases h2 : 0 ≤ turns ∧ turns ≤ 500
      · obtain ⟨r, b, p, q⟩ := fair_walk x0 (by omega) hall 600 0 0 turns [] (by omega) (by omega) (by omega) h2.1 h2.2 (by simpa using h2.2)
        rw [rest_start] at p q
        rw [atL_start] at p
        refine ⟨r, by omega, sp hall r (ev_unroll ?_), ?_⟩
        · simp (disch := omega) only [spec_Fair.l0, ↓if_pos, ↓if_neg, if_pos, if_neg, ↓reduceIte, w64, in_t, in_f, l1In_t, l1In_f, Option.bind_some, Bool.not_true, Bool.not_false, Bool.false_eq_true, tmod_nonneg, tdiv_nonneg]
          refine ev_unroll ?_
          simp (disch := omega) only [spec_Fair.j1, ↓if_pos, ↓if_neg, if_pos, if_neg, ↓reduceIte, w64, in_t, in_f, l1In_t, l1In_f, Option.bind_some, Bool.not_true, Bool.not_false, Bool.false_eq_true, tmod_nonneg, tdiv_nonneg]
          simpa using p
        · simp (disch := omega) only [impl_Fair.f, ↓if_pos, ↓if_neg, if_pos, if_neg, ↓reduceIte, w64, in_t, in_f, l1In_t, l1In_f, Option.bind_some, Bool.not_true, Bool.not_false, Bool.false_eq_true, tmod_nonneg, tdiv_nonneg]
          refine ev_unroll ?_
          simp (disch := omega) only [impl_Fair.j0, ↓if_pos, ↓if_neg, if_pos, if_neg, ↓reduceIte, w64, in_t, in_f, l1In_t, l1In_f, Option.bind_some, Bool.not_true, Bool.not_false, Bool.false_eq_true, tmod_nonneg, tdiv_nonneg]
          refine ip hall r (ev_unroll ?_)
          by_cases ht : turns > 0
          · by_cases hz : tot x0 x0.length > 0
            · simp only [impl_Fair.l1, if_pos ht, decide_eq_true hz]
              refine ev_unroll ?_
              simp only [impl_Fair.j3, ↓reduceIte]
              simpa using q
            · have e := ev_unique p (ev_unroll (r := ([], true)) (by
                simp only [spec_Fair.l1, if_pos ht, decide_eq_false hz]
                refine ev_unroll ?_
                simp only [spec_Fair.j3, Bool.false_eq_true, ↓reduceIte]
                exact Ev.now _))
              subst e
              simp only [impl_Fair.l1, if_pos ht, decide_eq_false hz]
              refine ev_unroll ?_
              simp only [impl_Fair.j3, Bool.false_eq_true, ↓reduceIte]
              exact Ev.now _
          · have e := ev_unique p (ev_unroll (r := ([], true)) (by
              simp only [spec_Fair.l1, if_neg ht]
              refine ev_unroll ?_
              simp only [spec_Fair.j3, Bool.false_eq_true, ↓reduceIte]
              exact Ev.now _))
            subst e
            simp only [impl_Fair.l1, if_neg ht]
            refine ev_unroll ?_
            simp only [impl_Fair.j3, Bool.false_eq_true, ↓reduceIte]
            exact Ev.now _
      · refine ⟨([], false), by simp, sp hall _ (ev_unroll ?_), ?_⟩
        · simp (disch := omega) only [spec_Fair.l0, ↓if_pos, ↓if_neg, if_pos, if_neg, ↓reduceIte, w64, in_t, in_f, l1In_t, l1In_f, Option.bind_some, Bool.not_true, Bool.not_false, Bool.false_eq_true, tmod_nonneg, tdiv_nonneg]
          refine ev_unroll ?_
          simp (disch := omega) only [spec_Fair.j1, ↓if_pos, ↓if_neg, if_pos, if_neg, ↓reduceIte, w64, in_t, in_f, l1In_t, l1In_f, Option.bind_some, Bool.not_true, Bool.not_false, Bool.false_eq_true, tmod_nonneg, tdiv_nonneg]
          exact Ev.now _
        · simp (disch := omega) only [impl_Fair.f, ↓if_pos, ↓if_neg, if_pos, if_neg, ↓reduceIte, w64, in_t, in_f, l1In_t, l1In_f, Option.bind_some, Bool.not_true, Bool.not_false, Bool.false_eq_true, tmod_nonneg, tdiv_nonneg]
          refine ev_unroll ?_
          simp (disch := omega) only [impl_Fair.j0, ↓if_pos, ↓if_neg, if_pos, if_neg, ↓reduceIte, w64, in_t, in_f, l1In_t, l1In_f, Option.bind_some, Bool.not_true, Bool.not_false, Bool.false_eq_true, tmod_nonneg, tdiv_nonneg]
          exact Ev.now _
    · refine ⟨([], false), by simp, sp hall _ (ev_unroll ?_), ?_⟩
      · simp (disch := omega) only [spec_Fair.l0, ↓if_pos, ↓if_neg, if_pos, if_neg, ↓reduceIte, w64, in_t, in_f, l1In_t, l1In_f, Option.bind_some, Bool.not_true, Bool.not_false, Bool.false_eq_true, tmod_nonneg, tdiv_nonneg]
        refine ev_unroll ?_
        simp (disch := omega) only [spec_Fair.j1, ↓if_pos, ↓if_neg, if_pos, if_neg, ↓reduceIte, w64, in_t, in_f, l1In_t, l1In_f, Option.bind_some, Bool.not_true, Bool.not_false, Bool.false_eq_true, tmod_nonneg, tdiv_nonneg]
        exact Ev.now _
      · simp (disch := omega) only [impl_Fair.f, ↓if_pos, ↓if_neg, if_pos, if_neg, ↓reduceIte, w64, in_t, in_f, l1In_t, l1In_f, Option.bind_some, Bool.not_true, Bool.not_false, Bool.false_eq_true, tmod_nonneg, tdiv_nonneg]
        refine ev_unroll ?_
        simp (disch := omega) only [impl_Fair.j0, ↓if_pos, ↓if_neg, if_pos, if_neg, ↓reduceIte, w64, in_t, in_f, l1In_t, l1In_f, Option.bind_some, Bool.not_true, Bool.not_false, Bool.false_eq_true, tmod_nonneg, tdiv_nonneg]
        exact Ev.now _
  · have hx : ∃ j : Nat, j < x0.length ∧ ¬ (rd_L2 x0 (j : Int)).length ≤ 60 := Classical.byContradiction fun h => hall fun j hj => Classical.byContradiction fun h2 => h ⟨j, hj, h2⟩
    refine ⟨([], false), by simp, sq hx, ?_⟩
    by_cases h1 : 1 ≤ (x0.length : Int) ∧ (x0.length : Int) ≤ 8
    · by_cases h2 : 0 ≤ turns ∧ turns ≤ 500
      · simp (disch := omega) only [impl_Fair.f, ↓if_pos, ↓if_neg, if_pos, if_neg, ↓reduceIte, w64, in_t, in_f, l1In_t, l1In_f, Option.bind_some, Bool.not_true, Bool.not_false, Bool.false_eq_true, tmod_nonneg, tdiv_nonneg]
        refine ev_unroll ?_
        simp (disch := omega) only [impl_Fair.j0, ↓if_pos, ↓if_neg, if_pos, if_neg, ↓reduceIte, w64, in_t, in_f, l1In_t, l1In_f, Option.bind_some, Bool.not_true, Bool.not_false, Bool.false_eq_true, tmod_nonneg, tdiv_nonneg]
        exact iq hx
      · simp (disch := omega) only [impl_Fair.f, ↓if_pos, ↓if_neg, if_pos, if_neg, ↓reduceIte, w64, in_t, in_f, l1In_t, l1In_f, Option.bind_some, Bool.not_true, Bool.not_false, Bool.false_eq_true, tmod_nonneg, tdiv_nonneg]
        refine ev_unroll ?_
        simp (disch := omega) only [impl_Fair.j0, ↓if_pos, ↓if_neg, if_pos, if_neg, ↓reduceIte, w64, in_t, in_f, l1In_t, l1In_f, Option.bind_some, Bool.not_true, Bool.not_false, Bool.false_eq_true, tmod_nonneg, tdiv_nonneg]
        exact Ev.now _
    · simp (disch := omega) only [impl_Fair.f, ↓if_pos, ↓if_neg, if_pos, if_neg, ↓reduceIte, w64, in_t, in_f, l1In_t, l1In_f, Option.bind_some, Bool.not_true, Bool.not_false, Bool.false_eq_true, tmod_nonneg, tdiv_nonneg]
      refine ev_unroll ?_
      simp (disch := omega) only [impl_Fair.j0, ↓if_pos, ↓if_neg, if_pos, if_neg, ↓reduceIte, w64, in_t, in_f, l1In_t, l1In_f, Option.bind_some, Bool.not_true, Bool.not_false, Bool.false_eq_true, tmod_nonneg, tdiv_nonneg]
      exact Ev.now _
open Classical in
/-- What both sides tell. -/
noncomputable def fairR (x0 : List (List Int)) (turns : Int) : List Int × Bool := if (∀ j : Nat, j < x0.length → (rd_L2 x0 (j : Int)).length ≤ 60) ∧ (1 ≤ (x0.length : Int) ∧ (x0.length : Int) ≤ 8) ∧ (0 ≤ turns ∧ turns ≤ 500) then ((trc (lenF x0) x0.length 600 0 0 turns.toNat).map (valF x0), true) else ([], false)
theorem both_t (x0 : List (List Int)) (turns : Int) (hn : x0.length ≤ 1048576) (hr : ∀ x ∈ x0, x.length ≤ 1048576) : Ev (fun k => spec_Fair.f k x0 turns) (fairR x0 turns) ∧ Ev (fun k => impl_Fair.f k x0 turns) (fairR x0 turns) := by
  obtain ⟨r, er⟩ : ∃ r, r = fairR x0 turns := ⟨_, rfl⟩
  rw [← er]
  unfold fairR at er
  obtain ⟨sp, sq⟩ := spec_count x0 hn hr turns
  obtain ⟨ip, iq⟩ := impl_count x0 hn hr turns
  by_cases hall : ∀ j : Nat, j < x0.length → (rd_L2 x0 (j : Int)).length ≤ 60
  · by_cases h1 : 1 ≤ (x0.length : Int) ∧ (x0.length : Int) ≤ 8
    · by_cases h2 : 0 ≤ turns ∧ turns ≤ 500
      · obtain ⟨p, q⟩ := fair_trace x0 (by omega) hall 600 0 0 turns [] (by omega) (by omega) (by omega) h2.1 h2.2 (by simpa using h2.2)
        rw [if_pos ⟨hall, h1, h2⟩] at er
        rw [List.nil_append, ← er] at p q
        rw [rest_start] at p q
        rw [atL_start] at p
        refine ⟨sp hall r (ev_unroll ?_), ?_⟩
        · simp (disch := omega) only [spec_Fair.l0, ↓if_pos, ↓if_neg, if_pos, if_neg, ↓reduceIte, w64, in_t, in_f, l1In_t, l1In_f, Option.bind_some, Bool.not_true, Bool.not_false, Bool.false_eq_true, tmod_nonneg, tdiv_nonneg]
          refine ev_unroll ?_
          simp (disch := omega) only [spec_Fair.j1, ↓if_pos, ↓if_neg, if_pos, if_neg, ↓reduceIte, w64, in_t, in_f, l1In_t, l1In_f, Option.bind_some, Bool.not_true, Bool.not_false, Bool.false_eq_true, tmod_nonneg, tdiv_nonneg]
          simpa using p
        · simp (disch := omega) only [impl_Fair.f, ↓if_pos, ↓if_neg, if_pos, if_neg, ↓reduceIte, w64, in_t, in_f, l1In_t, l1In_f, Option.bind_some, Bool.not_true, Bool.not_false, Bool.false_eq_true, tmod_nonneg, tdiv_nonneg]
          refine ev_unroll ?_
          simp (disch := omega) only [impl_Fair.j0, ↓if_pos, ↓if_neg, if_pos, if_neg, ↓reduceIte, w64, in_t, in_f, l1In_t, l1In_f, Option.bind_some, Bool.not_true, Bool.not_false, Bool.false_eq_true, tmod_nonneg, tdiv_nonneg]
          refine ip hall r (ev_unroll ?_)
          by_cases ht : turns > 0
          · by_cases hz : tot x0 x0.length > 0
            · simp only [impl_Fair.l1, if_pos ht, decide_eq_true hz]
              refine ev_unroll ?_
              simp only [impl_Fair.j3, ↓reduceIte]
              simpa using q
            · have e := ev_unique p (ev_unroll (r := ([], true)) (by
                simp only [spec_Fair.l1, if_pos ht, decide_eq_false hz]
                refine ev_unroll ?_
                simp only [spec_Fair.j3, Bool.false_eq_true, ↓reduceIte]
                exact Ev.now _))
              subst e
              simp only [impl_Fair.l1, if_pos ht, decide_eq_false hz]
              refine ev_unroll ?_
              simp only [impl_Fair.j3, Bool.false_eq_true, ↓reduceIte]
              exact Ev.now _
          · have e := ev_unique p (ev_unroll (r := ([], true)) (by
              simp only [spec_Fair.l1, if_neg ht]
              refine ev_unroll ?_
              simp only [spec_Fair.j3, Bool.false_eq_true, ↓reduceIte]
              exact Ev.now _))
            subst e
            simp only [impl_Fair.l1, if_neg ht]
            refine ev_unroll ?_
            simp only [impl_Fair.j3, Bool.false_eq_true, ↓reduceIte]
            exact Ev.now _
      · rw [if_neg (fun h => h2 h.2.2)] at er
        rw [er]
        refine ⟨sp hall _ (ev_unroll ?_), ?_⟩
        · simp (disch := omega) only [spec_Fair.l0, ↓if_pos, ↓if_neg, if_pos, if_neg, ↓reduceIte, w64, in_t, in_f, l1In_t, l1In_f, Option.bind_some, Bool.not_true, Bool.not_false, Bool.false_eq_true, tmod_nonneg, tdiv_nonneg]
          refine ev_unroll ?_
          simp (disch := omega) only [spec_Fair.j1, ↓if_pos, ↓if_neg, if_pos, if_neg, ↓reduceIte, w64, in_t, in_f, l1In_t, l1In_f, Option.bind_some, Bool.not_true, Bool.not_false, Bool.false_eq_true, tmod_nonneg, tdiv_nonneg]
          exact Ev.now _
        · simp (disch := omega) only [impl_Fair.f, ↓if_pos, ↓if_neg, if_pos, if_neg, ↓reduceIte, w64, in_t, in_f, l1In_t, l1In_f, Option.bind_some, Bool.not_true, Bool.not_false, Bool.false_eq_true, tmod_nonneg, tdiv_nonneg]
          refine ev_unroll ?_
          simp (disch := omega) only [impl_Fair.j0, ↓if_pos, ↓if_neg, if_pos, if_neg, ↓reduceIte, w64, in_t, in_f, l1In_t, l1In_f, Option.bind_some, Bool.not_true, Bool.not_false, Bool.false_eq_true, tmod_nonneg, tdiv_nonneg]
          exact Ev.now _
    · rw [if_neg (fun h => h1 h.2.1)] at er
      rw [er]
      refine ⟨sp hall _ (ev_unroll ?_), ?_⟩
      · simp (disch := omega) only [spec_Fair.l0, ↓if_pos, ↓if_neg, if_pos, if_neg, ↓reduceIte, w64, in_t, in_f, l1In_t, l1In_f, Option.bind_some, Bool.not_true, Bool.not_false, Bool.false_eq_true, tmod_nonneg, tdiv_nonneg]
        refine ev_unroll ?_
        simp (disch := omega) only [spec_Fair.j1, ↓if_pos, ↓if_neg, if_pos, if_neg, ↓reduceIte, w64, in_t, in_f, l1In_t, l1In_f, Option.bind_some, Bool.not_true, Bool.not_false, Bool.false_eq_true, tmod_nonneg, tdiv_nonneg]
        exact Ev.now _
      · simp (disch := omega) only [impl_Fair.f, ↓if_pos, ↓if_neg, if_pos, if_neg, ↓reduceIte, w64, in_t, in_f, l1In_t, l1In_f, Option.bind_some, Bool.not_true, Bool.not_false, Bool.false_eq_true, tmod_nonneg, tdiv_nonneg]
        refine ev_unroll ?_
        simp (disch := omega) only [impl_Fair.j0, ↓if_pos, ↓if_neg, if_pos, if_neg, ↓reduceIte, w64, in_t, in_f, l1In_t, l1In_f, Option.bind_some, Bool.not_true, Bool.not_false, Bool.false_eq_true, tmod_nonneg, tdiv_nonneg]
        exact Ev.now _
  · have hx : ∃ j : Nat, j < x0.length ∧ ¬ (rd_L2 x0 (j : Int)).length ≤ 60 := Classical.byContradiction fun h => hall fun j hj => Classical.byContradiction fun h2 => h ⟨j, hj, h2⟩
    rw [if_neg (fun h => hall h.1)] at er
    rw [er]
    refine ⟨sq hx, ?_⟩
    by_cases h1 : 1 ≤ (x0.length : Int) ∧ (x0.length : Int) ≤ 8
    · by_cases h2 : 0 ≤ turns ∧ turns ≤ 500
      · simp (disch := omega) only [impl_Fair.f, ↓if_pos, ↓if_neg, if_pos, if_neg, ↓reduceIte, w64, in_t, in_f, l1In_t, l1In_f, Option.bind_some, Bool.not_true, Bool.not_false, Bool.false_eq_true, tmod_nonneg, tdiv_nonneg]
        refine ev_unroll ?_
        simp (disch := omega) only [impl_Fair.j0, ↓if_pos, ↓if_neg, if_pos, if_neg, ↓reduceIte, w64, in_t, in_f, l1In_t, l1In_f, Option.bind_some, Bool.not_true, Bool.not_false, Bool.false_eq_true, tmod_nonneg, tdiv_nonneg]
        exact iq hx
      · simp (disch := omega) only [impl_Fair.f, ↓if_pos, ↓if_neg, if_pos, if_neg, ↓reduceIte, w64, in_t, in_f, l1In_t, l1In_f, Option.bind_some, Bool.not_true, Bool.not_false, Bool.false_eq_true, tmod_nonneg, tdiv_nonneg]
        refine ev_unroll ?_
        simp (disch := omega) only [impl_Fair.j0, ↓if_pos, ↓if_neg, if_pos, if_neg, ↓reduceIte, w64, in_t, in_f, l1In_t, l1In_f, Option.bind_some, Bool.not_true, Bool.not_false, Bool.false_eq_true, tmod_nonneg, tdiv_nonneg]
        exact Ev.now _
    · simp (disch := omega) only [impl_Fair.f, ↓if_pos, ↓if_neg, if_pos, if_neg, ↓reduceIte, w64, in_t, in_f, l1In_t, l1In_f, Option.bind_some, Bool.not_true, Bool.not_false, Bool.false_eq_true, tmod_nonneg, tdiv_nonneg]
      refine ev_unroll ?_
      simp (disch := omega) only [impl_Fair.j0, ↓if_pos, ↓if_neg, if_pos, if_neg, ↓reduceIte, w64, in_t, in_f, l1In_t, l1In_f, Option.bind_some, Bool.not_true, Bool.not_false, Bool.false_eq_true, tmod_nonneg, tdiv_nonneg]
      exact Ev.now _
def Small (x5 : List (List Int)) : Prop := x5.length ≤ 20 ∧ ∀ x ∈ x5, x.length ≤ 100
theorem small_snoc {x5 : List (List Int)} {x : List Int} (h : Small x5) (hl : x5.length ≤ 19) (hx : x.length ≤ 100) : Small (x5 ++ [x]) := by
  refine ⟨by simp; omega, fun y hy => ?_⟩
  simp only [List.mem_append, List.mem_singleton] at hy
  rcases hy with hy | rfl
  · exact h.2 y hy
  · exact hx
theorem drawF_end (b : List Int) (hb : b.length ≤ 1048576) (x5 : List (List Int)) (x6 i h : Int) (h6 : ¬ x6 > 0) (hl : x5.length ≤ 10) (h5 : Small x5) (i0 : 0 ≤ i) (i1 : i ≤ 1048576) :
    ∃ r : List (List Int) × Int, Small r.1 ∧ Ev (fun k => spec_DrawFair.l0 k x5 x6 b i h) r := by
  obtain ⟨v, i2, s2, e2, p1, p2, p3, p4, p5⟩ := l1Below_some b i h 30 hb i0 i1
  by_cases c0 : v = 0
  · obtain ⟨u, i3, s3, e3, q1, q2, q3, q4, q5⟩ := l1Below_some b i2 s2 2 hb p4 p5
    obtain ⟨y, i4, s4, e4, _, _, _⟩ := l1PickInt_some b i3 s3 [0, 1, 5, 12, 500, 501, (-1), 9] (by decide) hb q4 q5
    have hu := q2 (by omega)
    have ew : wrap64 (60 + u) = 60 + u := w64 (by omega) (by omega)
    refine ⟨(x5 ++ [List.replicate (60 + u).toNat 0], y), small_snoc h5 (by omega) (by simp; omega), ev_unroll ?_⟩
    simp only [spec_DrawFair.l0, if_neg h6, e2, Option.bind_some, if_pos c0, e3, ew, if_pos (show 0 ≤ 60 + u by omega), if_pos (show (60 + u).toNat ≤ 35184372088832 by omega), if_pos (show x5.length < 5864062014805 by omega), e4]
    exact Ev.now _
  · by_cases c1 : v = 1
    · obtain ⟨u, i3, s3, e3, q1, q2, q3, q4, q5⟩ := l1Below_some b i2 s2 2 hb p4 p5
      obtain ⟨y, i4, s4, e4, _, _, _⟩ := l1PickInt_some b i3 s3 [0, 1, 5, 12, 500, 501, (-1), 9] (by decide) hb q4 q5
      have hu := q2 (by omega)
      have ew : wrap64 (8 + u) = 8 + u := w64 (by omega) (by omega)
      refine ⟨(List.replicate (8 + u).toNat [], y), ⟨by simp; omega, fun x hx => ?_⟩, ev_unroll ?_⟩
      · rw [(List.mem_replicate.mp hx).2]; simp
      · simp only [spec_DrawFair.l0, if_neg h6, e2, Option.bind_some, if_neg c0, if_pos c1, e3, ew, if_pos (show 0 ≤ 8 + u by omega), if_pos (show (8 + u).toNat ≤ 11728124029610 by omega), e4]
        exact Ev.now _
    · obtain ⟨y, i4, s4, e4, _, _, _⟩ := l1PickInt_some b i2 s2 [0, 1, 5, 12, 500, 501, (-1), 9] (by decide) hb p4 p5
      refine ⟨(x5, y), h5, ev_unroll ?_⟩
      simp only [spec_DrawFair.l0, if_neg h6, e2, Option.bind_some, if_neg c0, if_neg c1, e4]
      exact Ev.now _
theorem drawF (b : List Int) (hb : b.length ≤ 1048576) : ∀ (d : Nat) (x5 : List (List Int)) (x6 i h : Int), x6 ≤ d → d + x5.length ≤ 10 → Small x5 → 0 ≤ i → i ≤ 1048576 →
    ∃ r : List (List Int) × Int, Small r.1 ∧ Ev (fun k => spec_DrawFair.l0 k x5 x6 b i h) r := by
  intro d
  induction d with
  | zero => exact fun x5 x6 i h hd hl h5 i0 i1 => drawF_end b hb x5 x6 i h (by omega) (by omega) h5 i0 i1
  | succ d ih =>
    intro x5 x6 i h hd hl h5 i0 i1
    by_cases hp : x6 > 0
    · have inner : ∀ (e : Nat) (x7 : List Int) (x8 i h : Int), x8 ≤ e → e + x7.length ≤ 50 → 0 ≤ i → i ≤ 1048576 → ∃ r : List (List Int) × Int, Small r.1 ∧ Ev (fun k => spec_DrawFair.l1 k x5 x6 x7 x8 b i h) r := by
        have last : ∀ (x7 : List Int) (x8 i h : Int), ¬ x8 > 0 → x7.length ≤ 50 → 0 ≤ i → i ≤ 1048576 → ∃ r : List (List Int) × Int, Small r.1 ∧ Ev (fun k => spec_DrawFair.l1 k x5 x6 x7 x8 b i h) r := by
          intro x7 x8 i h h8 h7 i0 i1
          obtain ⟨r, o, p⟩ := ih (x5 ++ [x7]) (x6 - 1) i h (by omega) (by simp; omega) (small_snoc h5 (by omega) (by omega)) i0 i1
          refine ⟨r, o, ev_unroll ?_⟩
          have ew : wrap64 (x6 - 1) = x6 - 1 := w64 (by omega) (by omega)
          simp only [spec_DrawFair.l1, if_neg h8, if_pos (show x5.length < 5864062014805 by omega), ew]
          exact p
        intro e
        induction e with
        | zero => exact fun x7 x8 i h he h7 i0 i1 => last x7 x8 i h (by omega) (by omega) i0 i1
        | succ e ihe =>
          intro x7 x8 i h he h7 i0 i1
          by_cases h8 : x8 > 0
          · obtain ⟨v, i2, s2, e2, p1, p2, p3, p4, p5⟩ := l1Below_some b i h 100 hb i0 i1
            obtain ⟨r, o, p⟩ := ihe (x7 ++ [v]) (x8 - 1) i2 s2 (by omega) (by simp; omega) p4 p5
            refine ⟨r, o, ev_unroll ?_⟩
            have ew : wrap64 (x8 - 1) = x8 - 1 := w64 (by omega) (by omega)
            simp only [spec_DrawFair.l1, if_pos h8, e2, Option.bind_some, if_pos (show x7.length < 17592186044416 by omega), ew]
            exact p
          · exact last x7 x8 i h h8 (by omega) i0 i1
      obtain ⟨v, i2, s2, e2, p1, p2, p3, p4, p5⟩ := l1Below_some b i h 8 hb i0 i1
      obtain ⟨r, o, p⟩ := inner 20 [] v i2 s2 (by have := p2 (by omega); omega) (by simp) p4 p5
      refine ⟨r, o, ev_unroll ?_⟩
      simp only [spec_DrawFair.l0, if_pos hp, e2, Option.bind_some]
      exact p
    · exact drawF_end b hb x5 x6 i h hp (by omega) h5 i0 i1
theorem drawFair_ev (l0 : List Int) (hb : l0.length ≤ 1048576) : ∃ r : List (List Int) × Int, Small r.1 ∧ Ev (fun k => spec_DrawFair.f k l0) r := by
  obtain ⟨h, e⟩ := l1New_ev l0
  obtain ⟨v, i2, s2, e2, p1, p2, p3, p4, p5⟩ := l1Below_some l0 0 h 5 hb (by omega) (by omega)
  obtain ⟨r, o, p⟩ := drawF l0 hb 10 [] v i2 s2 (by have := p2 (by omega); omega) (by simp) ⟨by simp, by simp⟩ p4 p5
  refine ⟨r, o, ?_⟩
  simp only [spec_DrawFair.f]
  refine Ev.bind e ?_
  simp only [e2, Option.bind_some]
  exact p
/-- The queues' places in the place of their numbers. -/
def nm (x0 : List (List Int)) (i : Nat) : List (List Int) := (List.range i).map (fun j => List.replicate (lenF x0 j) (j : Int))
theorem nm_length (x0 : List (List Int)) (i : Nat) : (nm x0 i).length = i := by simp [nm]
theorem nm_succ (x0 : List (List Int)) (i : Nat) : nm x0 (i + 1) = nm x0 i ++ [List.replicate (lenF x0 i) (i : Int)] := by simp [nm, List.range_succ]
theorem rdL_nm (x0 : List (List Int)) (j : Nat) (h : j < x0.length) : rd_L2 (nm x0 x0.length) (j : Int) = List.replicate (lenF x0 j) (j : Int) := by simp [rd_L2, nm, h]
theorem lenF_nm (x0 : List (List Int)) : lenF (nm x0 x0.length) = lenF x0 := by
  funext j
  by_cases h : j < x0.length
  · show (rd_L2 (nm x0 x0.length) (j : Int)).length = _
    rw [rdL_nm x0 j h, List.length_replicate]
  · show (rd_L2 (nm x0 x0.length) (j : Int)).length = (rd_L2 x0 (j : Int)).length
    rw [rdL_nil (by rw [nm_length]; omega), rdL_nil (by omega)]
theorem trc_mem (len : Nat → Nat) (n : Nat) : ∀ (d k i t : Nat), i < n → ∀ p ∈ trc len n d k i t, p.1 < n ∧ p.2 < len p.1 := by
  intro d
  induction d with
  | zero => intro k i t _ p hp; simp [trc] at hp
  | succ d ih =>
    intro k i t hi p hp
    have h2 : (if i + 1 < n then i + 1 else 0) < n := by split <;> omega
    by_cases ht : t = 0
    · subst ht; rw [trc_zero] at hp; cases hp
    by_cases c : k < len i
    · rw [trc_serve _ _ _ _ _ _ (by omega) c] at hp
      rcases List.mem_cons.mp hp with rfl | hp
      · exact ⟨hi, c⟩
      · exact ih _ _ _ h2 p hp
    · rw [trc_pass _ _ _ _ _ _ (by omega) c] at hp
      exact ih _ _ _ h2 p hp
theorem trc_length (len : Nat → Nat) (n : Nat) : ∀ (d k i t : Nat), (trc len n d k i t).length ≤ d := by
  intro d
  induction d with
  | zero => intro k i t; simp [trc]
  | succ d ih =>
    intro k i t
    by_cases ht : t = 0
    · subst ht; rw [trc_zero]; simp
    by_cases c : k < len i
    · rw [trc_serve _ _ _ _ _ _ (by omega) c]
      have := ih (if i + 1 < n then k else k + 1) (if i + 1 < n then i + 1 else 0) (t - 1)
      simp only [List.length_cons]; omega
    · rw [trc_pass _ _ _ _ _ _ (by omega) c]
      have := ih (if i + 1 < n then k else k + 1) (if i + 1 < n then i + 1 else 0) t
      omega
theorem valF_nm (x0 : List (List Int)) (p : Nat × Nat) (h : p.1 < x0.length ∧ p.2 < lenF x0 p.1) : valF (nm x0 x0.length) p = (p.1 : Int) := by
  unfold valF
  rw [rdL_nm x0 p.1 h.1]
  simp [rd, h.2]
theorem drop_cons_rd {l r : List Int} {m : Nat} {a : Int} (h : l.drop m = a :: r) : m < l.length ∧ rd l (m : Int) = a ∧ l.drop (m + 1) = r := by
  have hm : m < l.length := Classical.byContradiction fun hh => by rw [List.drop_eq_nil_of_le (by omega)] at h; cases h
  rw [drop_rd hm] at h
  injection h with h1 h2
  exact ⟨hm, h1, h2⟩
theorem small_fair : Ev (fun k => impl_Fair.f k [[1, 2], [3]] 3) ([1, 3, 2], true) :=
  Ev.of (fun k => impl_Fair.mono [[1, 2], [3]] 3 k) (k := 60) (by decide +kernel)
/-- Behind the last one who was served. -/
theorem law_last (x0 : List (List Int)) (out count who : List Int) (m : Int) (h : (who.length : Int) ≤ m) : Ev (fun q => laws_FnFairTurns.l2 q x0 out count who m) true := by
  refine ev_unroll ?_
  simp only [laws_FnFairTurns.l2, if_neg (show ¬ m < (who.length : Int) by omega)]
  refine Ev.bind small_fair ?_
  simp only [↓reduceIte]
  refine Ev.bind (sameInts_ev [1, 3, 2] [1, 3, 2] (by simp)) ?_
  simp only [decide_true]
  exact Ev.now _
section
variable (x0 : List (List Int)) (hn : 1 ≤ x0.length ∧ x0.length ≤ 8) (hl : ∀ j : Nat, j < x0.length → (rd_L2 x0 (j : Int)).length ≤ 60)
include hn hl
theorem at_fairF (k i o : Nat) (hk : k < (rd_L2 x0 (i : Int)).length) : atF x0 k (i + 1) i = (k : Int) + 1 ∧ ((k : Int) + 1 > atF x0 k (i + 1) o + 1 → ¬ atF x0 k (i + 1) o < ((rd_L2 x0 (o : Int)).length : Int)) := by
  refine ⟨by unfold atF; rw [if_pos (by omega), if_pos (by omega)]; omega, fun h => ?_⟩
  unfold atF at h ⊢
  by_cases a : o < i + 1
  · rw [if_pos a] at h ⊢
    by_cases b : k + 1 ≤ (rd_L2 x0 (o : Int)).length
    · rw [if_pos b] at h ⊢; omega
    · rw [if_neg b] at h ⊢; omega
  · rw [if_neg a] at h ⊢
    by_cases b : k ≤ (rd_L2 x0 (o : Int)).length
    · rw [if_pos b] at h ⊢; omega
    · rw [if_neg b] at h ⊢; omega
theorem law_l3 (out who : List Int) (m : Int) (k i : Nat) (hi : i < x0.length) (hk : k < (rd_L2 x0 (i : Int)).length) (H : Ev (fun q => laws_FnFairTurns.l2 q x0 out (atL x0 k (i + 1)) who (wrap64 (m + 1))) true) :
    ∀ (d o : Nat), x0.length - o = d → o ≤ x0.length → Ev (fun q => laws_FnFairTurns.l3 q x0 out (atL x0 k (i + 1)) who m (i : Int) (o : Int)) true := by
  intro d
  induction d with
  | zero =>
    intro o hd ho
    refine ev_unroll ?_
    simp only [laws_FnFairTurns.l3, if_neg (show ¬ (o : Int) < (x0.length : Int) by omega)]
    exact H
  | succ d ih =>
    intro o hd ho
    have ho2 : o < x0.length := by omega
    have p := ih (o + 1) (by omega) (by omega)
    have e : ((o + 1 : Nat) : Int) = (o : Int) + 1 := by omega
    rw [e] at p
    have ew : wrap64 ((o : Int) + 1) = (o : Int) + 1 := w64 (by omega) (by omega)
    obtain ⟨f1, f2⟩ := at_fairF x0 hn hl k i o hk
    have g1 := at_nonneg x0 k (i + 1) o
    have g2 := at_le x0 k (i + 1) o
    have g3 := hl o ho2
    have ew2 : wrap64 (atF x0 k (i + 1) o + 1) = atF x0 k (i + 1) o + 1 := w64 (by omega) (by omega)
    have la := atL_length x0 k (i + 1)
    refine ev_unroll ?_
    simp only [laws_FnFairTurns.l3, if_pos (show (o : Int) < (x0.length : Int) by omega), if_pos (show (0 : Int) ≤ (i : Int) by omega), if_pos (show (i : Int) < ((atL x0 k (i + 1)).length : Int) by omega), if_pos (show (0 : Int) ≤ (o : Int) by omega), if_pos (show (o : Int) < ((atL x0 k (i + 1)).length : Int) by omega), rd_atL x0 k (i + 1) i hi, rd_atL x0 k (i + 1) o ho2, f1, ew, ew2]
    by_cases c : (k : Int) + 1 > atF x0 k (i + 1) o + 1
    · simp only [if_pos c, if_neg (f2 c)]
      exact p
    · simp only [if_neg c]
      exact p
set_option maxHeartbeats 1000000 in
theorem law_l2 (out who : List Int) (hw : who.length ≤ 1000) : ∀ (d k i t m : Nat), i < x0.length → m ≤ 1000 →
    out.drop m = (trc (lenF x0) x0.length d k i t).map (valF x0) → who.drop m = (trc (lenF x0) x0.length d k i t).map (fun p => (p.1 : Int)) →
    Ev (fun q => laws_FnFairTurns.l2 q x0 out (atL x0 k i) who (m : Int)) true := by
  have none_ : ∀ (k i m : Nat), who.drop m = [] → Ev (fun q => laws_FnFairTurns.l2 q x0 out (atL x0 k i) who (m : Int)) true := by
    intro k i m h
    have h2 := List.drop_eq_nil_iff.mp h
    exact law_last x0 out _ who m (by omega)
  intro d
  induction d with
  | zero => exact fun k i t m hi hm h1 h2 => none_ k i m (by simpa [trc] using h2)
  | succ d ih =>
    intro k i t m hi hm h1 h2
    by_cases ht : t = 0
    · subst ht
      rw [trc_zero] at h2
      exact none_ k i m (by simpa using h2)
    have hnext : atL x0 k (i + 1) = atL x0 (if i + 1 < x0.length then k else k + 1) (if i + 1 < x0.length then i + 1 else 0) := by
      by_cases c : i + 1 < x0.length
      · rw [if_pos c, if_pos c]
      · rw [if_neg c, if_neg c, show i + 1 = x0.length by omega]
        exact atL_ext _ _ _ _ _ (fun j hj => at_next x0 k j hj)
    have hi2 : (if i + 1 < x0.length then i + 1 else 0) < x0.length := by split <;> omega
    by_cases c : k < lenF x0 i
    · rw [trc_serve _ _ _ _ _ _ (by omega) c] at h1 h2
      rw [List.map_cons] at h1 h2
      obtain ⟨a1, a2, a3⟩ := drop_cons_rd h1
      obtain ⟨b1, b2, b3⟩ := drop_cons_rd h2
      simp only at b2
      have hk : k < (rd_L2 x0 (i : Int)).length := c
      have hk60 := hl i hi
      have la := atL_length x0 k i
      have n1 : (m : Int) < (who.length : Int) := by omega
      have n2 : (m : Int) < (out.length : Int) := by omega
      have n3 : (0 : Int) ≤ (m : Int) := by omega
      have n4 : ¬ (i : Int) < 0 := by omega
      have n5 : ¬ (i : Int) ≥ (x0.length : Int) := by omega
      have n6 : (0 : Int) ≤ (i : Int) := by omega
      have n7 : (i : Int) < ((atL x0 k i).length : Int) := by omega
      have n8 : (i : Int) < (x0.length : Int) := by omega
      have n9 : ¬ (k : Int) ≥ ((rd_L2 x0 (i : Int)).length : Int) := by omega
      have n10 : (0 : Int) ≤ (k : Int) := by omega
      have n11 : (k : Int) < ((rd_L2 x0 (i : Int)).length : Int) := by omega
      have e := Aside0.mk (show ((m + 1 : Nat) : Int) = wrap64 ((m : Int) + 1) by rw [w64 (by omega) (by omega)]; omega)
      have ek := Aside0.mk (show wrap64 ((k : Int) + 1) = (k : Int) + 1 from w64 (by omega) (by omega))
      have ea := Aside0.mk (show rd (atL x0 k i) (i : Int) = (k : Int) by
        rw [rd_atL x0 k i i hi, at_here, if_pos (show k ≤ (rd_L2 x0 (i : Int)).length by omega)])
      have p := ih _ _ _ (m + 1) hi2 (by omega) a3 b3
      clear ih none_ a3 b3 h1 h2
      rw [← hnext, e.out] at p
      have q := law_l3 x0 hn hl out who (m : Int) k i hi hk p x0.length 0 (by omega) (by omega)
      have ev2 : rd (rd_L2 x0 (i : Int)) (k : Int) = rd out (m : Int) := by rw [a2]; rfl
      refine ev_unroll ?_
      simp only [laws_FnFairTurns.l2, b2, ea.out, if_pos n1, if_pos n3, if_neg n4, if_neg n5, if_pos n6, if_pos n7, if_pos n8, if_neg n9, if_pos n10, if_pos n11, if_pos n2, ev2, bne_self_eq_false]
      refine ev_unroll ?_
      simp only [laws_FnFairTurns.j5, Bool.false_eq_true, ↓reduceIte, if_pos n6, if_pos n7, ea.out, ek.out, Int.toNat_natCast, atL_set x0 k i hi hk]
      exact q
    · rw [trc_pass _ _ _ _ _ _ (by omega) c] at h1 h2
      have p := ih _ _ _ m hi2 hm h1 h2
      rw [← hnext] at p
      rw [atL_ext x0 k i k (i + 1) (fun j _ => at_skip x0 k i c j)]
      exact p
end
theorem named_walk (x0 : List (List Int)) (turns : Int) (out : List Int) (ok : Bool) (rep : List Int) (hn : x0.length ≤ 20) (hl : ∀ j : Nat, j < x0.length → lenF x0 j ≤ 100) (H : Ev (fun q => laws_FnFairTurns.l0 q x0 turns out ok (nm x0 x0.length) rep (x0.length : Int)) true) :
    ∀ (d i : Nat), x0.length - i = d → i ≤ x0.length → Ev (fun q => laws_FnFairTurns.l0 q x0 turns out ok (nm x0 i) rep (i : Int)) true := by
  intro d
  induction d with
  | zero =>
    intro i hd hi
    have e : i = x0.length := by omega
    subst e
    exact H
  | succ d ih =>
    intro i hd hi
    have hi2 : i < x0.length := by omega
    have p := ih (i + 1) (by omega) (by omega)
    have e : ((i + 1 : Nat) : Int) = wrap64 ((i : Int) + 1) := by rw [w64 (by omega) (by omega)]; omega
    rw [e, nm_succ] at p
    have hli := hl i hi2
    have inner : ∀ (e k : Nat), lenF x0 i - k = e → k ≤ lenF x0 i → Ev (fun q => laws_FnFairTurns.l1 q x0 turns out ok (nm x0 i) rep (i : Int) (List.replicate k (i : Int)) (k : Int)) true := by
      intro e
      induction e with
      | zero =>
        intro k he hk
        have ek : k = lenF x0 i := by omega
        subst ek
        refine ev_unroll ?_
        simp only [laws_FnFairTurns.l1, if_pos (show (0 : Int) ≤ (i : Int) by omega), if_pos (show (i : Int) < (x0.length : Int) by omega), if_neg (show ¬ ((lenF x0 i : Nat) : Int) < ((rd_L2 x0 (i : Int)).length : Int) from Int.lt_irrefl _), if_pos (show (nm x0 i).length < 5864062014805 by rw [nm_length]; omega)]
        exact p
      | succ e ihe =>
        intro k he hk
        have q := ihe (k + 1) (by omega) (by omega)
        rw [List.replicate_succ'] at q
        have ek : ((k + 1 : Nat) : Int) = wrap64 ((k : Int) + 1) := by rw [w64 (by omega) (by omega)]; omega
        rw [ek] at q
        refine ev_unroll ?_
        simp only [laws_FnFairTurns.l1, if_pos (show (0 : Int) ≤ (i : Int) by omega), if_pos (show (i : Int) < (x0.length : Int) by omega), if_pos (show (k : Int) < ((rd_L2 x0 (i : Int)).length : Int) from by have : k < (rd_L2 x0 (i : Int)).length := (by unfold lenF at he; omega); omega), if_pos (show (List.replicate k (i : Int)).length < 17592186044416 by rw [List.length_replicate]; omega)]
        exact q
    refine ev_unroll ?_
    simp only [laws_FnFairTurns.l0, if_pos (show (i : Int) < (x0.length : Int) by omega)]
    exact inner _ 0 rfl (Nat.zero_le _)
theorem FnFairTurns : laws_FnFairTurns.Pure := by
  intro l0 _ _ hw
  refine Ev.rounds (g := fun k => laws_FnFairTurns.f k l0) ?_
  simp only [laws_FnFairTurns.f, laws_big.f, Option.bind_some, decide_eq_true_eq]
  by_cases hb : (l0.length : Int) > 1048576
  · simp only [if_pos hb]
    exact Ev.now _
  simp only [if_neg hb]
  obtain ⟨⟨x0, turns⟩, hs, hd⟩ := drawFair_ev l0 (by omega)
  simp only at hs
  obtain ⟨hn, hr⟩ := hs
  have hrow : ∀ j : Nat, lenF x0 j ≤ 100 := fun j => rdL_le (n := 100) hr (j : Int) (by omega)
  obtain ⟨sp, ip⟩ := both_t x0 turns (by omega) (fun x hx => by have := hr x hx; omega)
  have hnm : ∀ x ∈ nm x0 x0.length, x.length ≤ 1048576 := by
    intro x hx
    simp only [nm, List.mem_map, List.mem_range] at hx
    obtain ⟨j, _, rfl⟩ := hx
    rw [List.length_replicate]
    have := hrow j
    omega
  obtain ⟨_, ip2⟩ := both_t (nm x0 x0.length) turns (by rw [nm_length]; omega) hnm
  -- what both are
  obtain ⟨out, ok, who, e1, e2, hlen, hlo, hok⟩ : ∃ (out : List Int) (ok : Bool) (who : List Int), fairR x0 turns = (out, ok) ∧ fairR (nm x0 x0.length) turns = (who, ok) ∧ who.length = out.length ∧ out.length ≤ 1000 ∧
      Ev (fun q => laws_FnFairTurns.l2 q x0 out (List.replicate x0.length 0) who ((0 : Nat) : Int)) true := by
    by_cases hC : (∀ j : Nat, j < x0.length → (rd_L2 x0 (j : Int)).length ≤ 60) ∧ (1 ≤ (x0.length : Int) ∧ (x0.length : Int) ≤ 8) ∧ (0 ≤ turns ∧ turns ≤ 500)
    · have hC2 : (∀ j : Nat, j < (nm x0 x0.length).length → (rd_L2 (nm x0 x0.length) (j : Int)).length ≤ 60) ∧ (1 ≤ ((nm x0 x0.length).length : Int) ∧ ((nm x0 x0.length).length : Int) ≤ 8) ∧ (0 ≤ turns ∧ turns ≤ 500) := by
        rw [nm_length]
        refine ⟨fun j hj => ?_, hC.2⟩
        have h := hC.1 j hj
        have h2 := congrFun (lenF_nm x0) j
        unfold lenF at h2
        omega
      have ew : (trc (lenF (nm x0 x0.length)) (nm x0 x0.length).length 600 0 0 turns.toNat).map (valF (nm x0 x0.length)) = (trc (lenF x0) x0.length 600 0 0 turns.toNat).map (fun p => (p.1 : Int)) := by
        rw [lenF_nm, nm_length]
        exact List.map_congr_left (fun p hp => valF_nm x0 p (trc_mem _ _ _ _ _ _ (by omega) p hp))
      have hl := trc_length (lenF x0) x0.length 600 0 0 turns.toNat
      refine ⟨_, _, _, by unfold fairR; rw [if_pos hC], by unfold fairR; rw [if_pos hC2, ew], by simp, by simp; omega, ?_⟩
      rw [← atL_start]
      exact law_l2 x0 (by omega) hC.1 _ _ (by simp; omega) 600 0 0 turns.toNat 0 (by omega) (by omega) (by simp) (by simp)
    · have hC2 : ¬ ((∀ j : Nat, j < (nm x0 x0.length).length → (rd_L2 (nm x0 x0.length) (j : Int)).length ≤ 60) ∧ (1 ≤ ((nm x0 x0.length).length : Int) ∧ ((nm x0 x0.length).length : Int) ≤ 8) ∧ (0 ≤ turns ∧ turns ≤ 500)) := by
        rw [nm_length]
        refine fun h => hC ⟨fun j hj => ?_, h.2⟩
        have h1 := h.1 j hj
        have h2 := congrFun (lenF_nm x0) j
        unfold lenF at h2
        omega
      refine ⟨[], false, [], by unfold fairR; rw [if_neg hC], by unfold fairR; rw [if_neg hC2], rfl, by simp, law_last x0 _ _ _ _ (by simp)⟩
  rw [e1] at sp ip
  rw [e2] at ip2
  refine Ev.bind hd ?_
  simp only
  refine Ev.bind ip (Ev.bind sp ?_)
  simp only [bne_self_eq_false, Bool.false_eq_true, ↓reduceIte]
  refine Ev.bind (sameInts_ev out out (by omega)) ?_
  simp only [decide_true, Bool.not_true]
  refine ev_unroll ?_
  simp only [laws_FnFairTurns.j0, Bool.false_eq_true, ↓reduceIte, if_pos (show (0 : Int) ≤ (x0.length : Int) by omega), Int.toNat_natCast, if_pos (show x0.length ≤ 35184372088832 by omega)]
  refine named_walk x0 turns out ok _ hn (fun j _ => hrow j) (ev_unroll ?_) x0.length 0 (by omega) (Nat.zero_le _)
  simp only [laws_FnFairTurns.l0, if_neg (show ¬ (x0.length : Int) < (x0.length : Int) by omega)]
  refine Ev.bind ip2 ?_
  simp only [hlen, bne_self_eq_false, Bool.false_eq_true, ↓reduceIte]
  refine ev_unroll ?_
  simp only [laws_FnFairTurns.j3, Bool.false_eq_true, ↓reduceIte]
  exact hok

end Go.Proofs.Ytheinelpeapleaa.Pure
