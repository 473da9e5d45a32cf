/- The law FnExactFair: for all queues the program's Fair and the reference's tell the same, the queues stay as they were, and what is told is a list of its own. -/
import Derived.Test.YtcmcnpildccdeabMFnExactFairx5
import Derived.Test.YtcmcnpildccdeabKit
namespace Go.Proofs.Ytcmcnpildccdeab.Pure
set_option linter.unusedSimpArgs false
set_option linter.unusedVariables false
set_option linter.unusedSectionVars false
open Go Go.RowKit Go.Proofs.Ytcmcnpildccdeab.MFnExactFair Go.Proofs.YtcmcnpildccdeabW.PrintWords Go.Proofs.YtcmcnpildccdeabW.PrintLast Go.Proofs.Ytcmcnpildccdeab.Mine

theorem toIntS_ev (x0 : List Int) (hn : x0.length ≤ 1048576) : Ev (fun k => laws_toIntS.f k x0) x0 := by
  have key : ∀ (d : Nat) (x3 : List Int) (i : Nat), x0.length - i = d → i ≤ x0.length → x3.length = x0.length → x3.take i = x0.take i → Ev (fun k => laws_toIntS.l0 k x0 x3 (i : Int)) x0 := by
    intro d
    induction d with
    | zero =>
      intro x3 i hd hi hl ht
      have e : x3 = x0 := by
        have h : i = x0.length := by omega
        rw [h, List.take_length, ← hl, List.take_length] at ht
        exact ht
      subst e
      refine ev_unroll ?_
      simp (disch := omega) only [laws_toIntS.l0, ↓if_neg]
      exact Ev.now _
    | succ d ih =>
      intro x3 i hd hi hl ht
      refine ev_unroll ?_
      simp (disch := omega) only [laws_toIntS.l0, ↓if_pos, w64]
      have h := ih (x3.set i (rd x0 i)) (i + 1) (by omega) (by omega) (by simp [hl]) (by rw [rd_nat]; exact take_set_succ 0 hl ht (by omega))
      simpa using h
  have h := key _ (List.replicate x0.length 0) 0 rfl (by omega) (by simp) (by simp)
  simp (disch := omega) only [laws_toIntS.f, ↓if_pos]
  simpa using h
theorem eqIntS_ev (x0 : List Int) (hn : x0.length ≤ 1048576) : Ev (fun k => laws_eqIntS.f k x0 x0) true := by
  have key : ∀ (d : Nat) (i : Nat), x0.length - i = d → i ≤ x0.length → Ev (fun k => laws_eqIntS.l0 k x0 x0 (i : Int)) true := by
    intro d
    induction d with
    | zero =>
      intro i hd hi
      refine ev_unroll ?_
      simp (disch := omega) only [laws_eqIntS.l0, ↓if_neg]
      exact Ev.now _
    | succ d ih =>
      intro i hd hi
      refine ev_unroll ?_
      simp (disch := omega) only [laws_eqIntS.l0, ↓if_pos, w64]
      have h := ih (i + 1) (by omega) (by omega)
      simpa using h
  have h := key _ 0 rfl (by omega)
  simp (disch := omega) only [laws_eqIntS.f, ↓if_pos]
  simpa using h
/-- What a marked list holds. -/
def marks (m : Int) (n : Nat) : List Int := (List.range n).map fun (j : Nat) => m + (j : Int)
theorem marks_length (m : Int) (n : Nat) : (marks m n).length = n := by simp [marks]
theorem rd_marks (m : Int) (n i : Nat) (h : i < n) : rd (marks m n) (i : Int) = m + i := by simp [rd, marks, h]
theorem markIntS_ev (x0 : List Int) (m : Int) (hm : 0 ≤ m) (hm2 : m ≤ 1000000000) (hn : x0.length ≤ 1048576) : Ev (fun k => laws_markIntS.f k x0 m) ((m + x0.length : Int), marks m x0.length) := by
  have key : ∀ (d : Nat) (y : List Int) (i : Nat), x0.length - i = d → i ≤ x0.length → y.length = x0.length → y.take i = (marks m x0.length).take i → Ev (fun k => laws_markIntS.l0 k y (m + (i : Int)) (i : Int)) ((m + x0.length : Int), marks m x0.length) := by
    intro d
    induction d with
    | zero =>
      intro y i hd hi hl ht
      have h : i = x0.length := by omega
      have e : y = marks m x0.length := by
        have h2 := ht
        rw [List.take_of_length_le (by omega), List.take_of_length_le (by rw [marks_length]; omega)] at h2
        exact h2
      refine ev_unroll ?_
      simp (disch := omega) only [laws_markIntS.l0, ↓if_neg]
      rw [h, e]
      exact Ev.now _
    | succ d ih =>
      intro y i hd hi hl ht
      refine ev_unroll ?_
      simp (disch := omega) only [laws_markIntS.l0, ↓if_pos, w64]
      have h := ih (y.set i (m + (i : Int))) (i + 1) (by omega) (by omega) (by simp [hl]) (by
        have h2 := take_set_succ (l := y) (m := marks m x0.length) 0 (by rw [marks_length]; exact hl) ht (by rw [marks_length]; omega)
        rw [show (marks m x0.length).getD i 0 = m + (i : Int) from by rw [← rd_nat, rd_marks _ _ _ (by omega)]] at h2
        exact h2)
      rw [show (m + (i : Int) + 1) = m + ((i + 1 : Nat) : Int) from by omega, show ((i : Int) + 1) = ((i + 1 : Nat) : Int) from by omega]
      simpa using h
  have h := key _ x0 0 rfl (by omega) rfl (by simp)
  simp only [laws_markIntS.f]
  simpa using h
theorem heldIntS_ev (n : Nat) (m : Int) (hm : 0 ≤ m) (hm2 : m ≤ 1000000000) (hn : n ≤ 1048576) : Ev (fun k => laws_heldIntS.f k (marks m n) m) (m + n : Int) := by
  have key : ∀ (d : Nat) (i : Nat), n - i = d → i ≤ n → Ev (fun k => laws_heldIntS.l0 k (marks m n) (m + (i : Int)) (i : Int)) (m + n : Int) := by
    intro d
    induction d with
    | zero =>
      intro i hd hi
      have h : i = n := by omega
      have hl := marks_length m n
      refine ev_unroll ?_
      simp (disch := omega) only [laws_heldIntS.l0, ↓if_neg]
      rw [h]
      exact Ev.now _
    | succ d ih =>
      intro i hd hi
      have hl := marks_length m n
      have hr := rd_marks m n i (by omega)
      refine ev_unroll ?_
      simp (disch := omega) only [laws_heldIntS.l0, ↓if_pos, w64]
      have h := ih (i + 1) (by omega) (by omega)
      rw [show (m + (i : Int) + 1) = m + ((i + 1 : Nat) : Int) from by omega, show ((i : Int) + 1) = ((i + 1 : Nat) : Int) from by omega]
      exact h
  have h := key _ 0 rfl (by omega)
  simp only [laws_heldIntS.f]
  simpa using h
theorem in_t {a b c : Int} (h : b ≤ a) (h2 : a ≤ c) : impl_in.f a b c = some true := by
  unfold impl_in.f
  rw [if_pos (by omega)]; simp [h2]
theorem in_f {a b c : Int} (h : ¬ (b ≤ a ∧ a ≤ c)) : impl_in.f a b c = some false := by
  unfold impl_in.f
  by_cases g : a ≥ b
  · rw [if_pos g]; simp; omega
  · rw [if_neg g]
theorem l1In_t {a b c : Int} (h : b ≤ a) (h2 : a ≤ c) : spec_l1In.f a b c = some true := by
  unfold spec_l1In.f
  rw [if_pos (by omega)]; simp [h2]
theorem l1In_f {a b c : Int} (h : ¬ (b ≤ a ∧ a ≤ c)) : spec_l1In.f a b c = some false := by
  unfold spec_l1In.f
  by_cases g : a ≥ b
  · rw [if_pos g]; simp; omega
  · rw [if_neg g]
theorem rdL_mem {xs : List (List Int)} {i : Int} (h0 : 0 ≤ i) (h1 : i < (xs.length : Int)) : rd_L1 xs i ∈ xs := by
  have h : i.toNat < xs.length := by omega
  have e : rd_L1 xs i = xs[i.toNat] := by simp [rd_L1, h]
  rw [e]; exact List.getElem_mem h
theorem rdL_nil {xs : List (List Int)} {i : Int} (h1 : (xs.length : Int) ≤ i) : rd_L1 xs i = [] := by
  simp only [rd_L1, List.getD_eq_getElem?_getD]
  rw [List.getElem?_eq_none (by omega)]
  rfl
theorem rdL_le {xs : List (List Int)} {n : Nat} (h : ∀ x ∈ xs, x.length ≤ n) (i : Int) (h0 : 0 ≤ i) : (rd_L1 xs i).length ≤ n := by
  by_cases h1 : i < (xs.length : Int)
  · exact h _ (rdL_mem h0 h1)
  · rw [rdL_nil (by omega)]; exact Nat.zero_le _
def Sm (f : Nat → Int) : Nat → Int
  | 0 => 0
  | n + 1 => Sm f n + f n
theorem Sm_congr {f g : Nat → Int} : ∀ n : Nat, (∀ j, j < n → f j = g j) → Sm f n = Sm g n := by
  intro n
  induction n with
  | zero => intro _; rfl
  | succ n ih =>
    intro h
    have h1 := ih (fun j hj => h j (by omega))
    have h2 := h n (by omega)
    simp only [Sm]; omega
theorem Sm_one {f g : Nat → Int} {i : Nat} : ∀ n : Nat, i < n → f i = g i + 1 → (∀ j, j < n → j ≠ i → f j = g j) → Sm f n = Sm g n + 1 := by
  intro n
  induction n with
  | zero => intro h; omega
  | succ n ih =>
    intro hi he h
    simp only [Sm]
    by_cases e : i = n
    · subst e
      have h1 := Sm_congr (f := f) (g := g) i (fun j hj => h j (by omega) (by omega))
      omega
    · have h1 := ih (by omega) he (fun j hj hn => h j (by omega) hn)
      have h2 := h n (by omega) (fun h => e h.symm)
      omega
theorem Sm_ge {f : Nat → Int} : ∀ n : Nat, (∀ j, j < n → 0 ≤ f j) → 0 ≤ Sm f n ∧ ∀ j, j < n → f j ≤ Sm f n := by
  intro n
  induction n with
  | zero => intro _; exact ⟨by simp [Sm], fun j hj => by omega⟩
  | succ n ih =>
    intro h
    obtain ⟨h1, h2⟩ := ih (fun j hj => h j (by omega))
    have h3 := h n (by omega)
    simp only [Sm]
    refine ⟨by omega, fun j hj => ?_⟩
    by_cases e : j = n
    · subst e; omega
    · have := h2 j (by omega); omega
theorem Sm_pos {f : Nat → Int} : ∀ n : Nat, 0 < Sm f n → ∃ j, j < n ∧ 0 < f j := by
  intro n
  induction n with
  | zero => intro h; simp [Sm] at h
  | succ n ih =>
    intro h
    simp only [Sm] at h
    by_cases e : 0 < f n
    · exact ⟨n, by omega, e⟩
    · obtain ⟨j, hj, hp⟩ := ih (by omega)
      exact ⟨j, by omega, hp⟩
/-- How much of queue j has been served, i queues into round k. -/
def atF (x0 : List (List Int)) (k i j : Nat) : Int := if j < i then (if k + 1 ≤ (rd_L1 x0 (j : Int)).length then ((k + 1 : Nat) : Int) else ((rd_L1 x0 (j : Int)).length : Int)) else (if k ≤ (rd_L1 x0 (j : Int)).length then (k : Int) else ((rd_L1 x0 (j : Int)).length : Int))
def atL (x0 : List (List Int)) (k i : Nat) : List Int := (List.range x0.length).map (atF x0 k i)
theorem atL_length (x0 : List (List Int)) (k i : Nat) : (atL x0 k i).length = x0.length := by simp [atL]
theorem rd_atL (x0 : List (List Int)) (k i j : Nat) (h : j < x0.length) : rd (atL x0 k i) (j : Int) = atF x0 k i j := by simp [rd, atL, h]
theorem atL_ext (x0 : List (List Int)) (k i k2 i2 : Nat) (h : ∀ j, j < x0.length → atF x0 k i j = atF x0 k2 i2 j) : atL x0 k i = atL x0 k2 i2 := by
  unfold atL
  refine List.map_congr_left (fun j hj => h j (by simpa using hj))
theorem atL_set (x0 : List (List Int)) (k i : Nat) (hi : i < x0.length) (hk : k < (rd_L1 x0 (i : Int)).length) : (atL x0 k i).set i ((k : Int) + 1) = atL x0 k (i + 1) := by
  refine List.ext_getElem (by simp [atL]) (fun j h1 h2 => ?_)
  simp only [atL, List.length_map, List.length_range] at h2
  simp only [List.getElem_set, atL, List.getElem_map, List.getElem_range]
  by_cases e : i = j
  · subst e
    simp only [↓reduceIte, atF, if_pos (Nat.lt_succ_self i), if_pos (show k + 1 ≤ (rd_L1 x0 (i : Int)).length by omega)]
    omega
  · simp only [if_neg e, atF]
    by_cases h3 : j < i
    · simp only [if_pos h3, if_pos (show j < i + 1 by omega)]
    · simp only [if_neg h3, if_neg (show ¬ j < i + 1 by omega)]
/-- What is left. -/
def rest (x0 : List (List Int)) (k i : Nat) : Int := Sm (fun j => ((rd_L1 x0 (j : Int)).length : Int) - atF x0 k i j) x0.length
theorem at_le (x0 : List (List Int)) (k i j : Nat) : 0 ≤ ((rd_L1 x0 (j : Int)).length : Int) - atF x0 k i j := by
  unfold atF
  split <;> split <;> omega
theorem rest_def (x0 : List (List Int)) (k i : Nat) : rest x0 k i = Sm (fun j => ((rd_L1 x0 (j : Int)).length : Int) - atF x0 k i j) x0.length := rfl
theorem at_nonneg (x0 : List (List Int)) (k i j : Nat) : 0 ≤ atF x0 k i j := by
  unfold atF
  split <;> split <;> omega
theorem at_here (x0 : List (List Int)) (k i : Nat) : atF x0 k i i = if k ≤ (rd_L1 x0 (i : Int)).length then (k : Int) else ((rd_L1 x0 (i : Int)).length : Int) := by
  unfold atF
  rw [if_neg (Nat.lt_irrefl i)]
theorem rest_nonneg (x0 : List (List Int)) (k i : Nat) : 0 ≤ rest x0 k i := (Sm_ge _ (fun j _ => at_le x0 k i j)).1
theorem rest_step (x0 : List (List Int)) (k i : Nat) (hi : i < x0.length) (hk : k < (rd_L1 x0 (i : Int)).length) : rest x0 k i = rest x0 k (i + 1) + 1 := by
  refine Sm_one (i := i) _ hi ?_ (fun j hj hn => ?_)
  · simp only [atF, if_neg (Nat.lt_irrefl i), if_pos (Nat.lt_succ_self i), if_pos (show k ≤ (rd_L1 x0 (i : Int)).length by omega), if_pos (show k + 1 ≤ (rd_L1 x0 (i : Int)).length by omega)]
    omega
  · simp only [atF]
    by_cases h3 : j < i
    · simp only [if_pos h3, if_pos (show j < i + 1 by omega)]
    · simp only [if_neg h3, if_neg (show ¬ j < i + 1 by omega)]
theorem at_skip (x0 : List (List Int)) (k i : Nat) (hk : ¬ k < (rd_L1 x0 (i : Int)).length) (j : Nat) : atF x0 k i j = atF x0 k (i + 1) j := by
  simp only [atF]
  by_cases e : j = i
  · subst e
    simp only [if_neg (Nat.lt_irrefl j), if_pos (Nat.lt_succ_self j), if_neg (show ¬ k + 1 ≤ (rd_L1 x0 (j : Int)).length by omega)]
    split <;> omega
  · by_cases h3 : j < i
    · simp only [if_pos h3, if_pos (show j < i + 1 by omega)]
    · simp only [if_neg h3, if_neg (show ¬ j < i + 1 by omega)]
theorem rest_skip (x0 : List (List Int)) (k i : Nat) (hk : ¬ k < (rd_L1 x0 (i : Int)).length) : rest x0 k i = rest x0 k (i + 1) := by
  unfold rest
  exact Sm_congr _ (fun j _ => by rw [at_skip x0 k i hk j])
theorem at_next (x0 : List (List Int)) (k j : Nat) (hj : j < x0.length) : atF x0 k x0.length j = atF x0 (k + 1) 0 j := by
  simp only [atF, if_pos hj, if_neg (Nat.not_lt_zero j)]
theorem rest_next (x0 : List (List Int)) (k : Nat) : rest x0 k x0.length = rest x0 (k + 1) 0 := by
  unfold rest
  exact Sm_congr _ (fun j hj => by rw [at_next x0 k j hj])
theorem rest_zero (x0 : List (List Int)) (k i j : Nat) (h : rest x0 k i = 0) (hj : j < x0.length) (hij : i ≤ j) : ¬ k < (rd_L1 x0 (j : Int)).length := by
  intro hk
  have h2 : ((rd_L1 x0 (j : Int)).length : Int) - atF x0 k i j ≤ rest x0 k i := (Sm_ge (f := fun j => ((rd_L1 x0 (j : Int)).length : Int) - atF x0 k i j) x0.length (fun j _ => at_le x0 k i j)).2 j hj
  have h3 : atF x0 k i j = (k : Int) := by simp only [atF, if_neg (show ¬ j < i by omega), if_pos (show k ≤ (rd_L1 x0 (j : Int)).length by omega)]
  rw [h3] at h2
  omega
theorem rest_more (x0 : List (List Int)) (k i : Nat) (hl : ∀ j : Nat, j < x0.length → (rd_L1 x0 (j : Int)).length ≤ 60) (h : 0 < rest x0 k i) : k < 60 := by
  obtain ⟨j, hj, hp⟩ := Sm_pos _ h
  have := hl j hj
  simp only [atF] at hp
  split at hp <;> split at hp <;> omega
attribute [local irreducible] rest atL atF
section
variable (x0 : List (List Int)) (hn : 1 ≤ x0.length ∧ x0.length ≤ 8) (hl : ∀ j : Nat, j < x0.length → (rd_L1 x0 (j : Int)).length ≤ 60)
include hn hl
/-- Where nothing more is served, the program's round goes by. -/
theorem idle (k : Nat) (hk : k ≤ 100) (turns left : Int) (out : List Int) (t0 : 0 ≤ turns) (l0 : 0 ≤ left) (h : turns = 0 ∨ left = 0) : ∀ (d i : Nat), x0.length - i ≤ d → (∀ j, i ≤ j → j < x0.length → turns = 0 ∨ ¬ k < (rd_L1 x0 (j : Int)).length) →
    Ev (fun q => impl_Fair.l2 q x0 turns left out (k : Int) x0 (x0.length : Int) (i : Int)) (out, true) := by
  have last : ∀ i : Nat, x0.length ≤ i → Ev (fun q => impl_Fair.l2 q x0 turns left out (k : Int) x0 (x0.length : Int) (i : Int)) (out, true) := by
    intro i hi
    refine ev_unroll ?_
    simp (disch := omega) only [impl_Fair.l2, ↓if_neg, w64]
    by_cases ht : turns > 0
    · refine ev_unroll ?_
      simp only [impl_Fair.l1, if_pos ht, decide_eq_false (show ¬ left > 0 by omega)]
      refine ev_unroll ?_
      simp only [impl_Fair.j3, Bool.false_eq_true, ↓reduceIte]
      exact Ev.now _
    · refine ev_unroll ?_
      simp only [impl_Fair.l1, if_neg ht]
      refine ev_unroll ?_
      simp only [impl_Fair.j3, Bool.false_eq_true, ↓reduceIte]
      exact Ev.now _
  intro d
  induction d with
  | zero => exact fun i hd _ => last i (by omega)
  | succ d ih =>
    intro i hd hj
    by_cases hi : i < x0.length
    · have p := ih (i + 1) (by omega) (fun j h1 h2 => hj j (by omega) h2)
      have e : ((i + 1 : Nat) : Int) = (i : Int) + 1 := by omega
      rw [e] at p
      have hi2 : (i : Int) < (x0.length : Int) := by omega
      have hw : wrap64 ((i : Int) + 1) = (i : Int) + 1 := w64 (by omega) (by omega)
      refine ev_unroll ?_
      by_cases hk2 : (k : Int) < ((rd_L1 x0 (i : Int)).length : Int)
      · have ht : ¬ turns > 0 := by
          rcases hj i (Nat.le_refl _) hi with h1 | h1
          · omega
          · exact absurd (by omega) h1
        simp only [impl_Fair.l2, if_pos hi2, if_pos (show (0 : Int) ≤ (i : Int) by omega), if_pos hk2, if_neg ht, hw]
        exact p
      · simp only [impl_Fair.l2, if_pos hi2, if_pos (show (0 : Int) ≤ (i : Int) by omega), if_neg hk2, hw]
        exact p
    · exact last i (by omega)
set_option maxHeartbeats 1000000 in
theorem fair_walk : ∀ (d k i : Nat) (turns : Int) (out : List Int), (61 - k) * 8 + (8 - i) ≤ d → k ≤ 60 → i < x0.length → 0 ≤ turns → turns ≤ 500 → (out.length : Int) + turns ≤ 500 →
    ∃ r : List Int × Bool, r.1.length ≤ 500 ∧ Ev (fun q => spec_Fair.l1 q x0 turns out (rest x0 k i) (atL x0 k i) (i : Int)) r ∧ Ev (fun q => impl_Fair.l2 q x0 turns (rest x0 k i) out (k : Int) x0 (x0.length : Int) (i : Int)) r := by
  intro d
  induction d with
  | zero => intro k i turns out hd hk hi; omega
  | succ d ih =>
    intro k i turns out hd hk hi t0 t1 ho
    have hr0 := rest_nonneg x0 k i
    have hrb : rest x0 k i ≤ 1000000 := by
      have key : ∀ n : Nat, n ≤ x0.length → Sm (fun j => ((rd_L1 x0 (j : Int)).length : Int) - atF x0 k i j) n ≤ 60 * (n : Int) := by
        intro n
        induction n with
        | zero => intro _; simp [Sm]
        | succ n ihn =>
          intro hnn
          have h1 := ihn (by omega)
          have h2 := hl n (by omega)
          have h3 : 0 ≤ atF x0 k i n := at_nonneg x0 k i n
          simp only [Sm]
          omega
      have := key x0.length (Nat.le_refl _)
      rw [rest_def]
      omega
    by_cases hgo : turns > 0 ∧ rest x0 k i > 0
    · obtain ⟨ht, hrest⟩ := hgo
      have hk60 := rest_more x0 k i hl hrest
      have hi2 : (i : Int) < (x0.length : Int) := by omega
      have hi0 : (0 : Int) ≤ (i : Int) := by omega
      have hw := Aside0.mk (show wrap64 ((i : Int) + 1) = (i : Int) + 1 from w64 (by omega) (by omega))
      have hne : ¬ (x0.length : Int) = 0 := by omega
      -- what comes behind this queue
      have next : ∀ (turns2 : Int) (out2 : List Int), 0 ≤ turns2 → turns2 ≤ 500 → (out2.length : Int) + turns2 ≤ 500 → ∃ r : List Int × Bool, r.1.length ≤ 500 ∧ Ev (fun q => spec_Fair.l1 q x0 turns2 out2 (rest x0 k (i + 1)) (atL x0 k (i + 1)) (Int.tmod ((i : Int) + 1) (x0.length : Int))) r ∧ Ev (fun q => impl_Fair.l2 q x0 turns2 (rest x0 k (i + 1)) out2 (k : Int) x0 (x0.length : Int) ((i : Int) + 1)) r := by
        intro turns2 out2 u0 u1 uo
        by_cases hin : i + 1 < x0.length
        · have et := Aside0.mk (show Int.tmod ((i : Int) + 1) (x0.length : Int) = ((i + 1 : Nat) : Int) from (Int.tmod_eq_of_lt (by omega) (by omega)).trans (by omega))
          have e : (i : Int) + 1 = ((i + 1 : Nat) : Int) := by omega
          rw [et.out, e]
          exact ih k (i + 1) turns2 out2 (by omega) hk hin u0 u1 uo
        · have en : i + 1 = x0.length := by omega
          have ei : (i : Int) + 1 = (x0.length : Int) := by omega
          have et := Aside0.mk (show Int.tmod ((i : Int) + 1) (x0.length : Int) = 0 from by rw [ei, Int.tmod_self])
          have e1 : rest x0 k (i + 1) = rest x0 (k + 1) 0 := by rw [en]; exact rest_next x0 k
          have e2 : atL x0 k (i + 1) = atL x0 (k + 1) 0 := by rw [en]; exact atL_ext _ _ _ _ _ (fun j hj => at_next x0 k j hj)
          rw [et.out, e1, e2]
          clear e1 e2
          have hnl : ¬ (i : Int) + 1 < (x0.length : Int) := by omega
          have hwk := Aside0.mk (show wrap64 ((k : Int) + 1) = ((k + 1 : Nat) : Int) from (w64 (by omega) (by omega)).trans (by omega))
          have hr2 := rest_nonneg x0 (k + 1) 0
          by_cases hgo2 : turns2 > 0 ∧ rest x0 (k + 1) 0 > 0
          · obtain ⟨r, b, p, q⟩ := ih (k + 1) 0 turns2 out2 (by omega) (by omega) (by omega) u0 u1 uo
            rw [show ((0 : Nat) : Int) = 0 from rfl] at p q
            refine ⟨r, b, p, ev_unroll ?_⟩
            simp only [impl_Fair.l2, if_neg hnl, hwk.out]
            refine ev_unroll ?_
            simp only [impl_Fair.l1, if_pos hgo2.1, decide_eq_true hgo2.2]
            refine ev_unroll ?_
            simp only [impl_Fair.j3, ↓reduceIte]
            exact q
          · refine ⟨(out2, true), by simp only; omega, ?_, ev_unroll ?_⟩
            · by_cases h1 : turns2 > 0
              · refine ev_unroll ?_
                simp only [spec_Fair.l1, if_pos h1, decide_eq_false (show ¬ rest x0 (k + 1) 0 > 0 from fun h => hgo2 ⟨h1, h⟩)]
                refine ev_unroll ?_
                simp only [spec_Fair.j3, Bool.false_eq_true, ↓reduceIte]
                exact Ev.now _
              · refine ev_unroll ?_
                simp only [spec_Fair.l1, if_neg h1]
                refine ev_unroll ?_
                simp only [spec_Fair.j3, Bool.false_eq_true, ↓reduceIte]
                exact Ev.now _
            · simp only [impl_Fair.l2, if_neg hnl, hwk.out]
              by_cases h1 : turns2 > 0
              · refine ev_unroll ?_
                simp only [impl_Fair.l1, if_pos h1, decide_eq_false (show ¬ rest x0 (k + 1) 0 > 0 from fun h => hgo2 ⟨h1, h⟩)]
                refine ev_unroll ?_
                simp only [impl_Fair.j3, Bool.false_eq_true, ↓reduceIte]
                exact Ev.now _
              · refine ev_unroll ?_
                simp only [impl_Fair.l1, if_neg h1]
                refine ev_unroll ?_
                simp only [impl_Fair.j3, Bool.false_eq_true, ↓reduceIte]
                exact Ev.now _
      have hal : (i : Int) < ((atL x0 k i).length : Int) := by rw [atL_length]; omega
      have ho2 : out.length < 17592186044416 := by omega
      by_cases hc : (k : Int) < ((rd_L1 x0 (i : Int)).length : Int)
      · have ea : rd (atL x0 k i) (i : Int) = (k : Int) := by
          rw [rd_atL x0 k i i hi]
          rw [at_here, if_pos (show k ≤ (rd_L1 x0 (i : Int)).length by omega)]
        have hst := rest_step x0 k i hi (by omega)
        obtain ⟨r, b, p, q⟩ := next (turns - 1) (out ++ [rd (rd_L1 x0 (i : Int)) (k : Int)]) (by omega) (by omega) (by rw [List.length_append, List.length_singleton]; omega)
        have wr := Aside0.mk (show wrap64 (rest x0 k i - 1) = rest x0 k (i + 1) from (w64 (by omega) (by omega)).trans (by omega))
        have wt := Aside0.mk (show wrap64 (turns - 1) = turns - 1 from w64 (by omega) (by omega))
        have wk := Aside0.mk (show wrap64 ((k : Int) + 1) = (k : Int) + 1 from w64 (by omega) (by omega))
        refine ⟨r, b, ev_unroll ?_, ev_unroll ?_⟩
        · simp only [spec_Fair.l1, if_pos ht, decide_eq_true hrest]
          refine ev_unroll ?_
          simp only [spec_Fair.j3, ↓reduceIte, if_pos hi0, if_pos hal, if_pos hi2, ea, if_pos hc, if_pos (show (0 : Int) ≤ (k : Int) by omega), if_pos ho2, if_neg hne, wr.out, wt.out, wk.out, hw.out, Int.toNat_natCast, atL_set x0 k i hi (by omega)]
          exact p
        · simp only [impl_Fair.l2, if_pos hi2, if_pos hi0, if_pos hc, if_pos ht, if_pos (show (0 : Int) ≤ (k : Int) by omega), if_pos ho2, wr.out, wt.out, hw.out]
          exact q
      · have ea : rd (atL x0 k i) (i : Int) = ((rd_L1 x0 (i : Int)).length : Int) := by
          rw [rd_atL x0 k i i hi]
          rw [at_here]
          split <;> omega
        have hst := rest_skip x0 k i (by omega)
        have hat : atL x0 k i = atL x0 k (i + 1) := atL_ext _ _ _ _ _ (fun j _ => at_skip x0 k i (by omega) j)
        obtain ⟨r, b, p, q⟩ := next turns out t0 t1 ho
        refine ⟨r, b, ev_unroll ?_, ev_unroll ?_⟩
        · simp only [spec_Fair.l1, if_pos ht, decide_eq_true hrest]
          refine ev_unroll ?_
          simp only [spec_Fair.j3, ↓reduceIte, if_pos hi0, if_pos hal, if_pos hi2, ea, if_neg (show ¬ ((rd_L1 x0 (i : Int)).length : Int) < ((rd_L1 x0 (i : Int)).length : Int) by omega), if_neg hne, hw.out]
          rw [hst, hat]
          exact p
        · simp only [impl_Fair.l2, if_pos hi2, if_pos hi0, if_neg hc, hw.out]
          rw [hst]
          exact q
    · refine ⟨(out, true), by simp only; omega, ?_, ?_⟩
      · by_cases h1 : turns > 0
        · refine ev_unroll ?_
          simp only [spec_Fair.l1, if_pos h1, decide_eq_false (show ¬ rest x0 k i > 0 from fun h => hgo ⟨h1, h⟩)]
          refine ev_unroll ?_
          simp only [spec_Fair.j3, Bool.false_eq_true, ↓reduceIte]
          exact Ev.now _
        · refine ev_unroll ?_
          simp only [spec_Fair.l1, if_neg h1]
          refine ev_unroll ?_
          simp only [spec_Fair.j3, Bool.false_eq_true, ↓reduceIte]
          exact Ev.now _
      · refine idle x0 hn hl k (by omega) turns (rest x0 k i) out t0 hr0 (by omega) x0.length i (by omega) (fun j h1 h2 => ?_)
        by_cases h3 : turns = 0
        · exact .inl h3
        · exact .inr (rest_zero x0 k i j (by omega) h2 h1)
end
/-- How many numbers the first rows hold. -/
def tot (x0 : List (List Int)) : Nat → Int
  | 0 => 0
  | i + 1 => tot x0 i + ((rd_L1 x0 (i : Int)).length : Int)
theorem tot_nonneg (x0 : List (List Int)) : ∀ i, 0 ≤ tot x0 i := by
  intro i
  induction i with
  | zero => simp [tot]
  | succ i ih => simp only [tot]; omega
theorem tot_le (x0 : List (List Int)) (i : Nat) : ∀ d, tot x0 i ≤ tot x0 (i + d) := by
  intro d
  induction d with
  | zero => exact Int.le_refl _
  | succ d ih =>
    have : tot x0 (i + (d + 1)) = tot x0 (i + d) + ((rd_L1 x0 ((i + d : Nat) : Int)).length : Int) := rfl
    omega
theorem szIntSS_ev (x0 : List (List Int)) (hm : x0.length ≤ maxLen) (hr : ∀ x ∈ x0, x.length ≤ maxLen) : ∃ v, Ev (fun k => laws_szIntSS.f k x0 1048576) v ∧ (0 ≤ v → (x0.length : Int) + tot x0 x0.length ≤ 1048576) := by
  have hM : maxLen = 9223372036854775807 := rfl
  have key : ∀ (d i : Nat) (v : Int), x0.length - i = d → i ≤ x0.length → 0 ≤ v → v = 1048576 - (x0.length : Int) - tot x0 i → ∃ r, Ev (fun k => laws_szIntSS.l0 k x0 v (i : Int)) r ∧ (0 ≤ r → (x0.length : Int) + tot x0 x0.length ≤ 1048576) := by
    intro d
    induction d with
    | zero =>
      intro i v hd hi h0 hv
      have h : i = x0.length := by omega
      have ht := tot_nonneg x0 i
      refine ⟨v, ev_unroll ?_, fun _ => by rw [← h]; rw [← h] at hv; omega⟩
      simp (disch := omega) only [laws_szIntSS.l0, ↓if_neg]
      exact Ev.now _
    | succ d ih =>
      intro i v hd hi h0 hv
      have ht := tot_nonneg x0 i
      have hrow := hr _ (rdL_mem (xs := x0) (i := (i : Int)) (by omega) (by omega))
      by_cases hc : v - ((rd_L1 x0 (i : Int)).length : Int) < 0
      · refine ⟨-1, ev_unroll ?_, fun h => by omega⟩
        simp (disch := omega) only [laws_szIntSS.l0, laws_szIntS.f, ↓if_pos, w64, Option.bind_some]
        exact Ev.now _
      · obtain ⟨r, p, q⟩ := ih (i + 1) (v - ((rd_L1 x0 (i : Int)).length : Int)) (by omega) (by omega) (by omega) (by simp only [tot]; omega)
        refine ⟨r, ev_unroll ?_, q⟩
        simp (disch := omega) only [laws_szIntSS.l0, laws_szIntS.f, ↓if_pos, ↓if_neg, w64, Option.bind_some]
        simpa using p
  by_cases hc : 1048576 - (x0.length : Int) < 0
  · refine ⟨-1, ?_, fun h => by omega⟩
    simp (disch := omega) only [laws_szIntSS.f, ↓if_pos, w64]
    exact Ev.now _
  · obtain ⟨r, p, q⟩ := key x0.length 0 (1048576 - (x0.length : Int)) (by omega) (by omega) (by omega) (by simp [tot])
    refine ⟨r, ?_, q⟩
    simp (disch := omega) only [laws_szIntSS.f, ↓if_neg, w64]
    simpa using p
section
variable (x0 : List (List Int)) (hs : (x0.length : Int) + tot x0 x0.length ≤ 1048576)
include hs
theorem ss_row (i : Nat) (hi : i < x0.length) : (rd_L1 x0 (i : Int)).length ≤ 1048576 := by
  have h1 := tot_le x0 (i + 1) (x0.length - (i + 1))
  have h2 := tot_nonneg x0 i
  rw [show i + 1 + (x0.length - (i + 1)) = x0.length by omega] at h1
  simp only [tot] at h1
  omega
theorem ss_len : x0.length ≤ 1048576 := by
  have := tot_nonneg x0 x0.length
  omega
theorem ss_rows : ∀ x ∈ x0, x.length ≤ 1048576 := by
  intro x hx
  obtain ⟨i, hi, rfl⟩ := List.getElem_of_mem hx
  have h := ss_row x0 hs i hi
  have e : rd_L1 x0 (i : Int) = x0[i] := by simp [rd_L1, hi]
  rw [e] at h
  exact h
theorem toIntSS_ev : Ev (fun k => laws_toIntSS.f k x0) x0 := by
  have hn := ss_len x0 hs
  have key : ∀ (d : Nat) (x3 : List (List Int)) (i : Nat), x0.length - i = d → i ≤ x0.length → x3.length = x0.length → x3.take i = x0.take i → Ev (fun k => laws_toIntSS.l0 k x0 x3 (i : Int)) x0 := by
    intro d
    induction d with
    | zero =>
      intro x3 i hd hi hl ht
      have e : x3 = x0 := by
        have h : i = x0.length := by omega
        rw [h, List.take_length, ← hl, List.take_length] at ht
        exact ht
      subst e
      refine ev_unroll ?_
      simp (disch := omega) only [laws_toIntSS.l0, ↓if_neg]
      exact Ev.now _
    | succ d ih =>
      intro x3 i hd hi hl ht
      have hrow := ss_row x0 hs i (by omega)
      have e : rd_L1 x0 (i : Int) = x0.getD i [] := by simp only [rd_L1, Int.toNat_natCast]
      have h := ih (x3.set i (rd_L1 x0 (i : Int))) (i + 1) (by omega) (by omega) (by simp [hl]) (by rw [e]; exact take_set_succ [] hl ht (by omega))
      refine ev_unroll ?_
      simp (disch := omega) only [laws_toIntSS.l0, ↓if_pos, w64]
      refine Ev.bind (toIntS_ev _ hrow) ?_
      simpa using h
  have h := key _ (List.replicate x0.length []) 0 rfl (by omega) (by simp) (by simp)
  simp (disch := omega) only [laws_toIntSS.f, ↓if_pos]
  simpa using h
theorem eqIntSS_ev : Ev (fun k => laws_eqIntSS.f k x0 x0) true := by
  have hn := ss_len x0 hs
  have key : ∀ (d : Nat) (i : Nat), x0.length - i = d → i ≤ x0.length → Ev (fun k => laws_eqIntSS.l0 k x0 x0 (i : Int)) true := by
    intro d
    induction d with
    | zero =>
      intro i hd hi
      refine ev_unroll ?_
      simp (disch := omega) only [laws_eqIntSS.l0, ↓if_neg]
      exact Ev.now _
    | succ d ih =>
      intro i hd hi
      have h := ih (i + 1) (by omega) (by omega)
      have hrow := ss_row x0 hs i (by omega)
      refine ev_unroll ?_
      simp (disch := omega) only [laws_eqIntSS.l0, ↓if_pos, w64]
      refine Ev.bind (eqIntS_ev _ hrow) ?_
      simp only [↓reduceIte]
      simpa using h
  have h := key _ 0 rfl (by omega)
  simp (disch := omega) only [laws_eqIntSS.f, ↓if_pos]
  simpa using h
theorem markIntSS_ev : Ev (fun k => laws_markIntSS.f k x0 1) (1 + tot x0 x0.length) := by
  have hn := ss_len x0 hs
  have key : ∀ (d : Nat) (i : Nat), x0.length - i = d → i ≤ x0.length → Ev (fun k => laws_markIntSS.l0 k x0 (1 + tot x0 i) (i : Int)) (1 + tot x0 x0.length) := by
    intro d
    induction d with
    | zero =>
      intro i hd hi
      have h : i = x0.length := by omega
      rw [h]
      refine ev_unroll ?_
      simp (disch := omega) only [laws_markIntSS.l0, ↓if_neg]
      exact Ev.now _
    | succ d ih =>
      intro i hd hi
      have h := ih (i + 1) (by omega) (by omega)
      have hrow := ss_row x0 hs i (by omega)
      have t0 := tot_nonneg x0 i
      have t1 := tot_le x0 i (x0.length - i)
      rw [show i + (x0.length - i) = x0.length by omega] at t1
      refine ev_unroll ?_
      simp (disch := omega) only [laws_markIntSS.l0, ↓if_pos, w64]
      refine Ev.bind (markIntS_ev _ (1 + tot x0 i) (by omega) (by omega) hrow) ?_
      simp only [tot] at h
      rw [Int.add_assoc]
      simpa using h
  exact key _ 0 rfl (by omega)
end
theorem ev_unique {α : Type} {g : Nat → Option α} {r s : α} (h : Ev g r) (h2 : Ev g s) : r = s := by
  obtain ⟨a, ha⟩ := h
  obtain ⟨b, hb⟩ := h2
  have h3 := ha (a + b) (by omega)
  have h4 := hb (a + b) (by omega)
  rw [h3] at h4
  exact Option.some.inj h4
/-- The reference's count of what is there. -/
theorem spec_count (x0 : List (List Int)) (hn : x0.length ≤ 1048576) (hr : ∀ x ∈ x0, x.length ≤ 1048576) (turns : Int) :
    ((∀ j : Nat, j < x0.length → (rd_L1 x0 (j : Int)).length ≤ 60) → ∀ r, Ev (fun q => spec_Fair.l0 q x0 turns [] (tot x0 x0.length) (x0.length : Int)) r → Ev (fun q => spec_Fair.f q x0 turns) r) ∧ ((∃ j : Nat, j < x0.length ∧ ¬ (rd_L1 x0 (j : Int)).length ≤ 60) → Ev (fun q => spec_Fair.f q x0 turns) ([], false)) := by
  have key : ∀ (d i : Nat), x0.length - i = d → i ≤ x0.length → (tot x0 i ≤ 60 * (i : Int)) → ((∀ j : Nat, i ≤ j → j < x0.length → (rd_L1 x0 (j : Int)).length ≤ 60) → ∀ r, Ev (fun q => spec_Fair.l0 q x0 turns [] (tot x0 x0.length) (x0.length : Int)) r → Ev (fun q => spec_Fair.l0 q x0 turns [] (tot x0 i) (i : Int)) r) ∧ ((∃ j : Nat, i ≤ j ∧ j < x0.length ∧ ¬ (rd_L1 x0 (j : Int)).length ≤ 60) → Ev (fun q => spec_Fair.l0 q x0 turns [] (tot x0 i) (i : Int)) ([], false)) := by
    intro d
    induction d with
    | zero =>
      intro i hd hi _
      obtain rfl : i = x0.length := by omega
      exact ⟨fun _ r h => h, fun ⟨j, h1, h2, _⟩ => by omega⟩
    | succ d ih =>
      intro i hd hi ht
      have t0 := tot_nonneg x0 i
      have hrow := hr _ (rdL_mem (xs := x0) (i := (i : Int)) (by omega) (by omega))
      by_cases hc : (rd_L1 x0 (i : Int)).length ≤ 60
      · obtain ⟨p, q⟩ := ih (i + 1) (by omega) (by omega) (by simp only [tot]; omega)
        simp only [tot] at p q
        refine ⟨fun h r hx => ev_unroll ?_, fun ⟨j, h1, h2, h3⟩ => ev_unroll ?_⟩
        · have h4 := p (fun j h1 h2 => h j (by omega) h2) r hx
          simp (disch := omega) only [spec_Fair.l0, ↓if_pos, ↓if_neg, if_pos, if_neg, ↓reduceIte, w64, in_t, in_f, l1In_t, l1In_f, Option.bind_some, Bool.not_true, Bool.not_false, Bool.false_eq_true, tmod_nonneg, tdiv_nonneg]
          simpa using h4
        · have h4 := q ⟨j, by
            by_cases e : j = i
            · subst e; exact absurd hc h3
            · omega, h2, h3⟩
          simp (disch := omega) only [spec_Fair.l0, ↓if_pos, ↓if_neg, if_pos, if_neg, ↓reduceIte, w64, in_t, in_f, l1In_t, l1In_f, Option.bind_some, Bool.not_true, Bool.not_false, Bool.false_eq_true, tmod_nonneg, tdiv_nonneg]
          simpa using h4
      · refine ⟨fun h => absurd (h i (Nat.le_refl _) (by omega)) hc, fun _ => ev_unroll ?_⟩
        simp (disch := omega) only [spec_Fair.l0, ↓if_pos, ↓if_neg, if_pos, if_neg, ↓reduceIte, w64, in_t, in_f, l1In_t, l1In_f, Option.bind_some, Bool.not_true, Bool.not_false, Bool.false_eq_true, tmod_nonneg, tdiv_nonneg]
        exact Ev.now _
  obtain ⟨p, q⟩ := key x0.length 0 (by omega) (by omega) (by simp [tot])
  refine ⟨fun h r hx => p (fun j _ h2 => h j h2) r hx, fun ⟨j, h1, h2⟩ => q ⟨j, by omega, h1, h2⟩⟩
/-- The program's count. -/
theorem impl_count (x0 : List (List Int)) (hn : x0.length ≤ 1048576) (hr : ∀ x ∈ x0, x.length ≤ 1048576) (turns : Int) :
    ((∀ j : Nat, j < x0.length → (rd_L1 x0 (j : Int)).length ≤ 60) → ∀ r, Ev (fun q => impl_Fair.l1 q x0 turns (tot x0 x0.length) [] 0) r → Ev (fun q => impl_Fair.l0 q x0 turns 0 x0 (x0.length : Int) 0) r) ∧ ((∃ j : Nat, j < x0.length ∧ ¬ (rd_L1 x0 (j : Int)).length ≤ 60) → Ev (fun q => impl_Fair.l0 q x0 turns 0 x0 (x0.length : Int) 0) ([], false)) := by
  have key : ∀ (d i : Nat), x0.length - i = d → i ≤ x0.length → (tot x0 i ≤ 60 * (i : Int)) → ((∀ j : Nat, i ≤ j → j < x0.length → (rd_L1 x0 (j : Int)).length ≤ 60) → ∀ r, Ev (fun q => impl_Fair.l1 q x0 turns (tot x0 x0.length) [] 0) r → Ev (fun q => impl_Fair.l0 q x0 turns (tot x0 i) x0 (x0.length : Int) (i : Int)) r) ∧ ((∃ j : Nat, i ≤ j ∧ j < x0.length ∧ ¬ (rd_L1 x0 (j : Int)).length ≤ 60) → Ev (fun q => impl_Fair.l0 q x0 turns (tot x0 i) x0 (x0.length : Int) (i : Int)) ([], false)) := by
    intro d
    induction d with
    | zero =>
      intro i hd hi _
      obtain rfl : i = x0.length := by omega
      refine ⟨fun _ r h => ev_unroll ?_, fun ⟨j, h1, h2, _⟩ => by omega⟩
      simp (disch := omega) only [impl_Fair.l0, ↓if_pos, ↓if_neg, if_pos, if_neg, ↓reduceIte, w64, in_t, in_f, l1In_t, l1In_f, Option.bind_some, Bool.not_true, Bool.not_false, Bool.false_eq_true, tmod_nonneg, tdiv_nonneg]
      exact h
    | succ d ih =>
      intro i hd hi ht
      have t0 := tot_nonneg x0 i
      have hrow := hr _ (rdL_mem (xs := x0) (i := (i : Int)) (by omega) (by omega))
      by_cases hc : (rd_L1 x0 (i : Int)).length ≤ 60
      · obtain ⟨p, q⟩ := ih (i + 1) (by omega) (by omega) (by simp only [tot]; omega)
        simp only [tot] at p q
        refine ⟨fun h r hx => ev_unroll ?_, fun ⟨j, h1, h2, h3⟩ => ev_unroll ?_⟩
        · have h4 := p (fun j h1 h2 => h j (by omega) h2) r hx
          simp (disch := omega) only [impl_Fair.l0, ↓if_pos, ↓if_neg, if_pos, if_neg, ↓reduceIte, w64, in_t, in_f, l1In_t, l1In_f, Option.bind_some, Bool.not_true, Bool.not_false, Bool.false_eq_true, tmod_nonneg, tdiv_nonneg]
          simpa using h4
        · have h4 := q ⟨j, by
            by_cases e : j = i
            · subst e; exact absurd hc h3
            · omega, h2, h3⟩
          simp (disch := omega) only [impl_Fair.l0, ↓if_pos, ↓if_neg, if_pos, if_neg, ↓reduceIte, w64, in_t, in_f, l1In_t, l1In_f, Option.bind_some, Bool.not_true, Bool.not_false, Bool.false_eq_true, tmod_nonneg, tdiv_nonneg]
          simpa using h4
      · refine ⟨fun h => absurd (h i (Nat.le_refl _) (by omega)) hc, fun _ => ev_unroll ?_⟩
        simp (disch := omega) only [impl_Fair.l0, ↓if_pos, ↓if_neg, if_pos, if_neg, ↓reduceIte, w64, in_t, in_f, l1In_t, l1In_f, Option.bind_some, Bool.not_true, Bool.not_false, Bool.false_eq_true, tmod_nonneg, tdiv_nonneg]
        exact Ev.now _
  obtain ⟨p, q⟩ := key x0.length 0 (by omega) (by omega) (by simp [tot])
  refine ⟨fun h r hx => p (fun j _ h2 => h j h2) r hx, fun ⟨j, h1, h2⟩ => q ⟨j, by omega, h1, h2⟩⟩
attribute [local semireducible] rest atL atF
theorem rest_start (x0 : List (List Int)) : rest x0 0 0 = tot x0 x0.length := by
  have key : ∀ n : Nat, Sm (fun j => ((rd_L1 x0 (j : Int)).length : Int) - atF x0 0 0 j) n = tot x0 n := by
    intro n
    induction n with
    | zero => rfl
    | succ n ih =>
      have h : atF x0 0 0 n = 0 := by
        unfold atF
        rw [if_neg (Nat.not_lt_zero n), if_pos (Nat.zero_le _)]
        rfl
      simp only [Sm, tot, ih, h]
      omega
  exact key _
theorem atL_start (x0 : List (List Int)) : atL x0 0 0 = List.replicate x0.length 0 := by
  refine List.ext_getElem (by simp [atL]) (fun j h1 h2 => ?_)
  simp [atL, atF]
theorem both (x0 : List (List Int)) (turns : Int) (hn : x0.length ≤ 1048576) (hr : ∀ x ∈ x0, x.length ≤ 1048576) : ∃ r : List Int × Bool, r.1.length ≤ 1048576 ∧ Ev (fun k => spec_Fair.f k x0 turns) r ∧ Ev (fun k => impl_Fair.f k x0 turns) r := by
  obtain ⟨sp, sq⟩ := spec_count x0 hn hr turns
  obtain ⟨ip, iq⟩ := impl_count x0 hn hr turns
  by_cases hall : ∀ j : Nat, j < x0.length → (rd_L1 x0 (j : Int)).length ≤ 60
  · by_cases h1 : 1 ≤ (x0.length : Int) ∧ (x0.length : Int) ≤ 8
    · by_cases h2 : 0 ≤ turns ∧ turns ≤ 500
      · obtain ⟨r, b, p, q⟩ := fair_walk x0 (by omega) hall 600 0 0 turns [] (by omega) (by omega) (by omega) h2.1 h2.2 (by simpa using h2.2)
        rw [rest_start] at p q
        rw [atL_start] at p
        refine ⟨r, by omega, sp hall r (ev_unroll ?_), ?_⟩
        · simp (disch := omega) only [spec_Fair.l0, ↓if_pos, ↓if_neg, if_pos, if_neg, ↓reduceIte, w64, in_t, in_f, l1In_t, l1In_f, Option.bind_some, Bool.not_true, Bool.not_false, Bool.false_eq_true, tmod_nonneg, tdiv_nonneg]
          refine ev_unroll ?_
          simp (disch := omega) only [spec_Fair.j1, ↓if_pos, ↓if_neg, if_pos, if_neg, ↓reduceIte, w64, in_t, in_f, l1In_t, l1In_f, Option.bind_some, Bool.not_true, Bool.not_false, Bool.false_eq_true, tmod_nonneg, tdiv_nonneg]
          simpa using p
        · simp (disch := omega) only [impl_Fair.f, ↓if_pos, ↓if_neg, if_pos, if_neg, ↓reduceIte, w64, in_t, in_f, l1In_t, l1In_f, Option.bind_some, Bool.not_true, Bool.not_false, Bool.false_eq_true, tmod_nonneg, tdiv_nonneg]
          refine ev_unroll ?_
          simp (disch := omega) only [impl_Fair.j0, ↓if_pos, ↓if_neg, if_pos, if_neg, ↓reduceIte, w64, in_t, in_f, l1In_t, l1In_f, Option.bind_some, Bool.not_true, Bool.not_false, Bool.false_eq_true, tmod_nonneg, tdiv_nonneg]
          refine ip hall r (ev_unroll ?_)
          by_cases ht : turns > 0
          · by_cases hz : tot x0 x0.length > 0
            · simp only [impl_Fair.l1, if_pos ht, decide_eq_true hz]
              refine ev_unroll ?_
              simp only [impl_Fair.j3, ↓reduceIte]
              simpa using q
            · have e := ev_unique p (ev_unroll (r := ([], true)) (by
                simp only [spec_Fair.l1, if_pos ht, decide_eq_false hz]
                refine ev_unroll ?_
                simp only [spec_Fair.j3, Bool.false_eq_true, ↓reduceIte]
                exact Ev.now _))
              subst e
              simp only [impl_Fair.l1, if_pos ht, decide_eq_false hz]
              refine ev_unroll ?_
              simp only [impl_Fair.j3, Bool.false_eq_true, ↓reduceIte]
              exact Ev.now _
          · have e := ev_unique p (ev_unroll (r := ([], true)) (by
              simp only [spec_Fair.l1, if_neg ht]
              refine ev_unroll ?_
              simp only [spec_Fair.j3, Bool.false_eq_true, ↓reduceIte]
              exact Ev.now _))
            subst e
            simp only [impl_Fair.l1, if_neg ht]
            refine ev_unroll ?_
            simp only [impl_Fair.j3, Bool.false_eq_true, ↓reduceIte]
            exact Ev.now _
      · refine ⟨([], false), by simp, sp hall _ (ev_unroll ?_), ?_⟩
        · simp (disch := omega) only [spec_Fair.l0, ↓if_pos, ↓if_neg, if_pos, if_neg, ↓reduceIte, w64, in_t, in_f, l1In_t, l1In_f, Option.bind_some, Bool.not_true, Bool.not_false, Bool.false_eq_true, tmod_nonneg, tdiv_nonneg]
          refine ev_unroll ?_
          simp (disch := omega) only [spec_Fair.j1, ↓if_pos, ↓if_neg, if_pos, if_neg, ↓reduceIte, w64, in_t, in_f, l1In_t, l1In_f, Option.bind_some, Bool.not_true, Bool.not_false, Bool.false_eq_true, tmod_nonneg, tdiv_nonneg]
          exact Ev.now _
        · simp (disch := omega) only [impl_Fair.f, ↓if_pos, ↓if_neg, if_pos, if_neg, ↓reduceIte, w64, in_t, in_f, l1In_t, l1In_f, Option.bind_some, Bool.not_true, Bool.not_false, Bool.false_eq_true, tmod_nonneg, tdiv_nonneg]
          refine ev_unroll ?_
          simp (disch := omega) only [impl_Fair.j0, ↓if_pos, ↓if_neg, if_pos, if_neg, ↓reduceIte, w64, in_t, in_f, l1In_t, l1In_f, Option.bind_some, Bool.not_true, Bool.not_false, Bool.false_eq_true, tmod_nonneg, tdiv_nonneg]
          exact Ev.now _
    · refine ⟨([], false), by simp, sp hall _ (ev_unroll ?_), ?_⟩
      · simp (disch := omega) only [spec_Fair.l0, ↓if_pos, ↓if_neg, if_pos, if_neg, ↓reduceIte, w64, in_t, in_f, l1In_t, l1In_f, Option.bind_some, Bool.not_true, Bool.not_false, Bool.false_eq_true, tmod_nonneg, tdiv_nonneg]
        refine ev_unroll ?_
        simp (disch := omega) only [spec_Fair.j1, ↓if_pos, ↓if_neg, if_pos, if_neg, ↓reduceIte, w64, in_t, in_f, l1In_t, l1In_f, Option.bind_some, Bool.not_true, Bool.not_false, Bool.false_eq_true, tmod_nonneg, tdiv_nonneg]
        exact Ev.now _
      · simp (disch := omega) only [impl_Fair.f, ↓if_pos, ↓if_neg, if_pos, if_neg, ↓reduceIte, w64, in_t, in_f, l1In_t, l1In_f, Option.bind_some, Bool.not_true, Bool.not_false, Bool.false_eq_true, tmod_nonneg, tdiv_nonneg]
        refine ev_unroll ?_
        simp (disch := omega) only [impl_Fair.j0, ↓if_pos, ↓if_neg, if_pos, if_neg, ↓reduceIte, w64, in_t, in_f, l1In_t, l1In_f, Option.bind_some, Bool.not_true, Bool.not_false, Bool.false_eq_true, tmod_nonneg, tdiv_nonneg]
        exact Ev.now _
  · have hx : ∃ j : Nat, j < x0.length ∧ ¬ (rd_L1 x0 (j : Int)).length ≤ 60 := Classical.byContradiction fun h => hall fun j hj => Classical.byContradiction fun h2 => h ⟨j, hj, h2⟩
    refine ⟨([], false), by simp, sq hx, ?_⟩
    by_cases h1 : 1 ≤ (x0.length : Int) ∧ (x0.length : Int) ≤ 8
    · by_cases h2 : 0 ≤ turns ∧ turns ≤ 500
      · simp (disch := omega) only [impl_Fair.f, ↓if_pos, ↓if_neg, if_pos, if_neg, ↓reduceIte, w64, in_t, in_f, l1In_t, l1In_f, Option.bind_some, Bool.not_true, Bool.not_false, Bool.false_eq_true, tmod_nonneg, tdiv_nonneg]
        refine ev_unroll ?_
        simp (disch := omega) only [impl_Fair.j0, ↓if_pos, ↓if_neg, if_pos, if_neg, ↓reduceIte, w64, in_t, in_f, l1In_t, l1In_f, Option.bind_some, Bool.not_true, Bool.not_false, Bool.false_eq_true, tmod_nonneg, tdiv_nonneg]
        exact iq hx
      · simp (disch := omega) only [impl_Fair.f, ↓if_pos, ↓if_neg, if_pos, if_neg, ↓reduceIte, w64, in_t, in_f, l1In_t, l1In_f, Option.bind_some, Bool.not_true, Bool.not_false, Bool.false_eq_true, tmod_nonneg, tdiv_nonneg]
        refine ev_unroll ?_
        simp (disch := omega) only [impl_Fair.j0, ↓if_pos, ↓if_neg, if_pos, if_neg, ↓reduceIte, w64, in_t, in_f, l1In_t, l1In_f, Option.bind_some, Bool.not_true, Bool.not_false, Bool.false_eq_true, tmod_nonneg, tdiv_nonneg]
        exact Ev.now _
    · simp (disch := omega) only [impl_Fair.f, ↓if_pos, ↓if_neg, if_pos, if_neg, ↓reduceIte, w64, in_t, in_f, l1In_t, l1In_f, Option.bind_some, Bool.not_true, Bool.not_false, Bool.false_eq_true, tmod_nonneg, tdiv_nonneg]
      refine ev_unroll ?_
      simp (disch := omega) only [impl_Fair.j0, ↓if_pos, ↓if_neg, if_pos, if_neg, ↓reduceIte, w64, in_t, in_f, l1In_t, l1In_f, Option.bind_some, Bool.not_true, Bool.not_false, Bool.false_eq_true, tmod_nonneg, tdiv_nonneg]
      exact Ev.now _
def laws_FnExactFair.Pure : Prop := ∀ (l0 : List (List Int)) (a1 : Int), l0.length ≤ maxLen → (∀ x ∈ l0, x.length ≤ maxLen ∧ ∀ n ∈ x, (Lit.int .i64 n).wf = true) → (Lit.int .i64 a1).wf = true → ∃ k, laws_FnExactFair.f k l0 a1 = some true
theorem FnExactFair : laws_FnExactFair.Pure := by
  intro l0 a1 hm0 hw0 _
  refine Ev.rounds (g := fun k => laws_FnExactFair.f k l0 a1) ?_
  obtain ⟨v, hv, hv2⟩ := szIntSS_ev l0 hm0 (fun x hx => (hw0 x hx).1)
  simp only [laws_FnExactFair.f]
  refine Ev.bind hv ?_
  by_cases hb : v < 0
  · simp only [if_pos hb]
    exact Ev.now _
  simp only [if_neg hb]
  have hs := hv2 (by omega)
  have hn := ss_len l0 hs
  have htn := tot_nonneg l0 l0.length
  have ht := toIntSS_ev l0 hs
  obtain ⟨⟨l, b⟩, hl, hsp, hi⟩ := both l0 a1 hn (ss_rows l0 hs)
  simp only at hl
  refine Ev.bind ht (Ev.bind hsp (Ev.bind ht (Ev.bind hi (Ev.bind (eqIntS_ev l hl) ?_))))
  simp only [↓reduceIte, bne_self_eq_false]
  refine ev_unroll ?_
  simp only [laws_FnExactFair.j0, Bool.false_eq_true, ↓reduceIte]
  refine Ev.bind ht (Ev.bind (eqIntSS_ev l0 hs) ?_)
  simp only [↓reduceIte]
  refine Ev.bind (markIntSS_ev l0 hs) ?_
  simp (disch := omega) only [↓if_neg]
  refine Ev.bind (eqIntS_ev l hl) ?_
  simp only [↓reduceIte, bne_self_eq_false]
  refine ev_unroll ?_
  simp only [laws_FnExactFair.j1, Bool.false_eq_true, ↓reduceIte]
  refine Ev.bind (markIntS_ev l 1 (by omega) (by omega) hl) (Ev.bind (heldIntS_ev l.length 1 (by omega) (by omega) hl) ?_)
  simp (disch := omega) only [↓if_neg, ↓reduceIte]
  refine Ev.bind ht (Ev.bind hi (Ev.bind (eqIntS_ev l hl) ?_))
  simp only [↓reduceIte, bne_self_eq_false]
  refine ev_unroll ?_
  simp only [laws_FnExactFair.j2, Bool.false_eq_true, ↓reduceIte]
  refine Ev.bind (heldIntS_ev l.length 1 (by omega) (by omega) hl) ?_
  simp (disch := omega) only [↓if_neg, ↓reduceIte]
  exact Ev.now _

end Go.Proofs.Ytcmcnpildccdeab.Pure
