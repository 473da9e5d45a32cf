/- The law FnAdmitted: for every code, of the drawn asks just those are let in that fit with all that have, and the small case is told rightly. -/
import Derived.Test.YtcmcnpildccdeabMFnAdmittedx3
import Derived.Test.YtcmcnpildccdeabKit
namespace Go.Proofs.Ytcmcnpildccdeab.Pure
set_option linter.unusedSimpArgs false
set_option linter.unusedVariables false
open Go Go.RowKit Go.Proofs.Ytcmcnpildccdeab.MFnAdmitted Go.Proofs.YtcmcnpildccdeabW.PrintWords Go.Proofs.YtcmcnpildccdeabW.PrintLast Go.Proofs.Ytcmcnpildccdeab.Mine

theorem in_t {a b c : Int} (h : b ≤ a) (h2 : a ≤ c) : impl_in.f a b c = some true := by
  unfold impl_in.f
  rw [if_pos (by omega)]; simp [h2]
theorem in_f {a b c : Int} (h : ¬ (b ≤ a ∧ a ≤ c)) : impl_in.f a b c = some false := by
  unfold impl_in.f
  by_cases g : a ≥ b
  · rw [if_pos g]; simp; omega
  · rw [if_neg g]
theorem l1In_t {a b c : Int} (h : b ≤ a) (h2 : a ≤ c) : spec_l1In.f a b c = some true := by
  unfold spec_l1In.f
  rw [if_pos (by omega)]; simp [h2]
theorem l1In_f {a b c : Int} (h : ¬ (b ≤ a ∧ a ≤ c)) : spec_l1In.f a b c = some false := by
  unfold spec_l1In.f
  by_cases g : a ≥ b
  · rw [if_pos g]; simp; omega
  · rw [if_neg g]
theorem l1New_ev (x0 : List Int) : ∃ h, Ev (fun k => spec_l1New.f k x0) (x0, 0, h) := by
  have key : ∀ (d : Nat) (i h : Int), 4000 - i ≤ d → 0 ≤ i → ∃ h', Ev (fun k => spec_l1New.l0 k x0 h i) (x0, 0, h') := by
    intro d
    induction d with
    | zero =>
      intro i h hd h0
      refine ⟨h, ev_unroll ?_⟩
      by_cases hlt : i < (x0.length : Int)
      · simp (disch := omega) only [spec_l1New.l0, ↓if_pos, ↓if_neg, if_pos, if_neg, ↓reduceIte, w64, in_t, in_f, l1In_t, l1In_f, Option.bind_some, Bool.not_true, Bool.not_false, Bool.false_eq_true, tmod_nonneg, tdiv_nonneg]
        exact Ev.now _
      · simp (disch := omega) only [spec_l1New.l0, ↓if_pos, ↓if_neg, if_pos, if_neg, ↓reduceIte, w64, in_t, in_f, l1In_t, l1In_f, Option.bind_some, Bool.not_true, Bool.not_false, Bool.false_eq_true, tmod_nonneg, tdiv_nonneg]
        exact Ev.now _
    | succ d ih =>
      intro i h hd h0
      by_cases hlt : i < (x0.length : Int)
      · by_cases h4 : i < 4000
        · obtain ⟨h', p⟩ := ih (i + 1) (Go.bits .and .i64 (wrap64 ((wrap64 ((wrap64 (h * 131)) + (wrap64 (rd x0 i)))) + 7)) 1073741823) (by omega) (by omega)
          refine ⟨h', ev_unroll ?_⟩
          simp only [spec_l1New.l0, if_pos hlt, if_pos h4, if_pos h0]
          rw [w64 (x := i + 1) (by omega) (by omega)]
          exact p
        · refine ⟨h, ev_unroll ?_⟩
          simp (disch := omega) only [spec_l1New.l0, ↓if_pos, ↓if_neg, if_pos, if_neg, ↓reduceIte, w64, in_t, in_f, l1In_t, l1In_f, Option.bind_some, Bool.not_true, Bool.not_false, Bool.false_eq_true, tmod_nonneg, tdiv_nonneg]
          exact Ev.now _
      · refine ⟨h, ev_unroll ?_⟩
        simp (disch := omega) only [spec_l1New.l0, ↓if_pos, ↓if_neg, if_pos, if_neg, ↓reduceIte, w64, in_t, in_f, l1In_t, l1In_f, Option.bind_some, Bool.not_true, Bool.not_false, Bool.false_eq_true, tmod_nonneg, tdiv_nonneg]
        exact Ev.now _
  obtain ⟨h', p⟩ := key 4000 0 (wrap64 (71933 + (x0.length : Int))) (by omega) (by omega)
  exact ⟨h', p⟩
theorem l1Byte_some (b : List Int) (i h : Int) (hb : b.length ≤ 1048576) (h0 : 0 ≤ i) (h1 : i ≤ 1048576) :
    ∃ v i' h', spec_l1Byte.f b i h = some (v, i', h') ∧ 0 ≤ v ∧ v ≤ 255 ∧ 0 ≤ i' ∧ i' ≤ 1048576 := by
  unfold spec_l1Byte.f
  by_cases hlt : i < (b.length : Int)
  · rw [if_pos hlt, if_pos h0, w64 (x := i + 1) (by omega) (by omega)]
    refine ⟨_, _, _, rfl, ?_, ?_, by omega, by omega⟩
    · rw [and255]; omega
    · rw [and255]; omega
  · rw [if_neg hlt]
    refine ⟨_, _, _, rfl, ?_, ?_, h0, h1⟩
    · rw [and255]; omega
    · rw [and255]; omega
theorem l1Below_some (b : List Int) (i h n : Int) (hb : b.length ≤ 1048576) (h0 : 0 ≤ i) (h1 : i ≤ 1048576) :
    ∃ v i' h', spec_l1Below.f b i h n = some (v, i', h') ∧ 0 ≤ v ∧ (0 < n → v < n) ∧ (n ≤ 0 → v = 0) ∧ 0 ≤ i' ∧ i' ≤ 1048576 := by
  unfold spec_l1Below.f
  by_cases hn : n ≤ 0
  · rw [if_pos hn]
    exact ⟨0, i, h, rfl, by omega, by omega, fun _ => rfl, h0, h1⟩
  rw [if_neg hn]
  by_cases hm : n ≤ 256
  · rw [if_pos hm]
    obtain ⟨v, i1, s1, e1, p1, p2, p3, p4⟩ := l1Byte_some b i h hb h0 h1
    rw [e1]
    simp only [Option.bind_some]
    rw [if_neg (by omega), tmod_nonneg p1]
    exact ⟨_, _, _, rfl, Int.emod_nonneg _ (by omega), fun _ => Int.emod_lt_of_pos _ (by omega), fun h => absurd h hn, p3, p4⟩
  · rw [if_neg hm]
    obtain ⟨v1, i1, s1, e1, p1, p2, p3, p4⟩ := l1Byte_some b i h hb h0 h1
    obtain ⟨v2, i2, s2, e2, q1, q2, q3, q4⟩ := l1Byte_some b i1 s1 hb p3 p4
    obtain ⟨v3, i3, s3, e3, r1, r2, r3, r4⟩ := l1Byte_some b i2 s2 hb q3 q4
    obtain ⟨v4, i4, s4, e4, t1, t2, t3, t4⟩ := l1Byte_some b i3 s3 hb r3 r4
    rw [e1]
    simp only [Option.bind_some]
    rw [e2]
    simp only [Option.bind_some]
    rw [e3]
    simp only [Option.bind_some]
    rw [e4]
    simp only [Option.bind_some]
    rw [if_neg (by omega)]
    refine ⟨_, _, _, rfl, ?_, ?_, fun h => absurd h hn, t3, t4⟩
    · simp (disch := omega) only [w64]
      rw [tmod_nonneg (by omega)]
      exact Int.emod_nonneg _ (by omega)
    · intro _
      simp (disch := omega) only [w64]
      rw [tmod_nonneg (by omega)]
      exact Int.emod_lt_of_pos _ (by omega)
theorem l1PickInt_some (b : List Int) (i h : Int) (l : List Int) (hl : 0 < l.length) (hb : b.length ≤ 1048576) (h0 : 0 ≤ i) (h1 : i ≤ 1048576) :
    ∃ v i' h', spec_l1PickInt.f b i h l = some (v, i', h') ∧ v ∈ l ∧ 0 ≤ i' ∧ i' ≤ 1048576 := by
  unfold spec_l1PickInt.f
  obtain ⟨v, i1, s1, e1, p1, p2, p3, p4, p5⟩ := l1Below_some b i h (l.length : Int) hb h0 h1
  rw [e1]
  simp only [Option.bind_some]
  rw [if_pos p1, if_pos (p2 (by omega))]
  exact ⟨_, _, _, rfl, rd_mem p1 (p2 (by omega)), p4, p5⟩
/-- Are a list's elements all within 1 to 1000? -/
def Asks (l : List Int) : Prop := ∀ j : Int, 0 ≤ j → j < (l.length : Int) → 1 ≤ rd l j ∧ rd l j ≤ 1000
theorem asks_ev (x0 : List Int) (hn : x0.length ≤ 1048576) : ∃ b : Bool, (b = true ↔ Asks x0 ∧ x0.length ≤ 60) ∧ Ev (fun k => spec_l16Asks.f k x0) b := by
  have key : ∀ (d : Nat) (i : Int), (x0.length : Int) - i ≤ d → 0 ≤ i → i ≤ x0.length → (∀ j : Int, 0 ≤ j → j < i → 1 ≤ rd x0 j ∧ rd x0 j ≤ 1000) → ∃ b : Bool, (b = true ↔ Asks x0 ∧ x0.length ≤ 60) ∧ Ev (fun k => spec_l16Asks.l0 k x0 i) b := by
    intro d
    induction d with
    | zero =>
      intro i hd h0 h1 hv
      refine ⟨decide ((x0.length : Int) ≤ 60), ?_, ev_unroll ?_⟩
      · simp only [decide_eq_true_eq]
        refine ⟨fun h => ⟨fun j j0 j1 => hv j j0 (by omega), by omega⟩, fun h => by omega⟩
      · simp (disch := omega) only [spec_l16Asks.l0, ↓if_pos, ↓if_neg, if_pos, if_neg, ↓reduceIte, w64, in_t, in_f, l1In_t, l1In_f, Option.bind_some, Bool.not_true, Bool.not_false, Bool.false_eq_true, tmod_nonneg, tdiv_nonneg]
        exact Ev.now _
    | succ d ih =>
      intro i hd h0 h1 hv
      by_cases hlt : i < (x0.length : Int)
      · by_cases hin : 1 ≤ rd x0 i ∧ rd x0 i ≤ 1000
        · obtain ⟨b, o, p⟩ := ih (i + 1) (by omega) (by omega) (by omega) (fun j j0 j1 => by
            by_cases e : j = i
            · rw [e]; exact hin
            · exact hv j j0 (by omega))
          refine ⟨b, o, ev_unroll ?_⟩
          simp (disch := omega) only [spec_l16Asks.l0, ↓if_pos, ↓if_neg, if_pos, if_neg, ↓reduceIte, w64, in_t, in_f, l1In_t, l1In_f, Option.bind_some, Bool.not_true, Bool.not_false, Bool.false_eq_true, tmod_nonneg, tdiv_nonneg]
          exact p
        · refine ⟨false, ⟨fun h => by simp at h, fun h => absurd (h.1 i h0 hlt) hin⟩, ev_unroll ?_⟩
          simp (disch := omega) only [spec_l16Asks.l0, ↓if_pos, ↓if_neg, if_pos, if_neg, ↓reduceIte, w64, in_t, in_f, l1In_t, l1In_f, Option.bind_some, Bool.not_true, Bool.not_false, Bool.false_eq_true, tmod_nonneg, tdiv_nonneg]
          exact Ev.now _
      · refine ⟨decide ((x0.length : Int) ≤ 60), ?_, ev_unroll ?_⟩
        · simp only [decide_eq_true_eq]
          refine ⟨fun h => ⟨fun j j0 j1 => hv j j0 (by omega), by omega⟩, fun h => by omega⟩
        · simp (disch := omega) only [spec_l16Asks.l0, ↓if_pos, ↓if_neg, if_pos, if_neg, ↓reduceIte, w64, in_t, in_f, l1In_t, l1In_f, Option.bind_some, Bool.not_true, Bool.not_false, Bool.false_eq_true, tmod_nonneg, tdiv_nonneg]
          exact Ev.now _
  obtain ⟨b, o, p⟩ := key x0.length 0 (by omega) (by omega) (by omega) (fun j j0 j1 => by omega)
  exact ⟨b, o, p⟩
/-- Who of the asks from place i on is let in where so much is taken. -/
def lets (room : Int) : List Int → Int → List Bool
  | [], _ => []
  | x :: l, s => decide (s + x ≤ room) :: lets room l (if s + x ≤ room then s + x else s)
theorem lets_length (room : Int) (l : List Int) : ∀ s, (lets room l s).length = l.length := by
  induction l with
  | nil => intro s; rfl
  | cons x l ih => intro s; simp [lets, ih]
def sumOf : List Int → Int
  | [] => 0
  | x :: l => x + sumOf l
theorem admit_good (x0 : List Int) (a1 : Int) (x2 : List Int) (h0 : Asks x0) (h1 : x0.length ≤ 60) (h2 : Asks x2) (h3 : x2.length ≤ 60) :
    Ev (fun k => spec_Admit.l0 k x0 a1 x2 [] 0 0) (lets a1 x2 (sumOf x0), true) ∧ Ev (fun k => impl_Admit.l0 k a1 x2 0 x0 (x0.length : Int) 0) (lets a1 x2 (sumOf x0), true) := by
  have key1 : ∀ (d : Nat) (i : Nat) (out : List Bool) (s : Int), x2.length - i = d → i ≤ x2.length → out.length = i → 0 ≤ s → s ≤ 60000 + 1000 * i →
      Ev (fun k => spec_Admit.l1 k a1 x2 out s (i : Int)) (out ++ lets a1 (x2.drop i) s, true) ∧ Ev (fun k => impl_Admit.l1 k a1 s out x2 (x2.length : Int) (i : Int)) (out ++ lets a1 (x2.drop i) s, true) := by
    intro d
    induction d with
    | zero =>
      intro i out s hd hi ho s0 s1
      rw [List.drop_eq_nil_of_le (by omega)]
      simp only [lets, List.append_nil]
      refine ⟨ev_unroll ?_, ev_unroll ?_⟩
      · simp (disch := omega) only [spec_Admit.l1, ↓if_pos, ↓if_neg, if_pos, if_neg, ↓reduceIte, w64, in_t, in_f, l1In_t, l1In_f, Option.bind_some, Bool.not_true, Bool.not_false, Bool.false_eq_true, tmod_nonneg, tdiv_nonneg]
        exact Ev.now _
      · simp (disch := omega) only [impl_Admit.l1, ↓if_pos, ↓if_neg, if_pos, if_neg, ↓reduceIte, w64, in_t, in_f, l1In_t, l1In_f, Option.bind_some, Bool.not_true, Bool.not_false, Bool.false_eq_true, tmod_nonneg, tdiv_nonneg]
        exact Ev.now _
    | succ d ih =>
      intro i out s hd hi ho s0 s1
      have hv := h2 i (by omega) (by omega)
      rw [drop_rd (by omega)]
      by_cases hr : s + rd x2 (i : Int) ≤ a1
      · obtain ⟨p, q⟩ := ih (i + 1) (out ++ [true]) (s + rd x2 (i : Int)) (by omega) (by omega) (by simp [ho]) (by omega) (by omega)
        simp only [lets, decide_eq_true hr, if_pos hr]
        rw [List.append_assoc] at p q
        refine ⟨ev_unroll ?_, ev_unroll ?_⟩
        · simp (disch := omega) only [spec_Admit.l1, ↓if_pos, ↓if_neg, if_pos, if_neg, ↓reduceIte, w64, in_t, in_f, l1In_t, l1In_f, Option.bind_some, Bool.not_true, Bool.not_false, Bool.false_eq_true, tmod_nonneg, tdiv_nonneg]
          rw [decide_eq_true hr]
          exact p
        · simp (disch := omega) only [impl_Admit.l1, ↓if_pos, ↓if_neg, if_pos, if_neg, ↓reduceIte, w64, in_t, in_f, l1In_t, l1In_f, Option.bind_some, Bool.not_true, Bool.not_false, Bool.false_eq_true, tmod_nonneg, tdiv_nonneg]
          rw [decide_eq_true hr]
          exact q
      · obtain ⟨p, q⟩ := ih (i + 1) (out ++ [false]) s (by omega) (by omega) (by simp [ho]) (by omega) (by omega)
        simp only [lets, decide_eq_false hr, if_neg hr]
        rw [List.append_assoc] at p q
        refine ⟨ev_unroll ?_, ev_unroll ?_⟩
        · simp (disch := omega) only [spec_Admit.l1, ↓if_pos, ↓if_neg, if_pos, if_neg, ↓reduceIte, w64, in_t, in_f, l1In_t, l1In_f, Option.bind_some, Bool.not_true, Bool.not_false, Bool.false_eq_true, tmod_nonneg, tdiv_nonneg]
          rw [decide_eq_false hr]
          exact p
        · simp (disch := omega) only [impl_Admit.l1, ↓if_pos, ↓if_neg, if_pos, if_neg, ↓reduceIte, w64, in_t, in_f, l1In_t, l1In_f, Option.bind_some, Bool.not_true, Bool.not_false, Bool.false_eq_true, tmod_nonneg, tdiv_nonneg]
          rw [decide_eq_false hr]
          exact q
  have key0 : ∀ (d : Nat) (i : Nat) (s : Int), x0.length - i = d → i ≤ x0.length → 0 ≤ s → s ≤ 1000 * i →
      Ev (fun k => spec_Admit.l0 k x0 a1 x2 [] s (i : Int)) (lets a1 x2 (s + sumOf (x0.drop i)), true) ∧ Ev (fun k => impl_Admit.l0 k a1 x2 s x0 (x0.length : Int) (i : Int)) (lets a1 x2 (s + sumOf (x0.drop i)), true) := by
    intro d
    induction d with
    | zero =>
      intro i s hd hi s0 s1
      rw [List.drop_eq_nil_of_le (by omega)]
      obtain ⟨p, q⟩ := key1 _ 0 [] s rfl (by omega) rfl s0 (by omega)
      simp only [sumOf, Int.add_zero]
      refine ⟨ev_unroll ?_, ev_unroll ?_⟩
      · simp (disch := omega) only [spec_Admit.l0, ↓if_pos, ↓if_neg, if_pos, if_neg, ↓reduceIte, w64, in_t, in_f, l1In_t, l1In_f, Option.bind_some, Bool.not_true, Bool.not_false, Bool.false_eq_true, tmod_nonneg, tdiv_nonneg]
        simpa using p
      · simp (disch := omega) only [impl_Admit.l0, ↓if_pos, ↓if_neg, if_pos, if_neg, ↓reduceIte, w64, in_t, in_f, l1In_t, l1In_f, Option.bind_some, Bool.not_true, Bool.not_false, Bool.false_eq_true, tmod_nonneg, tdiv_nonneg]
        simpa using q
    | succ d ih =>
      intro i s hd hi s0 s1
      have hv := h0 i (by omega) (by omega)
      rw [drop_rd (by omega)]
      obtain ⟨p, q⟩ := ih (i + 1) (s + rd x0 (i : Int)) (by omega) (by omega) (by omega) (by omega)
      simp only [sumOf, ← Int.add_assoc]
      refine ⟨ev_unroll ?_, ev_unroll ?_⟩
      · simp (disch := omega) only [spec_Admit.l0, ↓if_pos, ↓if_neg, if_pos, if_neg, ↓reduceIte, w64, in_t, in_f, l1In_t, l1In_f, Option.bind_some, Bool.not_true, Bool.not_false, Bool.false_eq_true, tmod_nonneg, tdiv_nonneg]
        exact p
      · simp (disch := omega) only [impl_Admit.l0, ↓if_pos, ↓if_neg, if_pos, if_neg, ↓reduceIte, w64, in_t, in_f, l1In_t, l1In_f, Option.bind_some, Bool.not_true, Bool.not_false, Bool.false_eq_true, tmod_nonneg, tdiv_nonneg]
        exact q
  obtain ⟨p, q⟩ := key0 _ 0 0 rfl (by omega) (by omega) (by omega)
  simp only [List.drop_zero, Int.zero_add] at p q
  exact ⟨p, q⟩
theorem admit_bad1 (a1 : Int) (x2 : List Int) (h3 : x2.length ≤ 60) : ∀ (d : Nat) (i : Nat) (out : List Bool) (s : Int), x2.length - i = d → i ≤ x2.length → out.length = i → 0 ≤ s → s ≤ 60000 + 1000 * i →
    (∃ j : Int, (i : Int) ≤ j ∧ j < (x2.length : Int) ∧ ¬ (1 ≤ rd x2 j ∧ rd x2 j ≤ 1000)) → Ev (fun k => impl_Admit.l1 k a1 s out x2 (x2.length : Int) (i : Int)) ([], false) := by
  intro d
  induction d with
  | zero =>
    intro i out s hd hi ho s0 s1 hx
    obtain ⟨j, j0, j1, j2⟩ := hx
    omega
  | succ d ih =>
    intro i out s hd hi ho s0 s1 hx
    by_cases hv : 1 ≤ rd x2 (i : Int) ∧ rd x2 (i : Int) ≤ 1000
    · obtain ⟨j, j0, j1, j2⟩ := hx
      have hne : j ≠ (i : Int) := fun e => j2 (e ▸ hv)
      by_cases hr : s + rd x2 (i : Int) ≤ a1
      · have p := ih (i + 1) (out ++ [true]) (s + rd x2 (i : Int)) (by omega) (by omega) (by simp [ho]) (by omega) (by omega) ⟨j, by omega, j1, j2⟩
        refine ev_unroll ?_
        simp (disch := omega) only [impl_Admit.l1, ↓if_pos, ↓if_neg, if_pos, if_neg, ↓reduceIte, w64, in_t, in_f, l1In_t, l1In_f, Option.bind_some, Bool.not_true, Bool.not_false, Bool.false_eq_true, tmod_nonneg, tdiv_nonneg]
        rw [decide_eq_true hr]
        exact p
      · have p := ih (i + 1) (out ++ [false]) s (by omega) (by omega) (by simp [ho]) (by omega) (by omega) ⟨j, by omega, j1, j2⟩
        refine ev_unroll ?_
        simp (disch := omega) only [impl_Admit.l1, ↓if_pos, ↓if_neg, if_pos, if_neg, ↓reduceIte, w64, in_t, in_f, l1In_t, l1In_f, Option.bind_some, Bool.not_true, Bool.not_false, Bool.false_eq_true, tmod_nonneg, tdiv_nonneg]
        rw [decide_eq_false hr]
        exact p
    · refine ev_unroll ?_
      simp (disch := omega) only [impl_Admit.l1, ↓if_pos, ↓if_neg, if_pos, if_neg, ↓reduceIte, w64, in_t, in_f, l1In_t, l1In_f, Option.bind_some, Bool.not_true, Bool.not_false, Bool.false_eq_true, tmod_nonneg, tdiv_nonneg]
      exact Ev.now _
theorem admit_bad0 (x0 : List Int) (a1 : Int) (x2 : List Int) (h1 : x0.length ≤ 60) (h3 : x2.length ≤ 60) (hb : ¬ (Asks x0 ∧ Asks x2)) : ∀ (d : Nat) (i : Nat) (s : Int), x0.length - i = d → i ≤ x0.length → 0 ≤ s → s ≤ 1000 * i →
    (∀ j : Int, 0 ≤ j → j < (i : Int) → 1 ≤ rd x0 j ∧ rd x0 j ≤ 1000) → Ev (fun k => impl_Admit.l0 k a1 x2 s x0 (x0.length : Int) (i : Int)) ([], false) := by
  intro d
  induction d with
  | zero =>
    intro i s hd hi s0 s1 hv
    have ha : Asks x0 := fun j j0 j1 => hv j j0 (by omega)
    have hx : ∃ j : Int, ((0 : Nat) : Int) ≤ j ∧ j < (x2.length : Int) ∧ ¬ (1 ≤ rd x2 j ∧ rd x2 j ≤ 1000) := by
      apply Classical.byContradiction
      intro hn
      exact hb ⟨ha, fun j j0 j1 => Classical.byContradiction fun h => hn ⟨j, by omega, j1, h⟩⟩
    have p := admit_bad1 a1 x2 h3 _ 0 [] s rfl (by omega) rfl s0 (by omega) hx
    refine ev_unroll ?_
    simp (disch := omega) only [impl_Admit.l0, ↓if_pos, ↓if_neg, if_pos, if_neg, ↓reduceIte, w64, in_t, in_f, l1In_t, l1In_f, Option.bind_some, Bool.not_true, Bool.not_false, Bool.false_eq_true, tmod_nonneg, tdiv_nonneg]
    exact p
  | succ d ih =>
    intro i s hd hi s0 s1 hv
    by_cases hin : 1 ≤ rd x0 (i : Int) ∧ rd x0 (i : Int) ≤ 1000
    · have p := ih (i + 1) (s + rd x0 (i : Int)) (by omega) (by omega) (by omega) (by omega) (fun j j0 j1 => by
        by_cases e : j = (i : Int)
        · rw [e]; exact hin
        · exact hv j j0 (by omega))
      refine ev_unroll ?_
      simp (disch := omega) only [impl_Admit.l0, ↓if_pos, ↓if_neg, if_pos, if_neg, ↓reduceIte, w64, in_t, in_f, l1In_t, l1In_f, Option.bind_some, Bool.not_true, Bool.not_false, Bool.false_eq_true, tmod_nonneg, tdiv_nonneg]
      exact p
    · refine ev_unroll ?_
      simp (disch := omega) only [impl_Admit.l0, ↓if_pos, ↓if_neg, if_pos, if_neg, ↓reduceIte, w64, in_t, in_f, l1In_t, l1In_f, Option.bind_some, Bool.not_true, Bool.not_false, Bool.false_eq_true, tmod_nonneg, tdiv_nonneg]
      exact Ev.now _
/-- What is told: who is let in, and whether all is as it may be. -/
theorem admit_both (x0 : List Int) (a1 : Int) (x2 : List Int) (hn : x0.length ≤ 1048576) (hn2 : x2.length ≤ 1048576) :
    ∃ r : List Bool × Bool, r.1.length ≤ 1048576 ∧ (r.2 = true → r.1 = lets a1 x2 (sumOf x0) ∧ Asks x0 ∧ Asks x2 ∧ x0.length ≤ 60 ∧ x2.length ≤ 60) ∧ (r.2 = false → r.1 = []) ∧ Ev (fun k => spec_Admit.f k x0 a1 x2) r ∧ Ev (fun k => impl_Admit.f k x0 a1 x2) r := by
  obtain ⟨b0, o0, p0⟩ := asks_ev x0 hn
  obtain ⟨b2, o2, p2⟩ := asks_ev x2 hn2
  by_cases hgood : (Asks x0 ∧ x0.length ≤ 60) ∧ (Asks x2 ∧ x2.length ≤ 60) ∧ 0 ≤ a1 ∧ a1 ≤ 100000
  · obtain ⟨g0, g2, g3, g4⟩ := hgood
    have e0 := o0.2 g0
    have e2 := o2.2 g2
    subst e0 e2
    obtain ⟨p, q⟩ := admit_good x0 a1 x2 g0.1 g0.2 g2.1 g2.2
    refine ⟨(lets a1 x2 (sumOf x0), true), by simp [lets_length]; omega, fun _ => ⟨rfl, g0.1, g2.1, g0.2, g2.2⟩, fun h => by simp at h, ?_, ?_⟩
    · simp only [spec_Admit.f, Option.bind_some]
      refine Ev.bind p0 ?_
      simp only [↓reduceIte]
      refine Ev.bind p2 ?_
      simp (disch := omega) only [↓if_pos, ↓if_neg, if_pos, if_neg, ↓reduceIte, w64, in_t, in_f, l1In_t, l1In_f, Option.bind_some, Bool.not_true, Bool.not_false, Bool.false_eq_true, tmod_nonneg, tdiv_nonneg]
      refine ev_unroll ?_
      simp (disch := omega) only [spec_Admit.j0, ↓if_pos, ↓if_neg, if_pos, if_neg, ↓reduceIte, w64, in_t, in_f, l1In_t, l1In_f, Option.bind_some, Bool.not_true, Bool.not_false, Bool.false_eq_true, tmod_nonneg, tdiv_nonneg]
      exact p
    · have l0 := g0.2
      have l2 := g2.2
      simp (disch := omega) only [impl_Admit.f, ↓if_pos, ↓if_neg, if_pos, if_neg, ↓reduceIte, w64, in_t, in_f, l1In_t, l1In_f, Option.bind_some, Bool.not_true, Bool.not_false, Bool.false_eq_true, tmod_nonneg, tdiv_nonneg]
      refine ev_unroll ?_
      simp (disch := omega) only [impl_Admit.j0, ↓if_pos, ↓if_neg, if_pos, if_neg, ↓reduceIte, w64, in_t, in_f, l1In_t, l1In_f, Option.bind_some, Bool.not_true, Bool.not_false, Bool.false_eq_true, tmod_nonneg, tdiv_nonneg]
      exact q
  · refine ⟨([], false), by simp, fun h => by simp at h, fun _ => rfl, ?_, ?_⟩
    · simp only [spec_Admit.f, Option.bind_some]
      refine Ev.bind p0 ?_
      cases b0 with
      | false =>
        simp (disch := omega) only [↓if_pos, ↓if_neg, if_pos, if_neg, ↓reduceIte, w64, in_t, in_f, l1In_t, l1In_f, Option.bind_some, Bool.not_true, Bool.not_false, Bool.false_eq_true, tmod_nonneg, tdiv_nonneg]
        refine ev_unroll ?_
        simp (disch := omega) only [spec_Admit.j0, ↓if_pos, ↓if_neg, if_pos, if_neg, ↓reduceIte, w64, in_t, in_f, l1In_t, l1In_f, Option.bind_some, Bool.not_true, Bool.not_false, Bool.false_eq_true, tmod_nonneg, tdiv_nonneg]
        exact Ev.now _
      | true =>
        simp only [↓reduceIte]
        refine Ev.bind p2 ?_
        cases b2 with
        | false =>
          simp (disch := omega) only [↓if_pos, ↓if_neg, if_pos, if_neg, ↓reduceIte, w64, in_t, in_f, l1In_t, l1In_f, Option.bind_some, Bool.not_true, Bool.not_false, Bool.false_eq_true, tmod_nonneg, tdiv_nonneg]
          refine ev_unroll ?_
          simp (disch := omega) only [spec_Admit.j0, ↓if_pos, ↓if_neg, if_pos, if_neg, ↓reduceIte, w64, in_t, in_f, l1In_t, l1In_f, Option.bind_some, Bool.not_true, Bool.not_false, Bool.false_eq_true, tmod_nonneg, tdiv_nonneg]
          exact Ev.now _
        | true =>
          have g0 := o0.1 rfl
          have g2 := o2.1 rfl
          have h3 : ¬ (0 ≤ a1 ∧ a1 ≤ 100000) := fun h => hgood ⟨g0, g2, h.1, h.2⟩
          simp (disch := omega) only [↓if_pos, ↓if_neg, if_pos, if_neg, ↓reduceIte, w64, in_t, in_f, l1In_t, l1In_f, Option.bind_some, Bool.not_true, Bool.not_false, Bool.false_eq_true, tmod_nonneg, tdiv_nonneg]
          refine ev_unroll ?_
          simp (disch := omega) only [spec_Admit.j0, ↓if_pos, ↓if_neg, if_pos, if_neg, ↓reduceIte, w64, in_t, in_f, l1In_t, l1In_f, Option.bind_some, Bool.not_true, Bool.not_false, Bool.false_eq_true, tmod_nonneg, tdiv_nonneg]
          exact Ev.now _
    · by_cases l0 : (x0.length : Int) > 60
      · simp (disch := omega) only [impl_Admit.f, ↓if_pos, ↓if_neg, if_pos, if_neg, ↓reduceIte, w64, in_t, in_f, l1In_t, l1In_f, Option.bind_some, Bool.not_true, Bool.not_false, Bool.false_eq_true, tmod_nonneg, tdiv_nonneg]
        refine ev_unroll ?_
        simp (disch := omega) only [impl_Admit.j0, ↓if_pos, ↓if_neg, if_pos, if_neg, ↓reduceIte, w64, in_t, in_f, l1In_t, l1In_f, Option.bind_some, Bool.not_true, Bool.not_false, Bool.false_eq_true, tmod_nonneg, tdiv_nonneg]
        exact Ev.now _
      · by_cases l2 : (x2.length : Int) > 60
        · simp (disch := omega) only [impl_Admit.f, ↓if_pos, ↓if_neg, if_pos, if_neg, ↓reduceIte, w64, in_t, in_f, l1In_t, l1In_f, Option.bind_some, Bool.not_true, Bool.not_false, Bool.false_eq_true, tmod_nonneg, tdiv_nonneg]
          refine ev_unroll ?_
          simp (disch := omega) only [impl_Admit.j0, ↓if_pos, ↓if_neg, if_pos, if_neg, ↓reduceIte, w64, in_t, in_f, l1In_t, l1In_f, Option.bind_some, Bool.not_true, Bool.not_false, Bool.false_eq_true, tmod_nonneg, tdiv_nonneg]
          exact Ev.now _
        · by_cases h3 : 0 ≤ a1 ∧ a1 ≤ 100000
          · have hb : ¬ (Asks x0 ∧ Asks x2) := fun h => hgood ⟨⟨h.1, by omega⟩, ⟨h.2, by omega⟩, h3.1, h3.2⟩
            have p := admit_bad0 x0 a1 x2 (by omega) (by omega) hb _ 0 0 rfl (by omega) (by omega) (by omega) (fun j j0 j1 => by omega)
            simp (disch := omega) only [impl_Admit.f, ↓if_pos, ↓if_neg, if_pos, if_neg, ↓reduceIte, w64, in_t, in_f, l1In_t, l1In_f, Option.bind_some, Bool.not_true, Bool.not_false, Bool.false_eq_true, tmod_nonneg, tdiv_nonneg]
            refine ev_unroll ?_
            simp (disch := omega) only [impl_Admit.j0, ↓if_pos, ↓if_neg, if_pos, if_neg, ↓reduceIte, w64, in_t, in_f, l1In_t, l1In_f, Option.bind_some, Bool.not_true, Bool.not_false, Bool.false_eq_true, tmod_nonneg, tdiv_nonneg]
            exact p
          · simp (disch := omega) only [impl_Admit.f, ↓if_pos, ↓if_neg, if_pos, if_neg, ↓reduceIte, w64, in_t, in_f, l1In_t, l1In_f, Option.bind_some, Bool.not_true, Bool.not_false, Bool.false_eq_true, tmod_nonneg, tdiv_nonneg]
            refine ev_unroll ?_
            simp (disch := omega) only [impl_Admit.j0, ↓if_pos, ↓if_neg, if_pos, if_neg, ↓reduceIte, w64, in_t, in_f, l1In_t, l1In_f, Option.bind_some, Bool.not_true, Bool.not_false, Bool.false_eq_true, tmod_nonneg, tdiv_nonneg]
            exact Ev.now _
theorem draw1 (b : List Int) (hb : b.length ≤ 1048576) (x6 : List Int) (hx6 : x6.length ≤ 10) : ∀ (d : Nat) (x7 : List Int) (x9 i h : Int), x9 ≤ d → d + x7.length ≤ 20 → 0 ≤ i → i ≤ 1048576 →
    ∃ r : List Int × Int × List Int, r.1.length ≤ 100 ∧ r.2.2.length ≤ 100 ∧ Ev (fun k => spec_DrawAdmit.l1 k x6 x7 x9 b i h) r := by
  have last : ∀ (x7 : List Int) (x9 i h : Int), x9 ≤ 0 → x7.length ≤ 20 → 0 ≤ i → i ≤ 1048576 →
      ∃ r : List Int × Int × List Int, r.1.length ≤ 100 ∧ r.2.2.length ≤ 100 ∧ Ev (fun k => spec_DrawAdmit.l1 k x6 x7 x9 b i h) r := by
    intro x7 x9 i h hx hl h0 h1
    obtain ⟨v, i1, s1, e1, p1, p2, p3, p4, p5⟩ := l1Below_some b i h 25 hb h0 h1
    by_cases hv0 : v = 0
    · subst hv0
      obtain ⟨v2, i2, s2, e2, q1, q2, q3⟩ := l1PickInt_some b i1 s1 [0, 1000, 1001] (by simp) hb p4 p5
      obtain ⟨v3, i3, s3, e3, r1, r2, r3⟩ := l1PickInt_some b i2 s2 [0, 50, 100, 200, 100000, 100001, (-1), 150] (by simp) hb q2 q3
      refine ⟨(x6 ++ [v2], v3, x7), by simp; omega, by simp; omega, ev_unroll ?_⟩
      simp (disch := omega) only [spec_DrawAdmit.l1, e1, e2, e3, ↓if_pos, ↓if_neg, if_pos, if_neg, ↓reduceIte, w64, in_t, in_f, l1In_t, l1In_f, Option.bind_some, Bool.not_true, Bool.not_false, Bool.false_eq_true, tmod_nonneg, tdiv_nonneg]
      exact Ev.now _
    · by_cases hv1 : v = 1
      · subst hv1
        obtain ⟨v3, i3, s3, e3, r1, r2, r3⟩ := l1PickInt_some b i1 s1 [0, 50, 100, 200, 100000, 100001, (-1), 150] (by simp) hb p4 p5
        refine ⟨(x6, v3, List.replicate 61 0), by simp; omega, by simp, ev_unroll ?_⟩
        simp (disch := omega) only [spec_DrawAdmit.l1, e1, e3, ↓if_pos, ↓if_neg, if_pos, if_neg, ↓reduceIte, w64, in_t, in_f, l1In_t, l1In_f, Option.bind_some, Bool.not_true, Bool.not_false, Bool.false_eq_true, tmod_nonneg, tdiv_nonneg]
        exact Ev.now _
      · obtain ⟨v3, i3, s3, e3, r1, r2, r3⟩ := l1PickInt_some b i1 s1 [0, 50, 100, 200, 100000, 100001, (-1), 150] (by simp) hb p4 p5
        refine ⟨(x6, v3, x7), by simp; omega, by simp; omega, ev_unroll ?_⟩
        simp (disch := omega) only [spec_DrawAdmit.l1, e1, e3, ↓if_pos, ↓if_neg, if_pos, if_neg, ↓reduceIte, w64, in_t, in_f, l1In_t, l1In_f, Option.bind_some, Bool.not_true, Bool.not_false, Bool.false_eq_true, tmod_nonneg, tdiv_nonneg]
        exact Ev.now _
  intro d
  induction d with
  | zero => exact fun x7 x9 i h hx hl h0 h1 => last x7 x9 i h (by omega) (by omega) h0 h1
  | succ d ih =>
    intro x7 x9 i h hx hl h0 h1
    by_cases hp : x9 > 0
    · obtain ⟨v, i1, s1, e1, p1, p2, p3, p4, p5⟩ := l1Below_some b i h 60 hb h0 h1
      obtain ⟨r, o1, o2, q⟩ := ih (x7 ++ [wrap64 (1 + v)]) (x9 - 1) i1 s1 (by omega) (by simp; omega) p4 p5
      refine ⟨r, o1, o2, ev_unroll ?_⟩
      simp only [spec_DrawAdmit.l1, if_pos hp, e1, Option.bind_some]
      rw [w64 (x := x9 - 1) (by omega) (by omega)]
      simp (disch := omega) only [↓if_pos]
      exact q
    · exact last x7 x9 i h (by omega) (by omega) h0 h1
theorem draw0 (b : List Int) (hb : b.length ≤ 1048576) : ∀ (d : Nat) (x6 : List Int) (x8 i h : Int), x8 ≤ d → d + x6.length ≤ 10 → 0 ≤ i → i ≤ 1048576 →
    ∃ r : List Int × Int × List Int, r.1.length ≤ 100 ∧ r.2.2.length ≤ 100 ∧ Ev (fun k => spec_DrawAdmit.l0 k x6 [] x8 b i h) r := by
  have last : ∀ (x6 : List Int) (x8 i h : Int), x8 ≤ 0 → x6.length ≤ 10 → 0 ≤ i → i ≤ 1048576 →
      ∃ r : List Int × Int × List Int, r.1.length ≤ 100 ∧ r.2.2.length ≤ 100 ∧ Ev (fun k => spec_DrawAdmit.l0 k x6 [] x8 b i h) r := by
    intro x6 x8 i h hx hl h0 h1
    obtain ⟨v, i1, s1, e1, p1, p2, p3, p4, p5⟩ := l1Below_some b i h 10 hb h0 h1
    have p6 := p2 (by omega)
    obtain ⟨r, o1, o2, q⟩ := draw1 b hb x6 hl 20 [] v i1 s1 (by omega) (by simp) p4 p5
    refine ⟨r, o1, o2, ev_unroll ?_⟩
    simp (disch := omega) only [spec_DrawAdmit.l0, e1, ↓if_pos, ↓if_neg, if_pos, if_neg, ↓reduceIte, w64, in_t, in_f, l1In_t, l1In_f, Option.bind_some, Bool.not_true, Bool.not_false, Bool.false_eq_true, tmod_nonneg, tdiv_nonneg]
    exact q
  intro d
  induction d with
  | zero => exact fun x6 x8 i h hx hl h0 h1 => last x6 x8 i h (by omega) (by omega) h0 h1
  | succ d ih =>
    intro x6 x8 i h hx hl h0 h1
    by_cases hp : x8 > 0
    · obtain ⟨v, i1, s1, e1, p1, p2, p3, p4, p5⟩ := l1Below_some b i h 50 hb h0 h1
      obtain ⟨r, o1, o2, q⟩ := ih (x6 ++ [wrap64 (1 + v)]) (x8 - 1) i1 s1 (by omega) (by simp; omega) p4 p5
      refine ⟨r, o1, o2, ev_unroll ?_⟩
      simp only [spec_DrawAdmit.l0, if_pos hp, e1, Option.bind_some]
      rw [w64 (x := x8 - 1) (by omega) (by omega)]
      simp (disch := omega) only [↓if_pos]
      exact q
    · exact last x6 x8 i h (by omega) (by omega) h0 h1
theorem draw_ev (l0 : List Int) (hb : l0.length ≤ 1048576) : ∃ r : List Int × Int × List Int, r.1.length ≤ 100 ∧ r.2.2.length ≤ 100 ∧ Ev (fun k => spec_DrawAdmit.f k l0) r := by
  obtain ⟨h, e0⟩ := l1New_ev l0
  obtain ⟨v, i1, s1, e1, p1, p2, p3, p4, p5⟩ := l1Below_some l0 0 h 5 hb (by omega) (by omega)
  have p6 := p2 (by omega)
  obtain ⟨r, o1, o2, q⟩ := draw0 l0 hb 10 [] v i1 s1 (by omega) (by simp) p4 p5
  refine ⟨r, o1, o2, Ev.bind e0 ?_⟩
  simp only [e1, Option.bind_some]
  exact q
theorem small_ev : Ev (fun k => impl_Admit.f k [5] 10 [6, 5]) ([false, true], true) :=
  Ev.of (fun k => impl_Admit.mono [5] 10 [6, 5] k) (k := 20) (by decide +kernel)
theorem end_ev (x4 : Int) (x5 : List Int) (x6 : List Bool) (s i : Int) (h : (x6.length : Int) ≤ i) : Ev (fun k => laws_FnAdmitted.l1 k x4 x5 x6 s i) true := by
  refine ev_unroll ?_
  simp (disch := omega) only [laws_FnAdmitted.l1, ↓if_neg]
  refine Ev.bind small_ev ?_
  simp [rdOf]
  exact Ev.now _
theorem tail_ev (x4 : Int) (x5 : List Int) (x6 : List Bool) (h2 : Asks x5) (h3 : x5.length ≤ 60) (hl : x6.length = x5.length) : ∀ (d : Nat) (i : Nat) (s : Int), x5.length - i = d → i ≤ x5.length → 0 ≤ s → s ≤ 60000 + 1000 * i → x6.drop i = lets x4 (x5.drop i) s →
    Ev (fun k => laws_FnAdmitted.l1 k x4 x5 x6 s (i : Int)) true := by
  intro d
  induction d with
  | zero => exact fun i s hd hi s0 s1 hx => end_ev x4 x5 x6 s i (by omega)
  | succ d ih =>
    intro i s hd hi s0 s1 hx
    have hv := h2 i (by omega) (by omega)
    rw [drop_getD false (by omega), drop_rd (by omega), lets] at hx
    injection hx with hx1 hx2
    have e : rdOf false x6 (i : Int) = decide (s + rd x5 (i : Int) ≤ x4) := by rw [← hx1]; simp [rdOf]
    by_cases hr : s + rd x5 (i : Int) ≤ x4
    · rw [decide_eq_true hr] at e
      rw [if_pos hr] at hx2
      have p := ih (i + 1) (s + rd x5 (i : Int)) (by omega) (by omega) (by omega) (by omega) hx2
      refine ev_unroll ?_
      simp (disch := omega) only [laws_FnAdmitted.l1, e, ↓if_pos, ↓if_neg, if_pos, if_neg, ↓reduceIte, w64, in_t, in_f, l1In_t, l1In_f, Option.bind_some, Bool.not_true, Bool.not_false, Bool.false_eq_true, tmod_nonneg, tdiv_nonneg]
      rw [decide_eq_true hr]
      simp only [bne_self_eq_false, Bool.false_eq_true, ↓reduceIte]
      exact p
    · rw [decide_eq_false hr] at e
      rw [if_neg hr] at hx2
      have p := ih (i + 1) s (by omega) (by omega) (by omega) (by omega) hx2
      refine ev_unroll ?_
      simp (disch := omega) only [laws_FnAdmitted.l1, e, ↓if_pos, ↓if_neg, if_pos, if_neg, ↓reduceIte, w64, in_t, in_f, l1In_t, l1In_f, Option.bind_some, Bool.not_true, Bool.not_false, Bool.false_eq_true, tmod_nonneg, tdiv_nonneg]
      rw [decide_eq_false hr]
      simp only [bne_self_eq_false, Bool.false_eq_true, ↓reduceIte]
      exact p
theorem sum_any (x3 : List Int) (x4 : Int) (x5 : List Int) (hn : x3.length ≤ 1048576) : ∀ (d : Nat) (i : Nat) (s : Int), x3.length - i = d → i ≤ x3.length → Ev (fun k => laws_FnAdmitted.l0 k x3 x4 x5 [] s (i : Int)) true := by
  intro d
  induction d with
  | zero =>
    intro i s hd hi
    have p := end_ev x4 x5 [] s 0 (by simp)
    refine ev_unroll ?_
    simp (disch := omega) only [laws_FnAdmitted.l0, ↓if_pos, ↓if_neg, if_pos, if_neg, ↓reduceIte, w64, in_t, in_f, l1In_t, l1In_f, Option.bind_some, Bool.not_true, Bool.not_false, Bool.false_eq_true, tmod_nonneg, tdiv_nonneg]
    exact p
  | succ d ih =>
    intro i s hd hi
    have p := ih (i + 1) (wrap64 (s + rd x3 (i : Int))) (by omega) (by omega)
    refine ev_unroll ?_
    simp (disch := omega) only [laws_FnAdmitted.l0, ↓if_pos]
    rw [w64 (x := (i : Int) + 1) (by omega) (by omega)]
    exact p
theorem sum_good (x3 : List Int) (x4 : Int) (x5 : List Int) (h0 : Asks x3) (h1 : x3.length ≤ 60) (h2 : Asks x5) (h3 : x5.length ≤ 60) : ∀ (d : Nat) (i : Nat) (s : Int), x3.length - i = d → i ≤ x3.length → 0 ≤ s → s ≤ 1000 * i → s + sumOf (x3.drop i) = sumOf x3 →
    Ev (fun k => laws_FnAdmitted.l0 k x3 x4 x5 (lets x4 x5 (sumOf x3)) s (i : Int)) true := by
  intro d
  induction d with
  | zero =>
    intro i s hd hi s0 s1 hs
    rw [List.drop_eq_nil_of_le (by omega)] at hs
    simp only [sumOf, Int.add_zero] at hs
    have p := tail_ev x4 x5 (lets x4 x5 (sumOf x3)) h2 h3 (lets_length _ _ _) _ 0 s rfl (by omega) s0 (by omega) (by rw [hs]; simp)
    refine ev_unroll ?_
    simp (disch := omega) only [laws_FnAdmitted.l0, ↓if_pos, ↓if_neg, if_pos, if_neg, ↓reduceIte, w64, in_t, in_f, l1In_t, l1In_f, Option.bind_some, Bool.not_true, Bool.not_false, Bool.false_eq_true, tmod_nonneg, tdiv_nonneg]
    exact p
  | succ d ih =>
    intro i s hd hi s0 s1 hs
    have hv := h0 i (by omega) (by omega)
    rw [drop_rd (by omega), sumOf] at hs
    have p := ih (i + 1) (s + rd x3 (i : Int)) (by omega) (by omega) (by omega) (by omega) (by omega)
    refine ev_unroll ?_
    simp (disch := omega) only [laws_FnAdmitted.l0, ↓if_pos, ↓if_neg, if_pos, if_neg, ↓reduceIte, w64, in_t, in_f, l1In_t, l1In_f, Option.bind_some, Bool.not_true, Bool.not_false, Bool.false_eq_true, tmod_nonneg, tdiv_nonneg]
    exact p
theorem FnAdmitted : laws_FnAdmitted.Pure := by
  intro l0 _ _ hw
  refine Ev.rounds (g := fun k => laws_FnAdmitted.f k l0) ?_
  simp only [laws_FnAdmitted.f, laws_big.f, Option.bind_some, decide_eq_true_eq]
  by_cases hb : (l0.length : Int) > 1048576
  · simp only [if_pos hb]
    exact Ev.now _
  simp only [if_neg hb]
  obtain ⟨⟨x3, x4, x5⟩, d1, d2, hd⟩ := draw_ev l0 (by omega)
  simp only at d1 d2
  obtain ⟨⟨r, ok⟩, hl, g1, g2, hs, hi⟩ := admit_both x3 x4 x5 (by omega) (by omega)
  refine Ev.bind hd (Ev.bind hi (Ev.bind hs ?_))
  simp only [bne_self_eq_false, Bool.false_eq_true, ↓reduceIte]
  cases ok with
  | true =>
    obtain ⟨h1, h2, h3, h4, h5⟩ := g1 rfl
    simp only at h1
    subst h1
    simp only [↓reduceIte, lets_length, bne_self_eq_false]
    refine ev_unroll ?_
    simp only [laws_FnAdmitted.j0, Bool.false_eq_true, ↓reduceIte]
    exact sum_good x3 x4 x5 h2 h4 h3 h5 _ 0 0 rfl (by omega) (by omega) (by omega) (by simp)
  | false =>
    have h1 := g2 rfl
    simp only at h1
    subst h1
    simp only [Bool.false_eq_true, ↓reduceIte]
    refine ev_unroll ?_
    simp only [laws_FnAdmitted.j0, Bool.false_eq_true, ↓reduceIte]
    exact sum_any x3 x4 x5 (by omega) _ 0 0 rfl (by omega)

end Go.Proofs.Ytcmcnpildccdeab.Pure
