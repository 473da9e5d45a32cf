/- The law FnExactAdmit: for all lists of numbers and every room the program's Admit and the reference's tell the same, the lists stay as they were, and what is told is a list of its own. -/
import Derived.Test.YtcmcnpildccdeabMFnExactAdmitx3
import Derived.Test.YtcmcnpildccdeabKit
namespace Go.Proofs.Ytcmcnpildccdeab.Pure
set_option linter.unusedSimpArgs false
set_option linter.unusedVariables false
open Go Go.RowKit Go.Proofs.Ytcmcnpildccdeab.MFnExactAdmit Go.Proofs.YtcmcnpildccdeabW.PrintWords Go.Proofs.YtcmcnpildccdeabW.PrintLast Go.Proofs.Ytcmcnpildccdeab.Mine

theorem toIntS_ev (x0 : List Int) (hn : x0.length ≤ 1048576) : Ev (fun k => laws_toIntS.f k x0) x0 := by
  have key : ∀ (d : Nat) (x3 : List Int) (i : Nat), x0.length - i = d → i ≤ x0.length → x3.length = x0.length → x3.take i = x0.take i → Ev (fun k => laws_toIntS.l0 k x0 x3 (i : Int)) x0 := by
    intro d
    induction d with
    | zero =>
      intro x3 i hd hi hl ht
      have e : x3 = x0 := by
        have h : i = x0.length := by omega
        rw [h, List.take_length, ← hl, List.take_length] at ht
        exact ht
      subst e
      refine ev_unroll ?_
      simp (disch := omega) only [laws_toIntS.l0, ↓if_neg]
      exact Ev.now _
    | succ d ih =>
      intro x3 i hd hi hl ht
      refine ev_unroll ?_
      simp (disch := omega) only [laws_toIntS.l0, ↓if_pos, w64]
      have h := ih (x3.set i (rd x0 i)) (i + 1) (by omega) (by omega) (by simp [hl]) (by rw [rd_nat]; exact take_set_succ 0 hl ht (by omega))
      simpa using h
  have h := key _ (List.replicate x0.length 0) 0 rfl (by omega) (by simp) (by simp)
  simp (disch := omega) only [laws_toIntS.f, ↓if_pos]
  simpa using h
theorem eqIntS_ev (x0 : List Int) (hn : x0.length ≤ 1048576) : Ev (fun k => laws_eqIntS.f k x0 x0) true := by
  have key : ∀ (d : Nat) (i : Nat), x0.length - i = d → i ≤ x0.length → Ev (fun k => laws_eqIntS.l0 k x0 x0 (i : Int)) true := by
    intro d
    induction d with
    | zero =>
      intro i hd hi
      refine ev_unroll ?_
      simp (disch := omega) only [laws_eqIntS.l0, ↓if_neg]
      exact Ev.now _
    | succ d ih =>
      intro i hd hi
      refine ev_unroll ?_
      simp (disch := omega) only [laws_eqIntS.l0, ↓if_pos, w64]
      have h := ih (i + 1) (by omega) (by omega)
      simpa using h
  have h := key _ 0 rfl (by omega)
  simp (disch := omega) only [laws_eqIntS.f, ↓if_pos]
  simpa using h
/-- What a marked list holds. -/
def marks (m : Int) (n : Nat) : List Int := (List.range n).map fun (j : Nat) => m + (j : Int)
theorem marks_length (m : Int) (n : Nat) : (marks m n).length = n := by simp [marks]
theorem rd_marks (m : Int) (n i : Nat) (h : i < n) : rd (marks m n) (i : Int) = m + i := by simp [rd, marks, h]
theorem markIntS_ev (x0 : List Int) (m : Int) (hm : 0 ≤ m) (hm2 : m ≤ 1000000000) (hn : x0.length ≤ 1048576) : Ev (fun k => laws_markIntS.f k x0 m) ((m + x0.length : Int), marks m x0.length) := by
  have key : ∀ (d : Nat) (y : List Int) (i : Nat), x0.length - i = d → i ≤ x0.length → y.length = x0.length → y.take i = (marks m x0.length).take i → Ev (fun k => laws_markIntS.l0 k y (m + (i : Int)) (i : Int)) ((m + x0.length : Int), marks m x0.length) := by
    intro d
    induction d with
    | zero =>
      intro y i hd hi hl ht
      have h : i = x0.length := by omega
      have e : y = marks m x0.length := by
        have h2 := ht
        rw [List.take_of_length_le (by omega), List.take_of_length_le (by rw [marks_length]; omega)] at h2
        exact h2
      refine ev_unroll ?_
      simp (disch := omega) only [laws_markIntS.l0, ↓if_neg]
      rw [h, e]
      exact Ev.now _
    | succ d ih =>
      intro y i hd hi hl ht
      refine ev_unroll ?_
      simp (disch := omega) only [laws_markIntS.l0, ↓if_pos, w64]
      have h := ih (y.set i (m + (i : Int))) (i + 1) (by omega) (by omega) (by simp [hl]) (by
        have h2 := take_set_succ (l := y) (m := marks m x0.length) 0 (by rw [marks_length]; exact hl) ht (by rw [marks_length]; omega)
        rw [show (marks m x0.length).getD i 0 = m + (i : Int) from by rw [← rd_nat, rd_marks _ _ _ (by omega)]] at h2
        exact h2)
      rw [show (m + (i : Int) + 1) = m + ((i + 1 : Nat) : Int) from by omega, show ((i : Int) + 1) = ((i + 1 : Nat) : Int) from by omega]
      simpa using h
  have h := key _ x0 0 rfl (by omega) rfl (by simp)
  simp only [laws_markIntS.f]
  simpa using h
theorem eqBoolS_ev (x0 : List Bool) (hn : x0.length ≤ 1048576) : Ev (fun k => laws_eqBoolS.f k x0 x0) true := by
  have key : ∀ (d : Nat) (i : Nat), x0.length - i = d → i ≤ x0.length → Ev (fun k => laws_eqBoolS.l0 k x0 x0 (i : Int)) true := by
    intro d
    induction d with
    | zero =>
      intro i hd hi
      refine ev_unroll ?_
      simp (disch := omega) only [laws_eqBoolS.l0, ↓if_neg]
      exact Ev.now _
    | succ d ih =>
      intro i hd hi
      refine ev_unroll ?_
      simp (disch := omega) only [laws_eqBoolS.l0, ↓if_pos, w64, bne_self_eq_false, Bool.false_eq_true, ↓reduceIte]
      have h := ih (i + 1) (by omega) (by omega)
      simpa using h
  have h := key _ 0 rfl (by omega)
  simp (disch := omega) only [laws_eqBoolS.f, ↓if_pos]
  simpa using h
/-- What a marked list of bools holds. -/
def marksB (m : Int) (n : Nat) : List Bool := (List.range n).map fun (j : Nat) => ((m + (j : Int)) % 3 == 0)
theorem marksB_length (m : Int) (n : Nat) : (marksB m n).length = n := by simp [marksB]
theorem rd_marksB (m : Int) (n i : Nat) (h : i < n) : rdOf false (marksB m n) (i : Int) = ((m + i) % 3 == 0) := by simp [rdOf, marksB, h]
theorem getD_marksB (m : Int) (n i : Nat) (h : i < n) : (marksB m n).getD i false = ((m + i) % 3 == 0) := by simp [marksB, h]
theorem markBoolS_ev (x0 : List Bool) (m : Int) (hm : 0 ≤ m) (hm2 : m ≤ 1000000000) (hn : x0.length ≤ 1048576) : Ev (fun k => laws_markBoolS.f k x0 m) ((m + x0.length : Int), marksB m x0.length) := by
  have key : ∀ (d : Nat) (y : List Bool) (i : Nat), x0.length - i = d → i ≤ x0.length → y.length = x0.length → y.take i = (marksB m x0.length).take i → Ev (fun k => laws_markBoolS.l0 k y (m + (i : Int)) (i : Int)) ((m + x0.length : Int), marksB m x0.length) := by
    intro d
    induction d with
    | zero =>
      intro y i hd hi hl ht
      have h : i = x0.length := by omega
      have e : y = marksB m x0.length := by
        have h2 := ht
        rw [List.take_of_length_le (by omega), List.take_of_length_le (by rw [marksB_length]; omega)] at h2
        exact h2
      refine ev_unroll ?_
      simp (disch := omega) only [laws_markBoolS.l0, ↓if_neg]
      rw [h, e]
      exact Ev.now _
    | succ d ih =>
      intro y i hd hi hl ht
      refine ev_unroll ?_
      simp (disch := omega) only [laws_markBoolS.l0, ↓if_pos, w64, tmod_nonneg]
      have h := ih (y.set i ((m + (i : Int)) % 3 == 0)) (i + 1) (by omega) (by omega) (by simp [hl]) (by
        have h2 := take_set_succ (l := y) (m := marksB m x0.length) false (by rw [marksB_length]; exact hl) ht (by rw [marksB_length]; omega)
        rw [getD_marksB _ _ _ (by omega)] at h2
        exact h2)
      rw [show (m + (i : Int) + 1) = m + ((i + 1 : Nat) : Int) from by omega, show ((i : Int) + 1) = ((i + 1 : Nat) : Int) from by omega]
      simpa using h
  have h := key _ x0 0 rfl (by omega) rfl (by simp)
  simp only [laws_markBoolS.f]
  simpa using h
theorem heldBoolS_ev (n : Nat) (m : Int) (hm : 0 ≤ m) (hm2 : m ≤ 1000000000) (hn : n ≤ 1048576) : Ev (fun k => laws_heldBoolS.f k (marksB m n) m) (m + n : Int) := by
  have key : ∀ (d : Nat) (i : Nat), n - i = d → i ≤ n → Ev (fun k => laws_heldBoolS.l0 k (marksB m n) (m + (i : Int)) (i : Int)) (m + n : Int) := by
    intro d
    induction d with
    | zero =>
      intro i hd hi
      have h : i = n := by omega
      have hl := marksB_length m n
      refine ev_unroll ?_
      simp (disch := omega) only [laws_heldBoolS.l0, ↓if_neg]
      rw [h]
      exact Ev.now _
    | succ d ih =>
      intro i hd hi
      have hl := marksB_length m n
      have hr := rd_marksB m n i (by omega)
      refine ev_unroll ?_
      simp (disch := omega) only [laws_heldBoolS.l0, ↓if_pos, w64, tmod_nonneg, hr, bne_self_eq_false, Bool.false_eq_true, ↓reduceIte]
      have h := ih (i + 1) (by omega) (by omega)
      rw [show (m + (i : Int) + 1) = m + ((i + 1 : Nat) : Int) from by omega, show ((i : Int) + 1) = ((i + 1 : Nat) : Int) from by omega]
      exact h
  have h := key _ 0 rfl (by omega)
  simp only [laws_heldBoolS.f]
  simpa using h
theorem in_t {a b c : Int} (h : b ≤ a) (h2 : a ≤ c) : impl_in.f a b c = some true := by
  unfold impl_in.f
  rw [if_pos (by omega)]; simp [h2]
theorem in_f {a b c : Int} (h : ¬ (b ≤ a ∧ a ≤ c)) : impl_in.f a b c = some false := by
  unfold impl_in.f
  by_cases g : a ≥ b
  · rw [if_pos g]; simp; omega
  · rw [if_neg g]
theorem l1In_t {a b c : Int} (h : b ≤ a) (h2 : a ≤ c) : spec_l1In.f a b c = some true := by
  unfold spec_l1In.f
  rw [if_pos (by omega)]; simp [h2]
theorem l1In_f {a b c : Int} (h : ¬ (b ≤ a ∧ a ≤ c)) : spec_l1In.f a b c = some false := by
  unfold spec_l1In.f
  by_cases g : a ≥ b
  · rw [if_pos g]; simp; omega
  · rw [if_neg g]
/-- Are a list's elements all within 1 to 1000? -/
def Asks (l : List Int) : Prop := ∀ j : Int, 0 ≤ j → j < (l.length : Int) → 1 ≤ rd l j ∧ rd l j ≤ 1000
theorem asks_ev (x0 : List Int) (hn : x0.length ≤ 1048576) : ∃ b : Bool, (b = true ↔ Asks x0 ∧ x0.length ≤ 60) ∧ Ev (fun k => spec_l16Asks.f k x0) b := by
  have key : ∀ (d : Nat) (i : Int), (x0.length : Int) - i ≤ d → 0 ≤ i → i ≤ x0.length → (∀ j : Int, 0 ≤ j → j < i → 1 ≤ rd x0 j ∧ rd x0 j ≤ 1000) → ∃ b : Bool, (b = true ↔ Asks x0 ∧ x0.length ≤ 60) ∧ Ev (fun k => spec_l16Asks.l0 k x0 i) b := by
    intro d
    induction d with
    | zero =>
      intro i hd h0 h1 hv
      refine ⟨decide ((x0.length : Int) ≤ 60), ?_, ev_unroll ?_⟩
      · simp only [decide_eq_true_eq]
        refine ⟨fun h => ⟨fun j j0 j1 => hv j j0 (by omega), by omega⟩, fun h => by omega⟩
      · simp (disch := omega) only [spec_l16Asks.l0, ↓if_pos, ↓if_neg, if_pos, if_neg, ↓reduceIte, w64, in_t, in_f, l1In_t, l1In_f, Option.bind_some, Bool.not_true, Bool.not_false, Bool.false_eq_true, tmod_nonneg, tdiv_nonneg]
        exact Ev.now _
    | succ d ih =>
      intro i hd h0 h1 hv
      by_cases hlt : i < (x0.length : Int)
      · by_cases hin : 1 ≤ rd x0 i ∧ rd x0 i ≤ 1000
        · obtain ⟨b, o, p⟩ := ih (i + 1) (by omega) (by omega) (by omega) (fun j j0 j1 => by
            by_cases e : j = i
            · rw [e]; exact hin
            · exact hv j j0 (by omega))
          refine ⟨b, o, ev_unroll ?_⟩
          simp (disch := omega) only [spec_l16Asks.l0, ↓if_pos, ↓if_neg, if_pos, if_neg, ↓reduceIte, w64, in_t, in_f, l1In_t, l1In_f, Option.bind_some, Bool.not_true, Bool.not_false, Bool.false_eq_true, tmod_nonneg, tdiv_nonneg]
          exact p
        · refine ⟨false, ⟨fun h => by simp at h, fun h => absurd (h.1 i h0 hlt) hin⟩, ev_unroll ?_⟩
          simp (disch := omega) only [spec_l16Asks.l0, ↓if_pos, ↓if_neg, if_pos, if_neg, ↓reduceIte, w64, in_t, in_f, l1In_t, l1In_f, Option.bind_some, Bool.not_true, Bool.not_false, Bool.false_eq_true, tmod_nonneg, tdiv_nonneg]
          exact Ev.now _
      · refine ⟨decide ((x0.length : Int) ≤ 60), ?_, ev_unroll ?_⟩
        · simp only [decide_eq_true_eq]
          refine ⟨fun h => ⟨fun j j0 j1 => hv j j0 (by omega), by omega⟩, fun h => by omega⟩
        · simp (disch := omega) only [spec_l16Asks.l0, ↓if_pos, ↓if_neg, if_pos, if_neg, ↓reduceIte, w64, in_t, in_f, l1In_t, l1In_f, Option.bind_some, Bool.not_true, Bool.not_false, Bool.false_eq_true, tmod_nonneg, tdiv_nonneg]
          exact Ev.now _
  obtain ⟨b, o, p⟩ := key x0.length 0 (by omega) (by omega) (by omega) (fun j j0 j1 => by omega)
  exact ⟨b, o, p⟩
/-- Who of the asks from place i on is let in where so much is taken. -/
def lets (room : Int) : List Int → Int → List Bool
  | [], _ => []
  | x :: l, s => decide (s + x ≤ room) :: lets room l (if s + x ≤ room then s + x else s)
theorem lets_length (room : Int) (l : List Int) : ∀ s, (lets room l s).length = l.length := by
  induction l with
  | nil => intro s; rfl
  | cons x l ih => intro s; simp [lets, ih]
def sumOf : List Int → Int
  | [] => 0
  | x :: l => x + sumOf l
theorem admit_good (x0 : List Int) (a1 : Int) (x2 : List Int) (h0 : Asks x0) (h1 : x0.length ≤ 60) (h2 : Asks x2) (h3 : x2.length ≤ 60) :
    Ev (fun k => spec_Admit.l0 k x0 a1 x2 [] 0 0) (lets a1 x2 (sumOf x0), true) ∧ Ev (fun k => impl_Admit.l0 k a1 x2 0 x0 (x0.length : Int) 0) (lets a1 x2 (sumOf x0), true) := by
  have key1 : ∀ (d : Nat) (i : Nat) (out : List Bool) (s : Int), x2.length - i = d → i ≤ x2.length → out.length = i → 0 ≤ s → s ≤ 60000 + 1000 * i →
      Ev (fun k => spec_Admit.l1 k a1 x2 out s (i : Int)) (out ++ lets a1 (x2.drop i) s, true) ∧ Ev (fun k => impl_Admit.l1 k a1 s out x2 (x2.length : Int) (i : Int)) (out ++ lets a1 (x2.drop i) s, true) := by
    intro d
    induction d with
    | zero =>
      intro i out s hd hi ho s0 s1
      rw [List.drop_eq_nil_of_le (by omega)]
      simp only [lets, List.append_nil]
      refine ⟨ev_unroll ?_, ev_unroll ?_⟩
      · simp (disch := omega) only [spec_Admit.l1, ↓if_pos, ↓if_neg, if_pos, if_neg, ↓reduceIte, w64, in_t, in_f, l1In_t, l1In_f, Option.bind_some, Bool.not_true, Bool.not_false, Bool.false_eq_true, tmod_nonneg, tdiv_nonneg]
        exact Ev.now _
      · simp (disch := omega) only [impl_Admit.l1, ↓if_pos, ↓if_neg, if_pos, if_neg, ↓reduceIte, w64, in_t, in_f, l1In_t, l1In_f, Option.bind_some, Bool.not_true, Bool.not_false, Bool.false_eq_true, tmod_nonneg, tdiv_nonneg]
        exact Ev.now _
    | succ d ih =>
      intro i out s hd hi ho s0 s1
      have hv := h2 i (by omega) (by omega)
      rw [drop_rd (by omega)]
      by_cases hr : s + rd x2 (i : Int) ≤ a1
      · obtain ⟨p, q⟩ := ih (i + 1) (out ++ [true]) (s + rd x2 (i : Int)) (by omega) (by omega) (by simp [ho]) (by omega) (by omega)
        simp only [lets, decide_eq_true hr, if_pos hr]
        rw [List.append_assoc] at p q
        refine ⟨ev_unroll ?_, ev_unroll ?_⟩
        · simp (disch := omega) only [spec_Admit.l1, ↓if_pos, ↓if_neg, if_pos, if_neg, ↓reduceIte, w64, in_t, in_f, l1In_t, l1In_f, Option.bind_some, Bool.not_true, Bool.not_false, Bool.false_eq_true, tmod_nonneg, tdiv_nonneg]
          rw [decide_eq_true hr]
          exact p
        · simp (disch := omega) only [impl_Admit.l1, ↓if_pos, ↓if_neg, if_pos, if_neg, ↓reduceIte, w64, in_t, in_f, l1In_t, l1In_f, Option.bind_some, Bool.not_true, Bool.not_false, Bool.false_eq_true, tmod_nonneg, tdiv_nonneg]
          rw [decide_eq_true hr]
          exact q
      · obtain ⟨p, q⟩ := ih (i + 1) (out ++ [false]) s (by omega) (by omega) (by simp [ho]) (by omega) (by omega)
        simp only [lets, decide_eq_false hr, if_neg hr]
        rw [List.append_assoc] at p q
        refine ⟨ev_unroll ?_, ev_unroll ?_⟩
        · simp (disch := omega) only [spec_Admit.l1, ↓if_pos, ↓if_neg, if_pos, if_neg, ↓reduceIte, w64, in_t, in_f, l1In_t, l1In_f, Option.bind_some, Bool.not_true, Bool.not_false, Bool.false_eq_true, tmod_nonneg, tdiv_nonneg]
          rw [decide_eq_false hr]
          exact p
        · simp (disch := omega) only [impl_Admit.l1, ↓if_pos, ↓if_neg, if_pos, if_neg, ↓reduceIte, w64, in_t, in_f, l1In_t, l1In_f, Option.bind_some, Bool.not_true, Bool.not_false, Bool.false_eq_true, tmod_nonneg, tdiv_nonneg]
          rw [decide_eq_false hr]
          exact q
  have key0 : ∀ (d : Nat) (i : Nat) (s : Int), x0.length - i = d → i ≤ x0.length → 0 ≤ s → s ≤ 1000 * i →
      Ev (fun k => spec_Admit.l0 k x0 a1 x2 [] s (i : Int)) (lets a1 x2 (s + sumOf (x0.drop i)), true) ∧ Ev (fun k => impl_Admit.l0 k a1 x2 s x0 (x0.length : Int) (i : Int)) (lets a1 x2 (s + sumOf (x0.drop i)), true) := by
    intro d
    induction d with
    | zero =>
      intro i s hd hi s0 s1
      rw [List.drop_eq_nil_of_le (by omega)]
      obtain ⟨p, q⟩ := key1 _ 0 [] s rfl (by omega) rfl s0 (by omega)
      simp only [sumOf, Int.add_zero]
      refine ⟨ev_unroll ?_, ev_unroll ?_⟩
      · simp (disch := omega) only [spec_Admit.l0, ↓if_pos, ↓if_neg, if_pos, if_neg, ↓reduceIte, w64, in_t, in_f, l1In_t, l1In_f, Option.bind_some, Bool.not_true, Bool.not_false, Bool.false_eq_true, tmod_nonneg, tdiv_nonneg]
        simpa using p
      · simp (disch := omega) only [impl_Admit.l0, ↓if_pos, ↓if_neg, if_pos, if_neg, ↓reduceIte, w64, in_t, in_f, l1In_t, l1In_f, Option.bind_some, Bool.not_true, Bool.not_false, Bool.false_eq_true, tmod_nonneg, tdiv_nonneg]
        simpa using q
    | succ d ih =>
      intro i s hd hi s0 s1
      have hv := h0 i (by omega) (by omega)
      rw [drop_rd (by omega)]
      obtain ⟨p, q⟩ := ih (i + 1) (s + rd x0 (i : Int)) (by omega) (by omega) (by omega) (by omega)
      simp only [sumOf, ← Int.add_assoc]
      refine ⟨ev_unroll ?_, ev_unroll ?_⟩
      · simp (disch := omega) only [spec_Admit.l0, ↓if_pos, ↓if_neg, if_pos, if_neg, ↓reduceIte, w64, in_t, in_f, l1In_t, l1In_f, Option.bind_some, Bool.not_true, Bool.not_false, Bool.false_eq_true, tmod_nonneg, tdiv_nonneg]
        exact p
      · simp (disch := omega) only [impl_Admit.l0, ↓if_pos, ↓if_neg, if_pos, if_neg, ↓reduceIte, w64, in_t, in_f, l1In_t, l1In_f, Option.bind_some, Bool.not_true, Bool.not_false, Bool.false_eq_true, tmod_nonneg, tdiv_nonneg]
        exact q
  obtain ⟨p, q⟩ := key0 _ 0 0 rfl (by omega) (by omega) (by omega)
  simp only [List.drop_zero, Int.zero_add] at p q
  exact ⟨p, q⟩
theorem admit_bad1 (a1 : Int) (x2 : List Int) (h3 : x2.length ≤ 60) : ∀ (d : Nat) (i : Nat) (out : List Bool) (s : Int), x2.length - i = d → i ≤ x2.length → out.length = i → 0 ≤ s → s ≤ 60000 + 1000 * i →
    (∃ j : Int, (i : Int) ≤ j ∧ j < (x2.length : Int) ∧ ¬ (1 ≤ rd x2 j ∧ rd x2 j ≤ 1000)) → Ev (fun k => impl_Admit.l1 k a1 s out x2 (x2.length : Int) (i : Int)) ([], false) := by
  intro d
  induction d with
  | zero =>
    intro i out s hd hi ho s0 s1 hx
    obtain ⟨j, j0, j1, j2⟩ := hx
    omega
  | succ d ih =>
    intro i out s hd hi ho s0 s1 hx
    by_cases hv : 1 ≤ rd x2 (i : Int) ∧ rd x2 (i : Int) ≤ 1000
    · obtain ⟨j, j0, j1, j2⟩ := hx
      have hne : j ≠ (i : Int) := fun e => j2 (e ▸ hv)
      by_cases hr : s + rd x2 (i : Int) ≤ a1
      · have p := ih (i + 1) (out ++ [true]) (s + rd x2 (i : Int)) (by omega) (by omega) (by simp [ho]) (by omega) (by omega) ⟨j, by omega, j1, j2⟩
        refine ev_unroll ?_
        simp (disch := omega) only [impl_Admit.l1, ↓if_pos, ↓if_neg, if_pos, if_neg, ↓reduceIte, w64, in_t, in_f, l1In_t, l1In_f, Option.bind_some, Bool.not_true, Bool.not_false, Bool.false_eq_true, tmod_nonneg, tdiv_nonneg]
        rw [decide_eq_true hr]
        exact p
      · have p := ih (i + 1) (out ++ [false]) s (by omega) (by omega) (by simp [ho]) (by omega) (by omega) ⟨j, by omega, j1, j2⟩
        refine ev_unroll ?_
        simp (disch := omega) only [impl_Admit.l1, ↓if_pos, ↓if_neg, if_pos, if_neg, ↓reduceIte, w64, in_t, in_f, l1In_t, l1In_f, Option.bind_some, Bool.not_true, Bool.not_false, Bool.false_eq_true, tmod_nonneg, tdiv_nonneg]
        rw [decide_eq_false hr]
        exact p
    · refine ev_unroll ?_
      simp (disch := omega) only [impl_Admit.l1, ↓if_pos, ↓if_neg, if_pos, if_neg, ↓reduceIte, w64, in_t, in_f, l1In_t, l1In_f, Option.bind_some, Bool.not_true, Bool.not_false, Bool.false_eq_true, tmod_nonneg, tdiv_nonneg]
      exact Ev.now _
theorem admit_bad0 (x0 : List Int) (a1 : Int) (x2 : List Int) (h1 : x0.length ≤ 60) (h3 : x2.length ≤ 60) (hb : ¬ (Asks x0 ∧ Asks x2)) : ∀ (d : Nat) (i : Nat) (s : Int), x0.length - i = d → i ≤ x0.length → 0 ≤ s → s ≤ 1000 * i →
    (∀ j : Int, 0 ≤ j → j < (i : Int) → 1 ≤ rd x0 j ∧ rd x0 j ≤ 1000) → Ev (fun k => impl_Admit.l0 k a1 x2 s x0 (x0.length : Int) (i : Int)) ([], false) := by
  intro d
  induction d with
  | zero =>
    intro i s hd hi s0 s1 hv
    have ha : Asks x0 := fun j j0 j1 => hv j j0 (by omega)
    have hx : ∃ j : Int, ((0 : Nat) : Int) ≤ j ∧ j < (x2.length : Int) ∧ ¬ (1 ≤ rd x2 j ∧ rd x2 j ≤ 1000) := by
      apply Classical.byContradiction
      intro hn
      exact hb ⟨ha, fun j j0 j1 => Classical.byContradiction fun h => hn ⟨j, by omega, j1, h⟩⟩
    have p := admit_bad1 a1 x2 h3 _ 0 [] s rfl (by omega) rfl s0 (by omega) hx
    refine ev_unroll ?_
    simp (disch := omega) only [impl_Admit.l0, ↓if_pos, ↓if_neg, if_pos, if_neg, ↓reduceIte, w64, in_t, in_f, l1In_t, l1In_f, Option.bind_some, Bool.not_true, Bool.not_false, Bool.false_eq_true, tmod_nonneg, tdiv_nonneg]
    exact p
  | succ d ih =>
    intro i s hd hi s0 s1 hv
    by_cases hin : 1 ≤ rd x0 (i : Int) ∧ rd x0 (i : Int) ≤ 1000
    · have p := ih (i + 1) (s + rd x0 (i : Int)) (by omega) (by omega) (by omega) (by omega) (fun j j0 j1 => by
        by_cases e : j = (i : Int)
        · rw [e]; exact hin
        · exact hv j j0 (by omega))
      refine ev_unroll ?_
      simp (disch := omega) only [impl_Admit.l0, ↓if_pos, ↓if_neg, if_pos, if_neg, ↓reduceIte, w64, in_t, in_f, l1In_t, l1In_f, Option.bind_some, Bool.not_true, Bool.not_false, Bool.false_eq_true, tmod_nonneg, tdiv_nonneg]
      exact p
    · refine ev_unroll ?_
      simp (disch := omega) only [impl_Admit.l0, ↓if_pos, ↓if_neg, if_pos, if_neg, ↓reduceIte, w64, in_t, in_f, l1In_t, l1In_f, Option.bind_some, Bool.not_true, Bool.not_false, Bool.false_eq_true, tmod_nonneg, tdiv_nonneg]
      exact Ev.now _
/-- What is told: who is let in, and whether all is as it may be. -/
theorem admit_both (x0 : List Int) (a1 : Int) (x2 : List Int) (hn : x0.length ≤ 1048576) (hn2 : x2.length ≤ 1048576) :
    ∃ r : List Bool × Bool, r.1.length ≤ 1048576 ∧ (r.2 = true → r.1 = lets a1 x2 (sumOf x0) ∧ Asks x0 ∧ Asks x2 ∧ x0.length ≤ 60 ∧ x2.length ≤ 60) ∧ (r.2 = false → r.1 = []) ∧ Ev (fun k => spec_Admit.f k x0 a1 x2) r ∧ Ev (fun k => impl_Admit.f k x0 a1 x2) r := by
  obtain ⟨b0, o0, p0⟩ := asks_ev x0 hn
  obtain ⟨b2, o2, p2⟩ := asks_ev x2 hn2
  by_cases hgood : (Asks x0 ∧ x0.length ≤ 60) ∧ (Asks x2 ∧ x2.length ≤ 60) ∧ 0 ≤ a1 ∧ a1 ≤ 100000
  · obtain ⟨g0, g2, g3, g4⟩ := hgood
    have e0 := o0.2 g0
    have e2 := o2.2 g2
    subst e0 e2
    obtain ⟨p, q⟩ := admit_good x0 a1 x2 g0.1 g0.2 g2.1 g2.2
    refine ⟨(lets a1 x2 (sumOf x0), true), by simp [lets_length]; omega, fun _ => ⟨rfl, g0.1, g2.1, g0.2, g2.2⟩, fun h => by simp at h, ?_, ?_⟩
    · simp only [spec_Admit.f, Option.bind_some]
      refine Ev.bind p0 ?_
      simp only [↓reduceIte]
      refine Ev.bind p2 ?_
      simp (disch := omega) only [↓if_pos, ↓if_neg, if_pos, if_neg, ↓reduceIte, w64, in_t, in_f, l1In_t, l1In_f, Option.bind_some, Bool.not_true, Bool.not_false, Bool.false_eq_true, tmod_nonneg, tdiv_nonneg]
      refine ev_unroll ?_
      simp (disch := omega) only [spec_Admit.j0, ↓if_pos, ↓if_neg, if_pos, if_neg, ↓reduceIte, w64, in_t, in_f, l1In_t, l1In_f, Option.bind_some, Bool.not_true, Bool.not_false, Bool.false_eq_true, tmod_nonneg, tdiv_nonneg]
      exact p
    · have l0 := g0.2
      have l2 := g2.2
      simp (disch := omega) only [impl_Admit.f, ↓if_pos, ↓if_neg, if_pos, if_neg, ↓reduceIte, w64, in_t, in_f, l1In_t, l1In_f, Option.bind_some, Bool.not_true, Bool.not_false, Bool.false_eq_true, tmod_nonneg, tdiv_nonneg]
      refine ev_unroll ?_
      simp (disch := omega) only [impl_Admit.j0, ↓if_pos, ↓if_neg, if_pos, if_neg, ↓reduceIte, w64, in_t, in_f, l1In_t, l1In_f, Option.bind_some, Bool.not_true, Bool.not_false, Bool.false_eq_true, tmod_nonneg, tdiv_nonneg]
      exact q
  · refine ⟨([], false), by simp, fun h => by simp at h, fun _ => rfl, ?_, ?_⟩
    · simp only [spec_Admit.f, Option.bind_some]
      refine Ev.bind p0 ?_
      cases b0 with
      | false =>
        simp (disch := omega) only [↓if_pos, ↓if_neg, if_pos, if_neg, ↓reduceIte, w64, in_t, in_f, l1In_t, l1In_f, Option.bind_some, Bool.not_true, Bool.not_false, Bool.false_eq_true, tmod_nonneg, tdiv_nonneg]
        refine ev_unroll ?_
        simp (disch := omega) only [spec_Admit.j0, ↓if_pos, ↓if_neg, if_pos, if_neg, ↓reduceIte, w64, in_t, in_f, l1In_t, l1In_f, Option.bind_some, Bool.not_true, Bool.not_false, Bool.false_eq_true, tmod_nonneg, tdiv_nonneg]
        exact Ev.now _
      | true =>
        simp only [↓reduceIte]
        refine Ev.bind p2 ?_
        cases b2 with
        | false =>
          simp (disch := omega) only [↓if_pos, ↓if_neg, if_pos, if_neg, ↓reduceIte, w64, in_t, in_f, l1In_t, l1In_f, Option.bind_some, Bool.not_true, Bool.not_false, Bool.false_eq_true, tmod_nonneg, tdiv_nonneg]
          refine ev_unroll ?_
          simp (disch := omega) only [spec_Admit.j0, ↓if_pos, ↓if_neg, if_pos, if_neg, ↓reduceIte, w64, in_t, in_f, l1In_t, l1In_f, Option.bind_some, Bool.not_true, Bool.not_false, Bool.false_eq_true, tmod_nonneg, tdiv_nonneg]
          exact Ev.now _
        | true =>
          have g0 := o0.1 rfl
          have g2 := o2.1 rfl
          have h3 : ¬ (0 ≤ a1 ∧ a1 ≤ 100000) := fun h => hgood ⟨g0, g2, h.1, h.2⟩
          simp (disch := omega) only [↓if_pos, ↓if_neg, if_pos, if_neg, ↓reduceIte, w64, in_t, in_f, l1In_t, l1In_f, Option.bind_some, Bool.not_true, Bool.not_false, Bool.false_eq_true, tmod_nonneg, tdiv_nonneg]
          refine ev_unroll ?_
          simp (disch := omega) only [spec_Admit.j0, ↓if_pos, ↓if_neg, if_pos, if_neg, ↓reduceIte, w64, in_t, in_f, l1In_t, l1In_f, Option.bind_some, Bool.not_true, Bool.not_false, Bool.false_eq_true, tmod_nonneg, tdiv_nonneg]
          exact Ev.now _
    · by_cases l0 : (x0.length : Int) > 60
      · simp (disch := omega) only [impl_Admit.f, ↓if_pos, ↓if_neg, if_pos, if_neg, ↓reduceIte, w64, in_t, in_f, l1In_t, l1In_f, Option.bind_some, Bool.not_true, Bool.not_false, Bool.false_eq_true, tmod_nonneg, tdiv_nonneg]
        refine ev_unroll ?_
        simp (disch := omega) only [impl_Admit.j0, ↓if_pos, ↓if_neg, if_pos, if_neg, ↓reduceIte, w64, in_t, in_f, l1In_t, l1In_f, Option.bind_some, Bool.not_true, Bool.not_false, Bool.false_eq_true, tmod_nonneg, tdiv_nonneg]
        exact Ev.now _
      · by_cases l2 : (x2.length : Int) > 60
        · simp (disch := omega) only [impl_Admit.f, ↓if_pos, ↓if_neg, if_pos, if_neg, ↓reduceIte, w64, in_t, in_f, l1In_t, l1In_f, Option.bind_some, Bool.not_true, Bool.not_false, Bool.false_eq_true, tmod_nonneg, tdiv_nonneg]
          refine ev_unroll ?_
          simp (disch := omega) only [impl_Admit.j0, ↓if_pos, ↓if_neg, if_pos, if_neg, ↓reduceIte, w64, in_t, in_f, l1In_t, l1In_f, Option.bind_some, Bool.not_true, Bool.not_false, Bool.false_eq_true, tmod_nonneg, tdiv_nonneg]
          exact Ev.now _
        · by_cases h3 : 0 ≤ a1 ∧ a1 ≤ 100000
          · have hb : ¬ (Asks x0 ∧ Asks x2) := fun h => hgood ⟨⟨h.1, by omega⟩, ⟨h.2, by omega⟩, h3.1, h3.2⟩
            have p := admit_bad0 x0 a1 x2 (by omega) (by omega) hb _ 0 0 rfl (by omega) (by omega) (by omega) (fun j j0 j1 => by omega)
            simp (disch := omega) only [impl_Admit.f, ↓if_pos, ↓if_neg, if_pos, if_neg, ↓reduceIte, w64, in_t, in_f, l1In_t, l1In_f, Option.bind_some, Bool.not_true, Bool.not_false, Bool.false_eq_true, tmod_nonneg, tdiv_nonneg]
            refine ev_unroll ?_
            simp (disch := omega) only [impl_Admit.j0, ↓if_pos, ↓if_neg, if_pos, if_neg, ↓reduceIte, w64, in_t, in_f, l1In_t, l1In_f, Option.bind_some, Bool.not_true, Bool.not_false, Bool.false_eq_true, tmod_nonneg, tdiv_nonneg]
            exact p
          · simp (disch := omega) only [impl_Admit.f, ↓if_pos, ↓if_neg, if_pos, if_neg, ↓reduceIte, w64, in_t, in_f, l1In_t, l1In_f, Option.bind_some, Bool.not_true, Bool.not_false, Bool.false_eq_true, tmod_nonneg, tdiv_nonneg]
            refine ev_unroll ?_
            simp (disch := omega) only [impl_Admit.j0, ↓if_pos, ↓if_neg, if_pos, if_neg, ↓reduceIte, w64, in_t, in_f, l1In_t, l1In_f, Option.bind_some, Bool.not_true, Bool.not_false, Bool.false_eq_true, tmod_nonneg, tdiv_nonneg]
            exact Ev.now _
theorem FnExactAdmit : laws_FnExactAdmit.Pure := by
  intro l0 a1 l2 _ _ _ _ _ _ _
  refine Ev.rounds (g := fun k => laws_FnExactAdmit.f k l0 a1 l2) ?_
  by_cases hb : (l0.length : Int) > 1048576
  · simp only [laws_FnExactAdmit.f, if_pos hb]
    exact Ev.now _
  by_cases hb2 : (l2.length : Int) > 1048576
  · simp only [laws_FnExactAdmit.f, if_neg hb, if_pos hb2]
    exact Ev.now _
  simp only [laws_FnExactAdmit.f, if_neg hb, if_neg hb2]
  have hn : l0.length ≤ 1048576 := by omega
  have hn2 : l2.length ≤ 1048576 := by omega
  have ht := toIntS_ev l0 hn
  have ht2 := toIntS_ev l2 hn2
  obtain ⟨⟨l, b⟩, hl, _, _, hs, hi⟩ := admit_both l0 a1 l2 hn hn2
  simp only at hl
  refine Ev.bind ht (Ev.bind ht2 (Ev.bind hs (Ev.bind ht (Ev.bind ht2 (Ev.bind hi (Ev.bind (eqBoolS_ev l hl) ?_))))))
  simp only [↓reduceIte, bne_self_eq_false]
  refine ev_unroll ?_
  simp only [laws_FnExactAdmit.j0, Bool.false_eq_true, ↓reduceIte]
  refine Ev.bind ht (Ev.bind (eqIntS_ev l0 hn) ?_)
  simp only [↓reduceIte]
  refine Ev.bind ht2 (Ev.bind (eqIntS_ev l2 hn2) ?_)
  simp only [↓reduceIte]
  refine Ev.bind (markIntS_ev l0 1 (by omega) (by omega) hn) (Ev.bind (markIntS_ev l2 _ (by simp only; omega) (by simp only; omega) hn2) ?_)
  simp (disch := omega) only [↓if_neg]
  refine Ev.bind (eqBoolS_ev l hl) ?_
  simp only [↓reduceIte, bne_self_eq_false]
  refine ev_unroll ?_
  simp only [laws_FnExactAdmit.j1, Bool.false_eq_true, ↓reduceIte]
  refine Ev.bind (markBoolS_ev l 1 (by omega) (by omega) hl) (Ev.bind (heldBoolS_ev l.length 1 (by omega) (by omega) hl) ?_)
  simp (disch := omega) only [↓if_neg, ↓reduceIte]
  refine Ev.bind ht (Ev.bind ht2 (Ev.bind hi (Ev.bind (eqBoolS_ev l hl) ?_)))
  simp only [↓reduceIte, bne_self_eq_false]
  refine ev_unroll ?_
  simp only [laws_FnExactAdmit.j2, Bool.false_eq_true, ↓reduceIte]
  refine Ev.bind (heldBoolS_ev l.length 1 (by omega) (by omega) hl) ?_
  simp (disch := omega) only [↓if_neg, ↓reduceIte]
  exact Ev.now _

end Go.Proofs.Ytcmcnpildccdeab.Pure
