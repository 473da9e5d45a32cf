/- The law FnExactBurst: for all lists of bits the program's Burst and the reference's make the same, the bits stay as they were, and what is made is shared with nothing. -/
import Derived.Test.YtigbdfhlpnabdaaMFnExactBurstx6
import Derived.Test.YtigbdfhlpnabdaaKit
namespace Go.Proofs.Ytigbdfhlpnabdaa.Pure
set_option linter.unusedSimpArgs false
set_option linter.unusedVariables false
set_option linter.unusedSectionVars false
open Go Go.RowKit Go.Proofs.Ytigbdfhlpnabdaa.MFnExactBurst Go.Proofs.YtigbdfhlpnabdaaW.PrintWords Go.Proofs.YtigbdfhlpnabdaaW.PrintLast Go.Proofs.Ytigbdfhlpnabdaa.Mine

theorem toIntS_ev (x0 : List Int) (hn : x0.length ≤ 1048576) : Ev (fun k => laws_toIntS.f k x0) x0 := by
  have key : ∀ (d : Nat) (x3 : List Int) (i : Nat), x0.length - i = d → i ≤ x0.length → x3.length = x0.length → x3.take i = x0.take i → Ev (fun k => laws_toIntS.l0 k x0 x3 (i : Int)) x0 := by
    intro d
    induction d with
    | zero =>
      intro x3 i hd hi hl ht
      have e : x3 = x0 := by
        have h : i = x0.length := by omega
        rw [h, List.take_length, ← hl, List.take_length] at ht
        exact ht
      subst e
      refine ev_unroll ?_
      simp (disch := omega) only [laws_toIntS.l0, ↓if_neg]
      exact Ev.now _
    | succ d ih =>
      intro x3 i hd hi hl ht
      refine ev_unroll ?_
      simp (disch := omega) only [laws_toIntS.l0, ↓if_pos, w64]
      have h := ih (x3.set i (rd x0 i)) (i + 1) (by omega) (by omega) (by simp [hl]) (by rw [rd_nat]; exact take_set_succ 0 hl ht (by omega))
      simpa using h
  have h := key _ (List.replicate x0.length 0) 0 rfl (by omega) (by simp) (by simp)
  simp (disch := omega) only [laws_toIntS.f, ↓if_pos]
  simpa using h
theorem eqIntS_ev (x0 : List Int) (hn : x0.length ≤ 1048576) : Ev (fun k => laws_eqIntS.f k x0 x0) true := by
  have key : ∀ (d : Nat) (i : Nat), x0.length - i = d → i ≤ x0.length → Ev (fun k => laws_eqIntS.l0 k x0 x0 (i : Int)) true := by
    intro d
    induction d with
    | zero =>
      intro i hd hi
      refine ev_unroll ?_
      simp (disch := omega) only [laws_eqIntS.l0, ↓if_neg]
      exact Ev.now _
    | succ d ih =>
      intro i hd hi
      refine ev_unroll ?_
      simp (disch := omega) only [laws_eqIntS.l0, ↓if_pos, w64]
      have h := ih (i + 1) (by omega) (by omega)
      simpa using h
  have h := key _ 0 rfl (by omega)
  simp (disch := omega) only [laws_eqIntS.f, ↓if_pos]
  simpa using h
/-- What a marked list holds. -/
def marks (m : Int) (n : Nat) : List Int := (List.range n).map fun (j : Nat) => m + (j : Int)
theorem marks_length (m : Int) (n : Nat) : (marks m n).length = n := by simp [marks]
theorem rd_marks (m : Int) (n i : Nat) (h : i < n) : rd (marks m n) (i : Int) = m + i := by simp [rd, marks, h]
theorem markIntS_ev (x0 : List Int) (m : Int) (hm : 0 ≤ m) (hm2 : m ≤ 1000000000) (hn : x0.length ≤ 1048576) : Ev (fun k => laws_markIntS.f k x0 m) ((m + x0.length : Int), marks m x0.length) := by
  have key : ∀ (d : Nat) (y : List Int) (i : Nat), x0.length - i = d → i ≤ x0.length → y.length = x0.length → y.take i = (marks m x0.length).take i → Ev (fun k => laws_markIntS.l0 k y (m + (i : Int)) (i : Int)) ((m + x0.length : Int), marks m x0.length) := by
    intro d
    induction d with
    | zero =>
      intro y i hd hi hl ht
      have h : i = x0.length := by omega
      have e : y = marks m x0.length := by
        have h2 := ht
        rw [List.take_of_length_le (by omega), List.take_of_length_le (by rw [marks_length]; omega)] at h2
        exact h2
      refine ev_unroll ?_
      simp (disch := omega) only [laws_markIntS.l0, ↓if_neg]
      rw [h, e]
      exact Ev.now _
    | succ d ih =>
      intro y i hd hi hl ht
      refine ev_unroll ?_
      simp (disch := omega) only [laws_markIntS.l0, ↓if_pos, w64]
      have h := ih (y.set i (m + (i : Int))) (i + 1) (by omega) (by omega) (by simp [hl]) (by
        have h2 := take_set_succ (l := y) (m := marks m x0.length) 0 (by rw [marks_length]; exact hl) ht (by rw [marks_length]; omega)
        rw [show (marks m x0.length).getD i 0 = m + (i : Int) from by rw [← rd_nat, rd_marks _ _ _ (by omega)]] at h2
        exact h2)
      rw [show (m + (i : Int) + 1) = m + ((i + 1 : Nat) : Int) from by omega, show ((i : Int) + 1) = ((i + 1 : Nat) : Int) from by omega]
      simpa using h
  have h := key _ x0 0 rfl (by omega) rfl (by simp)
  simp only [laws_markIntS.f]
  simpa using h
theorem l1In_t {a b c : Int} (h : b ≤ a) (h2 : a ≤ c) : spec_l1In.f a b c = some true := by
  unfold spec_l1In.f
  rw [if_pos (by omega)]; simp [h2]
theorem l1In_f {a b c : Int} (h : ¬ (b ≤ a ∧ a ≤ c)) : spec_l1In.f a b c = some false := by
  unfold spec_l1In.f
  by_cases g : a ≥ b
  · rw [if_pos g]; simp; omega
  · rw [if_neg g]
/-- Are all of a list's elements 0 or 1, and are there not too many? -/
def bitsVal (l : List Int) (n : Int) : Bool := l.all (fun x => decide (0 ≤ x ∧ x ≤ 1)) && decide ((l.length : Int) ≤ n)
theorem l1Bits_ev (x0 : List Int) (n : Int) (hn : x0.length ≤ 1048576) : Ev (fun k => spec_l1Bits.f k x0 n) (bitsVal x0 n) := by
  have key : ∀ (d i : Nat), x0.length - i = d → i ≤ x0.length → Ev (fun k => spec_l1Bits.l0 k x0 n (i : Int)) ((x0.drop i).all (fun x => decide (0 ≤ x ∧ x ≤ 1)) && decide ((x0.length : Int) ≤ n)) := by
    intro d
    induction d with
    | zero =>
      intro i hd hi
      refine ev_unroll ?_
      rw [List.drop_eq_nil_of_le (by omega)]
      simp (disch := omega) only [spec_l1Bits.l0, List.all_nil, Bool.true_and, ↓if_pos, ↓if_neg, if_pos, if_neg, ↓reduceIte, w64, l1In_t, l1In_f, Option.bind_some, Bool.not_true, Bool.not_false, Bool.false_eq_true, tmod_nonneg, tdiv_nonneg]
      exact Ev.now _
    | succ d ih =>
      intro i hd hi
      refine ev_unroll ?_
      rw [drop_rd (by omega)]
      have h := ih (i + 1) (by omega) (by omega)
      by_cases hb : 0 ≤ rd x0 (i : Int) ∧ rd x0 (i : Int) ≤ 1
      · simp (disch := omega) only [spec_l1Bits.l0, ↓if_pos, ↓if_neg, if_pos, if_neg, ↓reduceIte, w64, l1In_t, l1In_f, Option.bind_some, Bool.not_true, Bool.not_false, Bool.false_eq_true, tmod_nonneg, tdiv_nonneg]
        simpa [hb] using h
      · simp (disch := omega) only [spec_l1Bits.l0, ↓if_pos, ↓if_neg, if_pos, if_neg, ↓reduceIte, w64, l1In_t, l1In_f, Option.bind_some, Bool.not_true, Bool.not_false, Bool.false_eq_true, tmod_nonneg, tdiv_nonneg]
        simp only [List.all_cons, hb, decide_false, Bool.false_and]
        exact Ev.now _
  have h := key _ 0 rfl (by omega)
  simp only [spec_l1Bits.f, bitsVal]
  simpa using h
theorem bitsOk_ev (x0 : List Int) (n : Int) (hn : x0.length ≤ 1048576) : Ev (fun k => impl_bitsOk.f k x0 n) (bitsVal x0 n) := by
  have key : ∀ (d i : Nat), x0.length - i = d → i ≤ x0.length → Ev (fun k => impl_bitsOk.l0 k x0 n x0 (x0.length : Int) (i : Int)) ((x0.drop i).all (fun x => decide (0 ≤ x ∧ x ≤ 1)) && decide ((x0.length : Int) ≤ n)) := by
    intro d
    induction d with
    | zero =>
      intro i hd hi
      refine ev_unroll ?_
      rw [List.drop_eq_nil_of_le (by omega)]
      simp (disch := omega) only [impl_bitsOk.l0, List.all_nil, Bool.true_and, ↓if_pos, ↓if_neg, if_pos, if_neg, ↓reduceIte, w64, l1In_t, l1In_f, Option.bind_some, Bool.not_true, Bool.not_false, Bool.false_eq_true, tmod_nonneg, tdiv_nonneg]
      exact Ev.now _
    | succ d ih =>
      intro i hd hi
      refine ev_unroll ?_
      rw [drop_rd (by omega)]
      have h := ih (i + 1) (by omega) (by omega)
      by_cases h0 : rd x0 (i : Int) = 0
      · simp (disch := omega) only [impl_bitsOk.l0, ↓if_pos, ↓if_neg, if_pos, if_neg, ↓reduceIte, w64, l1In_t, l1In_f, Option.bind_some, Bool.not_true, Bool.not_false, Bool.false_eq_true, tmod_nonneg, tdiv_nonneg]
        simpa [h0] using h
      by_cases h1 : rd x0 (i : Int) = 1
      · simp (disch := omega) only [impl_bitsOk.l0, ↓if_pos, ↓if_neg, if_pos, if_neg, ↓reduceIte, w64, l1In_t, l1In_f, Option.bind_some, Bool.not_true, Bool.not_false, Bool.false_eq_true, tmod_nonneg, tdiv_nonneg]
        simpa [h1] using h
      · have hb : ¬ (0 ≤ rd x0 (i : Int) ∧ rd x0 (i : Int) ≤ 1) := by omega
        simp (disch := omega) only [impl_bitsOk.l0, ↓if_pos, ↓if_neg, if_pos, if_neg, ↓reduceIte, w64, l1In_t, l1In_f, Option.bind_some, Bool.not_true, Bool.not_false, Bool.false_eq_true, tmod_nonneg, tdiv_nonneg]
        simp only [List.all_cons, hb, decide_false, Bool.false_and]
        exact Ev.now _
  have h := key _ 0 rfl (by omega)
  simp only [impl_bitsOk.f, bitsVal]
  simpa using h
theorem bitsVal_le {l : List Int} {n : Int} (h : bitsVal l n = true) : (l.length : Int) ≤ n := by
  simp [bitsVal] at h; exact h.2
theorem bitsVal_mem {l : List Int} {n : Int} (h : bitsVal l n = true) : ∀ x ∈ l, 0 ≤ x ∧ x ≤ 1 := by
  simp only [bitsVal, Bool.and_eq_true, List.all_eq_true, decide_eq_true_eq] at h
  exact h.1
theorem train_dec : (impl_Train.f 60).map (fun l => l.map fun s : S31 => (s.f0, s.f1)) = (spec_Train.f 60).map (fun l => l.map fun s : S31 => (s.f0, s.f1)) ∧ (spec_Train.f 60).map List.length = some 26 := by decide +kernel
theorem pairs_inj {a b : List S31} (h : a.map (fun s : S31 => (s.f0, s.f1)) = b.map (fun s : S31 => (s.f0, s.f1))) : a = b := by
  have h2 := congrArg (List.map (fun p : Nat × Nat => (⟨p.1, p.2⟩ : S31))) h
  rw [List.map_map, List.map_map] at h2
  have e : ((fun p : Nat × Nat => (⟨p.1, p.2⟩ : S31)) ∘ fun s : S31 => (s.f0, s.f1)) = id := rfl
  rw [e, List.map_id, List.map_id] at h2
  exact h2
theorem train_both : ∃ tr : List S31, Ev (fun k => spec_Train.f k) tr ∧ Ev (fun k => impl_Train.f k) tr ∧ tr.length = 26 := by
  obtain ⟨h1, h2⟩ := train_dec
  obtain ⟨tr, h3, h4⟩ := Option.map_eq_some_iff.mp h2
  rw [h3, Option.map_some] at h1
  obtain ⟨tr2, h5, h6⟩ := Option.map_eq_some_iff.mp h1
  have e := pairs_inj h6
  subst e
  exact ⟨tr2, Ev.of (fun k => spec_Train.mono k) h3, Ev.of (fun k => impl_Train.mono k) h5, h4⟩
/-- slices.Concat of three rows. -/
theorem concat_ev (a b c : List S31) (ha : a.length ≤ 1000) (hb : b.length ≤ 1000) (hc : c.length ≤ 1000) : Ev (fun k => impl_Sample_56.f k [a, b, c]) (a ++ b ++ c) := by
  have r0 : rd_L3 [a, b, c] 0 = a := rfl
  have r1 : rd_L3 [a, b, c] 1 = b := rfl
  have r2 : rd_L3 [a, b, c] 2 = c := rfl
  have hl : (([a, b, c] : List (List S31)).length : Int) = 3 := rfl
  have w1 : wrap64 (0 + 1) = 1 := w64 (x := 1) (by omega) (by omega)
  have w2 : wrap64 (1 + 1) = 2 := w64 (x := 2) (by omega) (by omega)
  have w3 : wrap64 (2 + 1) = 3 := w64 (x := 3) (by omega) (by omega)
  simp only [impl_Sample_56.f, hl]
  refine ev_unroll ?_
  simp (disch := omega) only [impl_Sample_56.l0, hl, r0, ↓if_pos, ↓if_neg, if_neg, w1, w64]
  refine ev_unroll ?_
  simp (disch := omega) only [impl_Sample_56.l0, hl, r1, ↓if_pos, ↓if_neg, if_neg, w2, w64]
  refine ev_unroll ?_
  simp (disch := omega) only [impl_Sample_56.l0, hl, r2, ↓if_pos, ↓if_neg, if_neg, w3, w64]
  refine ev_unroll ?_
  simp (disch := omega) only [impl_Sample_56.l0, hl, ↓if_pos, ↓if_neg, impl_Sample_63.f, Option.bind_some]
  refine ev_unroll ?_
  simp (disch := first | omega | (simp only [List.length_nil, List.length_append]; omega)) only [impl_Sample_56.l1, hl, r0, w1, if_pos, show ((0 : Int) < 3) = True by simp, show ((0 : Int) ≤ 0) = True by simp, if_true, List.nil_append]
  refine ev_unroll ?_
  simp (disch := first | omega | (simp only [List.length_nil, List.length_append]; omega)) only [impl_Sample_56.l1, hl, r1, w2, if_pos, show ((1 : Int) < 3) = True by simp, show ((0 : Int) ≤ 1) = True by simp, if_true]
  refine ev_unroll ?_
  simp (disch := first | omega | (simp only [List.length_nil, List.length_append]; omega)) only [impl_Sample_56.l1, hl, r2, w3, if_pos, show ((2 : Int) < 3) = True by simp, show ((0 : Int) ≤ 2) = True by simp, if_true]
  refine ev_unroll ?_
  simp only [impl_Sample_56.l1, show ((3 : Int) < 3) = False by simp, if_false]
  exact Ev.now _
def pr (b : List Int) (j : Nat) : S31 := ⟨floatOfInt .f32 (2 * rd b (2 * (j : Int)) - 1), floatOfInt .f32 (2 * rd b (2 * (j : Int) + 1) - 1)⟩
def prs (b : List Int) (n : Nat) : List S31 := (List.range n).map (pr b)
theorem prs_length (b : List Int) (n : Nat) : (prs b n).length = n := by simp [prs]
theorem prs_drop {b : List Int} {n i : Nat} (h : i < n) : (prs b n).drop i = pr b i :: (prs b n).drop (i + 1) := by
  rw [List.drop_eq_getElem_cons (by rw [prs_length]; exact h)]
  simp [prs]
theorem prs_take {b : List Int} {n i : Nat} (h : i < n) : (prs b n).take (i + 1) = (prs b n).take i ++ [pr b i] := by
  rw [List.take_succ_eq_append_getElem (by rw [prs_length]; exact h)]
  simp [prs]
section
variable (b : List Int) (tr : List S31) (n : Nat) (hlen : b.length = 2 * n) (hn : n ≤ 160) (h1 : 1 ≤ n) (hb : ∀ i : Int, 0 ≤ rd b i ∧ rd b i ≤ 1) (htr : tr.length = 26)
include hlen hn hb
theorem spec_two : ∀ (d i : Nat), n + 1 - i = d → n / 2 < i → i ≤ n + 1 → ∀ acc : List S31, acc.length ≤ 26 + i → Ev (fun k => spec_Burst.l0 k b acc (n : Int) (i : Int)) (acc ++ (prs b n).drop i, true) := by
  intro d
  induction d with
  | zero =>
    intro i hd h2 hi acc ha
    rw [List.drop_eq_nil_of_le (by rw [prs_length]; omega), List.append_nil]
    refine ev_unroll ?_
    simp (disch := omega) only [spec_Burst.l0, ↓if_neg]
    exact Ev.now _
  | succ d ih =>
    intro i hd h2 hi acc ha
    have hb0 := hb (2 * (i : Int))
    have hb1 := hb (2 * (i : Int) + 1)
    have e2 : wrap64 (Int.tdiv (n : Int) 2) = (n : Int) / 2 := by rw [tdiv_nonneg (by omega), w64 (by omega) (by omega)]
    have ne : ¬ (i : Int) = (n : Int) / 2 := by omega
    by_cases c : i < n
    · have h := ih (i + 1) (by omega) (by omega) (by omega) (acc ++ [pr b i]) (by simp; omega)
      rw [prs_drop c]
      refine ev_unroll ?_
      simp (disch := omega) only [spec_Burst.l0, spec_l15Of.f, e2, if_neg ne, ↓if_pos, if_pos, Option.bind_some, w64]
      simpa [pr, List.append_assoc] using h
    · have h := ih (i + 1) (by omega) (by omega) (by omega) acc (by omega)
      have e : (prs b n).drop i = (prs b n).drop (i + 1) := by rw [List.drop_eq_nil_of_le (by rw [prs_length]; omega), List.drop_eq_nil_of_le (by rw [prs_length]; omega)]
      rw [e]
      refine ev_unroll ?_
      simp (disch := omega) only [spec_Burst.l0, e2, if_neg ne, ↓if_pos, ↓if_neg, w64]
      simpa using h
include h1 htr
theorem spec_one (ht : Ev (fun k => spec_Train.f k) tr) : ∀ (d i : Nat), n / 2 - i = d → i ≤ n / 2 → Ev (fun k => spec_Burst.l0 k b ((prs b n).take i) (n : Int) (i : Int)) ((prs b n).take (n / 2) ++ tr ++ (prs b n).drop (n / 2), true) := by
  intro d
  induction d with
  | zero =>
    intro i hd hi
    have hb0 := hb (2 * (i : Int))
    have hb1 := hb (2 * (i : Int) + 1)
    have e2 : wrap64 (Int.tdiv (n : Int) 2) = (n : Int) / 2 := by rw [tdiv_nonneg (by omega), w64 (by omega) (by omega)]
    have eq : (i : Int) = (n : Int) / 2 := by omega
    have ei : i = n / 2 := by omega
    have c : i < n := by omega
    have hl : ((prs b n).take i).length = i := by rw [List.length_take, prs_length]; omega
    have h := spec_two b n hlen hn hb (n + 1 - (i + 1)) (i + 1) rfl (by omega) (by omega) ((prs b n).take i ++ tr ++ [pr b i]) (by simp only [List.length_append, hl, htr, List.length_cons, List.length_nil]; omega)
    rw [← ei, prs_drop c]
    refine ev_unroll ?_
    have le : (i : Int) ≤ (n : Int) := by omega
    simp only [spec_Burst.l0, e2, if_pos le, if_pos eq]
    refine Ev.bind ht ?_
    have l1 : ((prs b n).take i).length + tr.length < 17592186044416 := by rw [hl, htr]; omega
    have l2 : ((prs b n).take i ++ tr).length < 17592186044416 := by rw [List.length_append]; exact l1
    simp (disch := omega) only [spec_l15Of.f, if_pos l1, if_pos l2, ↓if_pos, if_pos, Option.bind_some, w64]
    simpa [pr, List.append_assoc] using h
  | succ d ih =>
    intro i hd hi
    have hb0 := hb (2 * (i : Int))
    have hb1 := hb (2 * (i : Int) + 1)
    have e2 : wrap64 (Int.tdiv (n : Int) 2) = (n : Int) / 2 := by rw [tdiv_nonneg (by omega), w64 (by omega) (by omega)]
    have ne : ¬ (i : Int) = (n : Int) / 2 := by omega
    have c : i < n := by omega
    have h := ih (i + 1) (by omega) (by omega)
    rw [prs_take c] at h
    have hl : ((prs b n).take i).length < 17592186044416 := by rw [List.length_take, prs_length]; omega
    refine ev_unroll ?_
    simp (disch := omega) only [spec_Burst.l0, spec_l15Of.f, e2, if_neg ne, if_pos hl, ↓if_pos, if_pos, Option.bind_some, w64]
    simpa [pr] using h
theorem impl_one (ht : Ev (fun k => impl_Train.f k) tr) : ∀ (d j : Nat), n - j = d → j ≤ n → Ev (fun k => impl_Burst.l0 k b ((prs b n).take j) (2 * (j : Int))) ((prs b n).take (n / 2) ++ tr ++ (prs b n).drop (n / 2), true) := by
  intro d
  induction d with
  | zero =>
    intro j hd hj
    have e : (prs b n).take j = prs b n := List.take_of_length_le (by rw [prs_length]; omega)
    rw [e]
    refine ev_unroll ?_
    have g : ¬ (2 * (j : Int)) < (b.length : Int) := by omega
    have e3 : wrap64 (((prs b n).length : Int) / 2) = (n : Int) / 2 := by rw [prs_length, w64 (by omega) (by omega)]
    have k0 : (0 : Int) ≤ (n : Int) / 2 := by omega
    have k1 : (n : Int) / 2 ≤ ((prs b n).length : Int) := by rw [prs_length]; omega
    have k2 : ((n : Int) / 2).toNat = n / 2 := by omega
    simp only [impl_Burst.l0, if_neg g, e3, if_pos k0, if_pos k1, k2]
    refine Ev.bind ht (Ev.bind (concat_ev _ _ _ (by rw [List.length_take, prs_length]; omega) (by omega) (by rw [List.length_drop, prs_length]; omega)) (Ev.now _))
  | succ d ih =>
    intro j hd hj
    have hb0 := hb (2 * (j : Int))
    have hb1 := hb (2 * (j : Int) + 1)
    have c : j < n := by omega
    have h := ih (j + 1) (by omega) (by omega)
    rw [prs_take c, show (2 * ((j + 1 : Nat) : Int)) = 2 * (j : Int) + 2 by omega] at h
    have hl : ((prs b n).take j).length < 17592186044416 := by rw [List.length_take, prs_length]; omega
    refine ev_unroll ?_
    simp (disch := omega) only [impl_Burst.l0, if_pos hl, ↓if_pos, if_pos, w64]
    simpa [pr] using h
end
theorem rd_bits {b : List Int} (h : ∀ x ∈ b, 0 ≤ x ∧ x ≤ 1) (i : Int) : 0 ≤ rd b i ∧ rd b i ≤ 1 := by
  unfold rd
  rw [List.getD_eq_getElem?_getD]
  cases hx : b[i.toNat]? with
  | none => exact ⟨by decide, by decide⟩
  | some x => exact h x (List.mem_of_getElem? hx)
theorem burst_both (b : List Int) (hn : b.length ≤ 1048576) : ∃ r : List S31 × Bool, r.1.length ≤ 1000 ∧ Ev (fun k => spec_Burst.f k b) r ∧ Ev (fun k => impl_Burst.f k b) r := by
  have p := l1Bits_ev b 320 hn
  have q := bitsOk_ev b 320 hn
  have n1 : ∀ y, Ev (fun k => spec_Burst.j0 k b [] y true) ([], false) := fun y => by
    refine ev_unroll ?_
    simp only [spec_Burst.j0, ↓reduceIte]
    exact Ev.now _
  have n2 : Ev (fun k => impl_Burst.j0 k b true) ([], false) := by
    refine ev_unroll ?_
    simp only [impl_Burst.j0, ↓reduceIte]
    exact Ev.now _
  cases hv : bitsVal b 320 with
  | false =>
    rw [hv] at p q
    refine ⟨([], false), by simp, ?_, ?_⟩
    · simp only [spec_Burst.f, Option.bind_some]
      refine Ev.bind p ?_
      simp only [Bool.false_eq_true, ↓reduceIte]
      exact n1 _
    · simp only [impl_Burst.f]
      refine Ev.bind q ?_
      simp only [Bool.false_eq_true, ↓reduceIte]
      exact n2
  | true =>
    rw [hv] at p q
    have hl := bitsVal_le hv
    have hm := rd_bits (bitsVal_mem hv)
    by_cases c : (b.length : Int) % 2 = 0
    · have c' : ¬ (b.length : Int) % 2 = 1 := by omega
      have e1 : wrap64 ((b.length : Int) / 2) = ((b.length / 2 : Nat) : Int) := by rw [w64 (by omega) (by omega)]; omega
      by_cases z : b.length = 0
      · refine ⟨([], false), by simp, ?_, ?_⟩
        · simp only [spec_Burst.f, Option.bind_some]
          refine Ev.bind p ?_
          simp only [↓reduceIte, if_pos c, e1]
          have d1 : decide (((b.length / 2 : Nat) : Int) < 1) = true := decide_eq_true (by omega)
          rw [d1]
          exact n1 _
        · simp only [impl_Burst.f]
          refine Ev.bind q ?_
          simp only [↓reduceIte, if_neg c']
          have d1 : ((b.length : Int) == 0) = true := by simp; exact List.length_eq_zero_iff.mp z
          rw [d1]
          exact n2
      · obtain ⟨tr, t1, t2, t3⟩ := train_both
        have s := spec_one b tr (b.length / 2) (by omega) (by omega) (by omega) hm t3 t1 (b.length / 2 / 2) 0 rfl (by omega)
        have t := impl_one b tr (b.length / 2) (by omega) (by omega) (by omega) hm t3 t2 (b.length / 2) 0 rfl (by omega)
        refine ⟨((prs b (b.length / 2)).take (b.length / 2 / 2) ++ tr ++ (prs b (b.length / 2)).drop (b.length / 2 / 2), true), ?_, ?_, ?_⟩
        rotate_left
        · simp only [spec_Burst.f, Option.bind_some]
          refine Ev.bind p ?_
          simp only [↓reduceIte, if_pos c, e1]
          have d1 : decide (((b.length / 2 : Nat) : Int) < 1) = false := decide_eq_false (by omega)
          rw [d1]
          refine ev_unroll ?_
          simp only [spec_Burst.j0, Bool.false_eq_true, ↓reduceIte]
          exact s
        · simp only [impl_Burst.f]
          refine Ev.bind q ?_
          simp only [↓reduceIte, if_neg c']
          have d1 : ((b.length : Int) == 0) = false := by simp; intro h; exact z (by rw [h]; rfl)
          rw [d1]
          refine ev_unroll ?_
          simp only [impl_Burst.j0, Bool.false_eq_true, ↓reduceIte]
          exact t
        · simp only [List.length_append, List.length_take, List.length_drop, prs_length, t3]
          omega
    · have c' : (b.length : Int) % 2 = 1 := by omega
      refine ⟨([], false), by simp, ?_, ?_⟩
      · simp only [spec_Burst.f, Option.bind_some]
        refine Ev.bind p ?_
        simp only [↓reduceIte, if_neg c]
        exact n1 _
      · simp only [impl_Burst.f]
        refine Ev.bind q ?_
        simp only [↓reduceIte, if_pos c']
        exact n2
/-- What a marked list of samples holds. -/
def marksS (m : Int) (n : Nat) : List S31 := (List.range n).map fun (j : Nat) => (⟨floatOfInt .f32 (m + 2 * (j : Int)), floatOfInt .f32 (m + 2 * (j : Int) + 1)⟩ : S31)
theorem marksS_length (m : Int) (n : Nat) : (marksS m n).length = n := by simp [marksS]
theorem marksS_at {m : Int} {n i : Nat} (h : i < n) : (marksS m n).getD i z31 = (⟨floatOfInt .f32 (m + 2 * (i : Int)), floatOfInt .f32 (m + 2 * (i : Int) + 1)⟩ : S31) := by simp [marksS, h]
theorem markS_ev (L : List S31) (m : Int) (h0 : 0 ≤ m) (h1 : m ≤ 1000) (hn : L.length ≤ 1000) : Ev (fun k => laws_markSampleS.f k L m) ((m + 2 * L.length : Int), marksS m L.length) := by
  have key : ∀ (d : Nat) (x0 : List S31) (i : Nat), L.length - i = d → i ≤ L.length → x0.length = L.length → x0.take i = (marksS m L.length).take i → Ev (fun k => laws_markSampleS.l0 k x0 (m + 2 * (i : Int)) (i : Int)) ((m + 2 * L.length : Int), marksS m L.length) := by
    intro d
    induction d with
    | zero =>
      intro x0 i hd hi hl ht
      have hi2 : i = L.length := by omega
      have e : x0 = marksS m L.length := by
        rw [List.take_of_length_le (by omega), List.take_of_length_le (by rw [marksS_length]; omega)] at ht
        exact ht
      subst e
      subst hi2
      refine ev_unroll ?_
      simp (disch := omega) only [laws_markSampleS.l0, ↓if_neg]
      exact Ev.now _
    | succ d ih =>
      intro x0 i hd hi hl ht
      have hs := take_set_succ (l := x0) (m := marksS m L.length) z31 (by rw [marksS_length]; exact hl) ht (by rw [marksS_length]; omega)
      rw [marksS_at (by omega)] at hs
      have h := ih (x0.set i ⟨floatOfInt .f32 (m + 2 * (i : Int)), floatOfInt .f32 (m + 2 * (i : Int) + 1)⟩) (i + 1) (by omega) (by omega) (by rw [List.length_set]; exact hl) hs
      rw [show m + 2 * ((i + 1 : Nat) : Int) = m + 2 * (i : Int) + 1 + 1 by omega] at h
      have g : (rd_T31 (x0.set i (⟨floatOfInt .f32 (m + 2 * (i : Int)), (rd_T31 x0 (i : Int)).f1⟩ : S31)) (i : Int)).f0 = floatOfInt .f32 (m + 2 * (i : Int)) := by
        have hi3 : i < x0.length := by omega
        simp [rd_T31, hi3]
      refine ev_unroll ?_
      simp (disch := omega) only [laws_markSampleS.l0, ↓if_pos, Option.bind_some, w64, Int.toNat_natCast, g, List.set_set]
      simpa using h
  have h := key L.length L 0 rfl (by omega) rfl (by simp)
  simp only [laws_markSampleS.f]
  simpa using h
theorem fl_self (n : Int) : (FloatKind.f32.format.order (floatOfInt .f32 n) (floatOfInt .f32 n) != some .eq) = false := by
  have h := Fl.ford_self .f32 (floatOfInt .f32 n) (Fl.read_write_nan _ (d := .number (n < 0) n.natAbs 0) rfl)
  rw [h]
  rfl
theorem heldS_ev (n : Nat) (m : Int) (h0 : 0 ≤ m) (h1 : m ≤ 1000) (hn : n ≤ 1000) : Ev (fun k => laws_heldSampleS.f k (marksS m n) m) (m + 2 * n : Int) := by
  have key : ∀ (d i : Nat), n - i = d → i ≤ n → Ev (fun k => laws_heldSampleS.l0 k (marksS m n) (m + 2 * (i : Int)) (i : Int)) (m + 2 * n : Int) := by
    intro d
    induction d with
    | zero =>
      intro i hd hi
      have hi2 : i = n := by omega
      subst hi2
      refine ev_unroll ?_
      have g : ¬ (i : Int) < ((marksS m i).length : Int) := by rw [marksS_length]; omega
      simp only [laws_heldSampleS.l0, if_neg g]
      exact Ev.now _
    | succ d ih =>
      intro i hd hi
      have h := ih (i + 1) (by omega) (by omega)
      rw [show m + 2 * ((i + 1 : Nat) : Int) = m + 2 * (i : Int) + 1 + 1 by omega] at h
      have g : (i : Int) < ((marksS m n).length : Int) := by rw [marksS_length]; omega
      have r : rd_T31 (marksS m n) (i : Int) = (⟨floatOfInt .f32 (m + 2 * (i : Int)), floatOfInt .f32 (m + 2 * (i : Int) + 1)⟩ : S31) := by
        unfold rd_T31
        rw [Int.toNat_natCast]
        exact marksS_at (by omega)
      refine ev_unroll ?_
      simp (disch := omega) only [laws_heldSampleS.l0, if_pos g, ↓if_pos, r, w64, fl_self, Bool.false_eq_true, ↓reduceIte]
      simpa using h
  have h := key n 0 rfl (by omega)
  simp only [laws_heldSampleS.f]
  simpa using h
theorem eqSampleS_ev (x0 : List S31) (hn : x0.length ≤ 1048576) : Ev (fun k => laws_eqSampleS.f k x0 x0) true := by
  have key : ∀ (d : Nat) (i : Nat), x0.length - i = d → i ≤ x0.length → Ev (fun k => laws_eqSampleS.l0 k x0 x0 (i : Int)) true := by
    intro d
    induction d with
    | zero =>
      intro i hd hi
      refine ev_unroll ?_
      simp (disch := omega) only [laws_eqSampleS.l0, ↓if_neg]
      exact Ev.now _
    | succ d ih =>
      intro i hd hi
      have h := ih (i + 1) (by omega) (by omega)
      refine ev_unroll ?_
      simp (disch := omega) only [laws_eqSampleS.l0, laws_eqSample.f, Option.bind_some, ↓if_pos, ↓reduceIte, w64]
      simpa using h
  have h := key _ 0 rfl (by omega)
  simp (disch := omega) only [laws_eqSampleS.f, ↓if_pos]
  simpa using h
theorem FnExactBurst : laws_FnExactBurst.Pure := by
  intro T _ _ _
  refine Ev.rounds (g := fun k => laws_FnExactBurst.f k T) ?_
  by_cases hb : (T.length : Int) > 1048576
  · simp only [laws_FnExactBurst.f, if_pos hb]
    exact Ev.now _
  simp only [laws_FnExactBurst.f, if_neg hb]
  have hn : T.length ≤ 1048576 := by omega
  have ht := toIntS_ev T hn
  obtain ⟨⟨l, b⟩, hl, p, q⟩ := burst_both T hn
  simp only at hl
  have he := eqSampleS_ev l (by omega)
  refine Ev.bind ht (Ev.bind p (Ev.bind ht (Ev.bind q (Ev.bind he ?_))))
  simp only [↓reduceIte, bne_self_eq_false]
  refine ev_unroll ?_
  simp only [laws_FnExactBurst.j0, Bool.false_eq_true, ↓reduceIte]
  refine Ev.bind ht (Ev.bind (eqIntS_ev T hn) ?_)
  simp only [↓reduceIte]
  refine Ev.bind (markIntS_ev T 1 (by omega) (by omega) hn) ?_
  simp (disch := omega) only [↓if_neg]
  refine Ev.bind he ?_
  simp only [↓reduceIte, bne_self_eq_false]
  refine ev_unroll ?_
  simp only [laws_FnExactBurst.j1, Bool.false_eq_true, ↓reduceIte]
  refine Ev.bind (markS_ev l 1 (by omega) (by omega) hl) (Ev.bind (heldS_ev l.length 1 (by omega) (by omega) hl) ?_)
  simp (disch := omega) only [↓if_neg, ↓reduceIte]
  refine Ev.bind ht (Ev.bind q (Ev.bind he ?_))
  simp only [↓reduceIte, bne_self_eq_false]
  refine ev_unroll ?_
  simp only [laws_FnExactBurst.j2, Bool.false_eq_true, ↓reduceIte]
  refine Ev.bind (heldS_ev l.length 1 (by omega) (by omega) hl) ?_
  simp (disch := omega) only [↓if_neg, ↓reduceIte]
  exact Ev.now _

end Go.Proofs.Ytigbdfhlpnabdaa.Pure
