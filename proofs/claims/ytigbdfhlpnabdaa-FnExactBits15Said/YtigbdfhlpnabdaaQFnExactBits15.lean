/- The law FnExactBits15: for all bursts the program's Bits15 and the reference's tell the same, the burst stays as it was, and what comes back is shared with nothing. -/
import Derived.Test.YtigbdfhlpnabdaaMFnExactBits15x11
import Derived.Test.YtigbdfhlpnabdaaKit
namespace Go.Proofs.Ytigbdfhlpnabdaa.Pure
set_option linter.unusedSimpArgs false
set_option linter.unusedVariables false
set_option linter.unusedSectionVars false
open Go Go.RowKit Go.Proofs.Ytigbdfhlpnabdaa.MFnExactBits15 Go.Proofs.YtigbdfhlpnabdaaW.PrintWords Go.Proofs.YtigbdfhlpnabdaaW.PrintLast Go.Proofs.Ytigbdfhlpnabdaa.Mine

def asSample (t : S63) : S31 := ⟨t.f0, t.f1⟩
theorem toSampleS_ev (x0 : List S63) (hn : x0.length ≤ 1048576) : Ev (fun k => laws_toSampleS.f k x0) (x0.map asSample) := by
  have key : ∀ (d : Nat) (x3 : List S31) (i : Nat), x0.length - i = d → i ≤ x0.length → x3.length = x0.length → x3.take i = (x0.map asSample).take i → Ev (fun k => laws_toSampleS.l0 k x0 x3 (i : Int)) (x0.map asSample) := by
    intro d
    induction d with
    | zero =>
      intro x3 i hd hi hl ht
      have e : x3 = x0.map asSample := by
        rw [List.take_of_length_le (by omega), List.take_of_length_le (by simp; omega)] at ht
        exact ht
      subst e
      refine ev_unroll ?_
      simp (disch := omega) only [laws_toSampleS.l0, ↓if_neg]
      exact Ev.now _
    | succ d ih =>
      intro x3 i hd hi hl ht
      have e : (x0.map asSample).getD i z31 = (⟨(rd_T63 x0 (i : Int)).f0, (rd_T63 x0 (i : Int)).f1⟩ : S31) := by
        have hi2 : i < x0.length := by omega
        simp [rd_T63, asSample, hi2]
      have hs := take_set_succ (l := x3) (m := x0.map asSample) z31 (by simpa using hl) ht (by simp; omega)
      rw [e] at hs
      have h := ih _ (i + 1) (by omega) (by omega) (by simp [hl]) hs
      refine ev_unroll ?_
      simp (disch := omega) only [laws_toSampleS.l0, laws_toSample.f, Option.bind_some, ↓if_pos, w64]
      simpa using h
  have h := key _ (List.replicate x0.length z31) 0 rfl (by omega) (by simp) (by simp)
  simp (disch := omega) only [laws_toSampleS.f, ↓if_pos]
  simpa using h
theorem eqSampleS_ev (x0 : List S31) (hn : x0.length ≤ 1048576) : Ev (fun k => laws_eqSampleS.f k x0 x0) true := by
  have key : ∀ (d : Nat) (i : Nat), x0.length - i = d → i ≤ x0.length → Ev (fun k => laws_eqSampleS.l0 k x0 x0 (i : Int)) true := by
    intro d
    induction d with
    | zero =>
      intro i hd hi
      refine ev_unroll ?_
      simp (disch := omega) only [laws_eqSampleS.l0, ↓if_neg]
      exact Ev.now _
    | succ d ih =>
      intro i hd hi
      have h := ih (i + 1) (by omega) (by omega)
      refine ev_unroll ?_
      simp (disch := omega) only [laws_eqSampleS.l0, laws_eqSample.f, Option.bind_some, ↓if_pos, ↓reduceIte, w64]
      simpa using h
  have h := key _ 0 rfl (by omega)
  simp (disch := omega) only [laws_eqSampleS.f, ↓if_pos]
  simpa using h
theorem eqIntS_ev (x0 : List Int) (hn : x0.length ≤ 1048576) : Ev (fun k => laws_eqIntS.f k x0 x0) true := by
  have key : ∀ (d : Nat) (i : Nat), x0.length - i = d → i ≤ x0.length → Ev (fun k => laws_eqIntS.l0 k x0 x0 (i : Int)) true := by
    intro d
    induction d with
    | zero =>
      intro i hd hi
      refine ev_unroll ?_
      simp (disch := omega) only [laws_eqIntS.l0, ↓if_neg]
      exact Ev.now _
    | succ d ih =>
      intro i hd hi
      refine ev_unroll ?_
      simp (disch := omega) only [laws_eqIntS.l0, ↓if_pos, w64]
      have h := ih (i + 1) (by omega) (by omega)
      simpa using h
  have h := key _ 0 rfl (by omega)
  simp (disch := omega) only [laws_eqIntS.f, ↓if_pos]
  simpa using h
/-- What a marked list holds. -/
def marks (m : Int) (n : Nat) : List Int := (List.range n).map fun (j : Nat) => m + (j : Int)
theorem marks_length (m : Int) (n : Nat) : (marks m n).length = n := by simp [marks]
theorem rd_marks (m : Int) (n i : Nat) (h : i < n) : rd (marks m n) (i : Int) = m + i := by simp [rd, marks, h]
theorem markIntS_ev (x0 : List Int) (m : Int) (hm : 0 ≤ m) (hm2 : m ≤ 1000000000) (hn : x0.length ≤ 1048576) : Ev (fun k => laws_markIntS.f k x0 m) ((m + x0.length : Int), marks m x0.length) := by
  have key : ∀ (d : Nat) (y : List Int) (i : Nat), x0.length - i = d → i ≤ x0.length → y.length = x0.length → y.take i = (marks m x0.length).take i → Ev (fun k => laws_markIntS.l0 k y (m + (i : Int)) (i : Int)) ((m + x0.length : Int), marks m x0.length) := by
    intro d
    induction d with
    | zero =>
      intro y i hd hi hl ht
      have h : i = x0.length := by omega
      have e : y = marks m x0.length := by
        have h2 := ht
        rw [List.take_of_length_le (by omega), List.take_of_length_le (by rw [marks_length]; omega)] at h2
        exact h2
      refine ev_unroll ?_
      simp (disch := omega) only [laws_markIntS.l0, ↓if_neg]
      rw [h, e]
      exact Ev.now _
    | succ d ih =>
      intro y i hd hi hl ht
      refine ev_unroll ?_
      simp (disch := omega) only [laws_markIntS.l0, ↓if_pos, w64]
      have h := ih (y.set i (m + (i : Int))) (i + 1) (by omega) (by omega) (by simp [hl]) (by
        have h2 := take_set_succ (l := y) (m := marks m x0.length) 0 (by rw [marks_length]; exact hl) ht (by rw [marks_length]; omega)
        rw [show (marks m x0.length).getD i 0 = m + (i : Int) from by rw [← rd_nat, rd_marks _ _ _ (by omega)]] at h2
        exact h2)
      rw [show (m + (i : Int) + 1) = m + ((i + 1 : Nat) : Int) from by omega, show ((i : Int) + 1) = ((i + 1 : Nat) : Int) from by omega]
      simpa using h
  have h := key _ x0 0 rfl (by omega) rfl (by simp)
  simp only [laws_markIntS.f]
  simpa using h
theorem heldIntS_ev (n : Nat) (m : Int) (hm : 0 ≤ m) (hm2 : m ≤ 1000000000) (hn : n ≤ 1048576) : Ev (fun k => laws_heldIntS.f k (marks m n) m) (m + n : Int) := by
  have key : ∀ (d : Nat) (i : Nat), n - i = d → i ≤ n → Ev (fun k => laws_heldIntS.l0 k (marks m n) (m + (i : Int)) (i : Int)) (m + n : Int) := by
    intro d
    induction d with
    | zero =>
      intro i hd hi
      have h : i = n := by omega
      have hl := marks_length m n
      refine ev_unroll ?_
      simp (disch := omega) only [laws_heldIntS.l0, ↓if_neg]
      rw [h]
      exact Ev.now _
    | succ d ih =>
      intro i hd hi
      have hl := marks_length m n
      have hr := rd_marks m n i (by omega)
      refine ev_unroll ?_
      simp (disch := omega) only [laws_heldIntS.l0, ↓if_pos, w64]
      have h := ih (i + 1) (by omega) (by omega)
      rw [show (m + (i : Int) + 1) = m + ((i + 1 : Nat) : Int) from by omega, show ((i : Int) + 1) = ((i + 1 : Nat) : Int) from by omega]
      exact h
  have h := key _ 0 rfl (by omega)
  simp only [laws_heldIntS.f]
  simpa using h
theorem match_step (L K : List S31) (hl : L.length = K.length) (hn : L.length ≤ 200) : ∀ (d i : Nat), L.length - i = d → i ≤ L.length → ∀ a b : Nat, ∃ x y, Ev (fun k => spec_Match14.l0 k L K (i : Int) a b) (x, y, true) ∧ Ev (fun k => impl_Match14.l0 k K L (L.length : Int) (i : Int) a b) (x, y, true) := by
  intro d
  induction d with
  | zero =>
    intro i hd hi a b
    refine ⟨a, b, ?_, ?_⟩
    · refine ev_unroll ?_
      simp (disch := omega) only [spec_Match14.l0, ↓if_neg]
      exact Ev.now _
    · refine ev_unroll ?_
      simp (disch := omega) only [impl_Match14.l0, ↓if_neg]
      exact Ev.now _
  | succ d ih =>
    intro i hd hi a b
    obtain ⟨x, y, p, q⟩ := ih (i + 1) (by omega) (by omega)
      (open_add_f64 a (open_sub_f64 (open_mul_f64 (open_conv_f64 (rd_T31 L (i : Int)).f0) (open_conv_f64 (rd_T31 K (i : Int)).f0)) (open_mul_f64 (open_conv_f64 (rd_T31 L (i : Int)).f1) (open_conv_f64 (Op.negFloat .f32 (rd_T31 K (i : Int)).f1)))))
      (open_add_f64 b (open_add_f64 (open_mul_f64 (open_conv_f64 (rd_T31 L (i : Int)).f0) (open_conv_f64 (Op.negFloat .f32 (rd_T31 K (i : Int)).f1))) (open_mul_f64 (open_conv_f64 (rd_T31 L (i : Int)).f1) (open_conv_f64 (rd_T31 K (i : Int)).f0))))
    refine ⟨x, y, ?_, ?_⟩
    · refine ev_unroll ?_
      simp (disch := omega) only [spec_Match14.l0, spec_Widen.f, spec_l14Bar.f, spec_MulWide.f, Option.bind_some, ↓if_pos, w64]
      simpa using p
    · refine ev_unroll ?_
      simp (disch := omega) only [impl_Match14.l0, impl_Widen.f, impl_turned.f, impl_MulWide.f, impl_addWide.f, Option.bind_some, ↓if_pos, w64]
      simpa using q
theorem match_both (L K : List S31) : ∃ x y c, Ev (fun k => spec_Match14.f k L K) (x, y, c) ∧ Ev (fun k => impl_Match14.f k L K) (x, y, c) ∧ (L.length = K.length → 1 ≤ L.length → L.length ≤ 200 → c = true) := by
  have no1 : Ev (fun k => spec_Match14.j0 k L K true 0 0) (0, 0, false) := by
    refine ev_unroll ?_
    simp only [spec_Match14.j0, ↓reduceIte]
    exact Ev.now _
  have no2 : Ev (fun k => impl_Match14.j0 k L K true 0 0) (0, 0, false) := by
    refine ev_unroll ?_
    simp only [impl_Match14.j0, ↓reduceIte]
    exact Ev.now _
  by_cases hl : L.length = K.length
  · have hl2 : (L.length : Int) = (K.length : Int) := by omega
    by_cases h1 : (1 : Int) ≤ (L.length : Int)
    · by_cases h2 : (L.length : Int) ≤ 200
      · obtain ⟨x, y, p, q⟩ := match_step L K hl (by omega) L.length 0 (by omega) (by omega) 0 0
        refine ⟨x, y, true, ?_, ?_, fun _ _ _ => rfl⟩
        · simp (disch := omega) only [spec_Match14.f, spec_l1In.f, if_pos hl2, ↓if_pos, decide_eq_true h2, Option.bind_some, Bool.not_true]
          refine ev_unroll ?_
          simp only [spec_Match14.j0, Bool.false_eq_true, ↓reduceIte]
          exact p
        · simp (disch := omega) only [impl_Match14.f, impl_in.f, if_pos hl2, ↓if_pos, decide_eq_true h2, Option.bind_some, Bool.not_true]
          refine ev_unroll ?_
          simp only [impl_Match14.j0, Bool.false_eq_true, ↓reduceIte]
          exact q
      · refine ⟨0, 0, false, ?_, ?_, fun _ _ h => absurd h (by omega)⟩
        · simp (disch := omega) only [spec_Match14.f, spec_l1In.f, if_pos hl2, ↓if_pos, decide_eq_false h2, Option.bind_some, Bool.not_false]
          exact no1
        · simp (disch := omega) only [impl_Match14.f, impl_in.f, if_pos hl2, ↓if_pos, decide_eq_false h2, Option.bind_some, Bool.not_false]
          exact no2
    · refine ⟨0, 0, false, ?_, ?_, fun _ h => absurd h (by omega)⟩
      · simp (disch := omega) only [spec_Match14.f, spec_l1In.f, if_pos hl2, ↓if_neg, Option.bind_some, Bool.not_false]
        exact no1
      · simp (disch := omega) only [impl_Match14.f, impl_in.f, if_pos hl2, ↓if_neg, Option.bind_some, Bool.not_false]
        exact no2
  · have hl2 : ¬ (L.length : Int) = (K.length : Int) := by omega
    refine ⟨0, 0, false, ?_, ?_, fun h => absurd h hl⟩
    · simp only [spec_Match14.f, if_neg hl2]
      exact no1
    · simp only [impl_Match14.f, if_neg hl2]
      exact no2
theorem train_dec : (impl_Train.f 60).map (fun l => l.map fun s : S31 => (s.f0, s.f1)) = (spec_Train.f 60).map (fun l => l.map fun s : S31 => (s.f0, s.f1)) ∧ (spec_Train.f 60).map List.length = some 26 := by decide +kernel
theorem pairs_inj {a b : List S31} (h : a.map (fun s : S31 => (s.f0, s.f1)) = b.map (fun s : S31 => (s.f0, s.f1))) : a = b := by
  have h2 := congrArg (List.map (fun p : Nat × Nat => (⟨p.1, p.2⟩ : S31))) h
  rw [List.map_map, List.map_map] at h2
  have e : ((fun p : Nat × Nat => (⟨p.1, p.2⟩ : S31)) ∘ fun s : S31 => (s.f0, s.f1)) = id := rfl
  rw [e, List.map_id, List.map_id] at h2
  exact h2
theorem train_both : ∃ tr : List S31, Ev (fun k => spec_Train.f k) tr ∧ Ev (fun k => impl_Train.f k) tr ∧ tr.length = 26 := by
  obtain ⟨h1, h2⟩ := train_dec
  obtain ⟨tr, h3, h4⟩ := Option.map_eq_some_iff.mp h2
  rw [h3, Option.map_some] at h1
  obtain ⟨tr2, h5, h6⟩ := Option.map_eq_some_iff.mp h1
  have e := pairs_inj h6
  subst e
  exact ⟨tr2, Ev.of (fun k => spec_Train.mono k) h3, Ev.of (fun k => impl_Train.mono k) h5, h4⟩
theorem gain_both (L : List S31) : ∃ x y c, Ev (fun k => spec_Gain15.f k L) (x, y, c) ∧ Ev (fun k => impl_Gain15.f k L) (x, y, c) := by
  by_cases h1 : (27 : Int) ≤ (L.length : Int)
  · by_cases h2 : (L.length : Int) ≤ 200
    · obtain ⟨tr, t1, t2, t3⟩ := train_both
      have e1 : wrap64 (Int.tdiv (wrap64 ((L.length : Int) - 26)) 2) = ((L.length : Int) - 26) / 2 := by
        rw [w64 (x := (L.length : Int) - 26) (by omega) (by omega), tdiv_nonneg (by omega), w64 (by omega) (by omega)]
      have e2 : wrap64 (((L.length : Int) - 26) / 2 + 26) = ((L.length : Int) - 26) / 2 + 26 := w64 (by omega) (by omega)
      obtain ⟨x, y, c, p, q, _⟩ := match_both ((L.take (((L.length : Int) - 26) / 2 + 26).toNat).drop (((L.length : Int) - 26) / 2).toNat) tr
      refine ⟨open_quo_f64 x 4632515166703976448, open_quo_f64 y 4632515166703976448, true, ?_, ?_⟩
      · simp (disch := omega) only [spec_Gain15.f, spec_l1In.f, ↓if_pos, decide_eq_true h2, Option.bind_some, e1, e2]
        exact Ev.bind t1 (Ev.bind p (Ev.now _))
      · simp (disch := omega) only [impl_Gain15.f, impl_in.f, ↓if_pos, decide_eq_true h2, Option.bind_some, e1, e2]
        exact Ev.bind t2 (Ev.bind q (Ev.now _))
    · refine ⟨0, 0, false, ?_, ?_⟩
      · simp (disch := omega) only [spec_Gain15.f, spec_l1In.f, ↓if_pos, decide_eq_false h2, Option.bind_some, Bool.false_eq_true, ↓reduceIte]
        exact Ev.now _
      · simp (disch := omega) only [impl_Gain15.f, impl_in.f, ↓if_pos, decide_eq_false h2, Option.bind_some, Bool.false_eq_true, ↓reduceIte]
        exact Ev.now _
  · refine ⟨0, 0, false, ?_, ?_⟩
    · simp (disch := omega) only [spec_Gain15.f, spec_l1In.f, ↓if_neg, Option.bind_some, Bool.false_eq_true, ↓reduceIte]
      exact Ev.now _
    · simp (disch := omega) only [impl_Gain15.f, impl_in.f, ↓if_neg, Option.bind_some, Bool.false_eq_true, ↓reduceIte]
      exact Ev.now _
theorem gain_bound (L : List S31) (x y : Nat) (c : Bool) (p : Ev (fun k => spec_Gain15.f k L) (x, y, c)) (hc : c = true) : (27 : Int) ≤ (L.length : Int) ∧ (L.length : Int) ≤ 200 := by
  by_cases h1 : (27 : Int) ≤ (L.length : Int)
  · by_cases h2 : (L.length : Int) ≤ 200
    · exact ⟨h1, h2⟩
    · have q : Ev (fun k => spec_Gain15.f k L) (0, 0, false) := by
        simp (disch := omega) only [spec_Gain15.f, spec_l1In.f, ↓if_pos, decide_eq_false h2, Option.bind_some, Bool.false_eq_true, ↓reduceIte]
        exact Ev.now _
      have e := ev_unique p q
      injection e with _ e
      injection e with _ e
      rw [hc] at e
      cases e
  · have q : Ev (fun k => spec_Gain15.f k L) (0, 0, false) := by
      simp (disch := omega) only [spec_Gain15.f, spec_l1In.f, ↓if_neg, Option.bind_some, Bool.false_eq_true, ↓reduceIte]
      exact Ev.now _
    have e := ev_unique p q
    injection e with _ e
    injection e with _ e
    rw [hc] at e
    cases e
def bitv (q : Nat) : Int := if (FloatKind.f64.format.order q 0 == some .gt || FloatKind.f64.format.order q 0 == some .eq) = true then 1 else 0
theorem bit_some (q : Nat) : spec_l15Bit.f q = some (bitv q) := by
  unfold spec_l15Bit.f bitv
  split <;> rfl
theorem bits_step (L : List S31) (hh : Int) (h0 : 0 ≤ hh) (h1 : hh ≤ 200) (hn : L.length ≤ 200) (x y : Nat) : ∀ (d i : Nat), L.length - i = d → i ≤ L.length → ∀ acc : List Int, acc.length ≤ 2 * i →
    ∃ r : List Int × Bool, r.1.length ≤ 400 ∧ Ev (fun k => spec_Bits15.l0 k L acc hh (i : Int) x y) r ∧ Ev (fun k => impl_Bits15.l0 k hh acc L (L.length : Int) (i : Int) x y) r := by
  intro d
  induction d with
  | zero =>
    intro i hd hi acc ha
    refine ⟨(acc, true), by simp only; omega, ?_, ?_⟩
    · refine ev_unroll ?_
      simp (disch := omega) only [spec_Bits15.l0, ↓if_neg]
      exact Ev.now _
    · refine ev_unroll ?_
      simp (disch := omega) only [impl_Bits15.l0, ↓if_neg]
      exact Ev.now _
  | succ d ih =>
    intro i hd hi acc ha
    have one : ∀ b : Bool, ∃ r : List Int × Bool, r.1.length ≤ 400 ∧ Ev (fun k => spec_Bits15.j1 k L acc hh (i : Int) b x y) r ∧ Ev (fun k => impl_Bits15.j1 k hh acc L (L.length : Int) (i : Int) b x y (rd_T31 L (i : Int)).f0 (rd_T31 L (i : Int)).f1) r := by
      intro b
      cases b with
      | true =>
        obtain ⟨r, hr, p, q⟩ := ih (i + 1) (by omega) (by omega) acc (by omega)
        refine ⟨r, hr, ?_, ?_⟩
        · refine ev_unroll ?_
          simp (disch := omega) only [spec_Bits15.j1, ↓reduceIte, w64]
          simpa using p
        · refine ev_unroll ?_
          simp (disch := omega) only [impl_Bits15.j1, ↓reduceIte, w64]
          simpa using q
      | false =>
        cases hq : (Hand.qrep (open_conv_f64 (rd_T31 L (i : Int)).f0) (open_conv_f64 (rd_T31 L (i : Int)).f1) x y).2.2 with
        | true =>
          obtain ⟨r, hr, p, q⟩ := ih (i + 1) (by omega) (by omega) (acc ++ [bitv (Hand.qrep (open_conv_f64 (rd_T31 L (i : Int)).f0) (open_conv_f64 (rd_T31 L (i : Int)).f1) x y).1, bitv (Hand.qrep (open_conv_f64 (rd_T31 L (i : Int)).f0) (open_conv_f64 (rd_T31 L (i : Int)).f1) x y).2.1]) (by simp; omega)
          refine ⟨r, hr, ?_, ?_⟩
          · refine ev_unroll ?_
            simp (disch := first | omega | (simp only [List.length_cons, List.length_nil]; omega)) only [spec_Bits15.j1, spec_Widen.f, spec_QuotWide.f, bit_some, Option.bind_some, hq, Bool.false_eq_true, ↓reduceIte, ↓if_pos, w64]
            simpa using p
          · refine ev_unroll ?_
            simp (disch := first | omega | (simp only [List.length_cons, List.length_nil]; omega)) only [impl_Bits15.j1, impl_Widen.f, impl_QuotWide.f, bit_some, Option.bind_some, hq, Bool.false_eq_true, ↓reduceIte, ↓if_pos, w64]
            simpa using q
        | false =>
          refine ⟨([], false), by simp, ?_, ?_⟩
          · refine ev_unroll ?_
            simp (disch := omega) only [spec_Bits15.j1, spec_Widen.f, spec_QuotWide.f, Option.bind_some, hq, Bool.false_eq_true, ↓reduceIte, ↓if_pos]
            exact Ev.now _
          · refine ev_unroll ?_
            simp (disch := omega) only [impl_Bits15.j1, impl_Widen.f, impl_QuotWide.f, Option.bind_some, hq, Bool.false_eq_true, ↓reduceIte]
            exact Ev.now _
    by_cases c : hh ≤ (i : Int)
    · obtain ⟨r, hr, p, q⟩ := one (decide ((i : Int) < hh + 26))
      refine ⟨r, hr, ?_, ?_⟩
      · refine ev_unroll ?_
        simp (disch := omega) only [spec_Bits15.l0, ↓if_pos, w64]
        exact p
      · refine ev_unroll ?_
        simp (disch := omega) only [impl_Bits15.l0, ↓if_pos, w64]
        exact q
    · obtain ⟨r, hr, p, q⟩ := one false
      refine ⟨r, hr, ?_, ?_⟩
      · refine ev_unroll ?_
        simp (disch := omega) only [spec_Bits15.l0, ↓if_pos, ↓if_neg]
        exact p
      · refine ev_unroll ?_
        simp (disch := omega) only [impl_Bits15.l0, ↓if_pos, ↓if_neg]
        exact q
theorem bits_both (L : List S31) : ∃ r : List Int × Bool, r.1.length ≤ 400 ∧ Ev (fun k => spec_Bits15.f k L) r ∧ Ev (fun k => impl_Bits15.f k L) r := by
  obtain ⟨x, y, c, p, q⟩ := gain_both L
  cases c with
  | false =>
    refine ⟨([], false), by simp, ?_, ?_⟩
    · simp only [spec_Bits15.f, Option.bind_some]
      refine Ev.bind p ?_
      simp only [Bool.false_eq_true, ↓reduceIte]
      exact Ev.now _
    · simp only [impl_Bits15.f]
      refine Ev.bind q ?_
      simp only [Bool.false_eq_true, ↓reduceIte]
      exact Ev.now _
  | true =>
    obtain ⟨b1, b2⟩ := gain_bound L x y true p rfl
    have e1 : wrap64 (Int.tdiv (wrap64 ((L.length : Int) - 26)) 2) = ((L.length : Int) - 26) / 2 := by
      rw [w64 (x := (L.length : Int) - 26) (by omega) (by omega), tdiv_nonneg (by omega), w64 (by omega) (by omega)]
    obtain ⟨r, hr, s, t⟩ := bits_step L (((L.length : Int) - 26) / 2) (by omega) (by omega) (by omega) x y L.length 0 (by omega) (by omega) [] (by simp)
    refine ⟨r, hr, ?_, ?_⟩
    · simp only [spec_Bits15.f, Option.bind_some]
      refine Ev.bind p ?_
      simp only [↓reduceIte, e1]
      exact s
    · simp only [impl_Bits15.f]
      refine Ev.bind q ?_
      simp only [↓reduceIte, e1]
      exact t
theorem markSampleS_ev : ∀ (L : List S31) (a : Int), 0 ≤ a → a ≤ 10 → L.length ≤ 1048576 → ∃ m : Int × List S31, 0 ≤ m.1 ∧ Ev (fun k => laws_markSampleS.f k L a) m := by
  intro L a ha0 ha1 hn
  have key : ∀ (d : Nat) (x0 : List S31) (i : Nat) (a : Int), L.length - i = d → i ≤ L.length → x0.length = L.length → 0 ≤ a → a ≤ 10 + 2 * i → ∃ m : Int × List S31, 0 ≤ m.1 ∧ Ev (fun k => laws_markSampleS.l0 k x0 a (i : Int)) m := by
    intro d
    induction d with
    | zero =>
      intro x0 i a hd hi hl h0 h1
      refine ⟨(a, x0), h0, ?_⟩
      refine ev_unroll ?_
      simp (disch := omega) only [laws_markSampleS.l0, ↓if_neg]
      exact Ev.now _
    | succ d ih =>
      intro x0 i a hd hi hl h0 h1
      obtain ⟨m, hm, p⟩ := ih ((x0.set i (⟨floatOfInt .f32 a, (rd_T31 x0 (i : Int)).f1⟩ : S31)).set i (⟨(rd_T31 (x0.set i (⟨floatOfInt .f32 a, (rd_T31 x0 (i : Int)).f1⟩ : S31)) (i : Int)).f0, floatOfInt .f32 (a + 1)⟩ : S31)) (i + 1) (a + 1 + 1) (by omega) (by omega) (by rw [List.length_set, List.length_set]; exact hl) (by omega) (by omega)
      refine ⟨m, hm, ?_⟩
      refine ev_unroll ?_
      simp (disch := omega) only [laws_markSampleS.l0, ↓if_pos, Option.bind_some, w64]
      simpa using p
  obtain ⟨m, hm, p⟩ := key L.length L 0 a (by omega) (by omega) rfl ha0 (by omega)
  exact ⟨m, hm, by simp only [laws_markSampleS.f]; exact p⟩
def laws_FnExactBits15.Pure : Prop := ∀ l0 : List S63, l0.length ≤ maxLen → ∃ k, laws_FnExactBits15.f k l0 = some true
theorem FnExactBits15 : laws_FnExactBits15.Pure := by
  intro T hT
  have hM : maxLen = 9223372036854775807 := rfl
  refine Ev.rounds (g := fun k => laws_FnExactBits15.f k T) ?_
  simp only [laws_FnExactBits15.f, laws_szSampleS.f]
  by_cases c0 : 1048576 - (T.length : Int) < 0
  · simp (disch := omega) only [w64, ↓if_pos, Option.bind_some]
    exact Ev.now _
  simp (disch := omega) only [w64, ↓if_neg, Option.bind_some]
  have ht := toSampleS_ev T (by omega)
  obtain ⟨⟨l, b⟩, hl0, p, q⟩ := bits_both (T.map asSample)
  simp only at hl0
  have hl : l.length ≤ 1048576 := by omega
  obtain ⟨⟨m1, m2⟩, hm, mk⟩ := markSampleS_ev (T.map asSample) 1 (by omega) (by omega) (by simp; omega)
  simp only at hm
  refine Ev.bind ht (Ev.bind p (Ev.bind ht (Ev.bind q (Ev.bind (eqIntS_ev l hl) ?_))))
  simp only [↓reduceIte, bne_self_eq_false]
  refine ev_unroll ?_
  simp only [laws_FnExactBits15.j0, Bool.false_eq_true, ↓reduceIte]
  refine Ev.bind ht (Ev.bind (eqSampleS_ev _ (by simp; omega)) ?_)
  simp only [↓reduceIte]
  refine Ev.bind mk ?_
  simp (disch := omega) only [↓if_neg]
  refine Ev.bind (eqIntS_ev l hl) ?_
  simp only [↓reduceIte, bne_self_eq_false]
  refine ev_unroll ?_
  simp only [laws_FnExactBits15.j1, Bool.false_eq_true, ↓reduceIte]
  refine Ev.bind (markIntS_ev l 1 (by omega) (by omega) hl) (Ev.bind (heldIntS_ev l.length 1 (by omega) (by omega) hl) ?_)
  simp (disch := omega) only [↓if_neg, ↓reduceIte]
  refine Ev.bind ht (Ev.bind q (Ev.bind (eqIntS_ev l hl) ?_))
  simp only [↓reduceIte, bne_self_eq_false]
  refine ev_unroll ?_
  simp only [laws_FnExactBits15.j2, Bool.false_eq_true, ↓reduceIte]
  refine Ev.bind (heldIntS_ev l.length 1 (by omega) (by omega) hl) ?_
  simp (disch := omega) only [↓if_neg, ↓reduceIte]
  exact Ev.now _

end Go.Proofs.Ytigbdfhlpnabdaa.Pure
