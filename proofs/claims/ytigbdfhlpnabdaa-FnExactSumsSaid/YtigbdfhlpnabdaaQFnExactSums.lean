/- The law FnExactSums: for all lists the program's Sums and the reference's tell the same, up to the bits of a NaN, and the list stays as it was. -/
import Derived.Test.YtigbdfhlpnabdaaMFnExactSumsx4
import Derived.Test.YtigbdfhlpnabdaaKit
namespace Go.Proofs.Ytigbdfhlpnabdaa.Pure
set_option linter.unusedSimpArgs false
set_option linter.unusedVariables false
set_option linter.unusedSectionVars false
open Go Go.RowKit Go.Proofs.Ytigbdfhlpnabdaa.MFnExactSums Go.Proofs.YtigbdfhlpnabdaaW.PrintWords Go.Proofs.YtigbdfhlpnabdaaW.PrintLast Go.Proofs.Ytigbdfhlpnabdaa.Mine

def asSample (t : S63) : S31 := ⟨t.f0, t.f1⟩
theorem toSampleS_ev (x0 : List S63) (hn : x0.length ≤ 1048576) : Ev (fun k => laws_toSampleS.f k x0) (x0.map asSample) := by
  have key : ∀ (d : Nat) (x3 : List S31) (i : Nat), x0.length - i = d → i ≤ x0.length → x3.length = x0.length → x3.take i = (x0.map asSample).take i → Ev (fun k => laws_toSampleS.l0 k x0 x3 (i : Int)) (x0.map asSample) := by
    intro d
    induction d with
    | zero =>
      intro x3 i hd hi hl ht
      have e : x3 = x0.map asSample := by
        rw [List.take_of_length_le (by omega), List.take_of_length_le (by simp; omega)] at ht
        exact ht
      subst e
      refine ev_unroll ?_
      simp (disch := omega) only [laws_toSampleS.l0, ↓if_neg]
      exact Ev.now _
    | succ d ih =>
      intro x3 i hd hi hl ht
      have e : (x0.map asSample).getD i z31 = (⟨(rd_T63 x0 (i : Int)).f0, (rd_T63 x0 (i : Int)).f1⟩ : S31) := by
        have hi2 : i < x0.length := by omega
        simp [rd_T63, asSample, hi2]
      have hs := take_set_succ (l := x3) (m := x0.map asSample) z31 (by simpa using hl) ht (by simp; omega)
      rw [e] at hs
      have h := ih _ (i + 1) (by omega) (by omega) (by simp [hl]) hs
      refine ev_unroll ?_
      simp (disch := omega) only [laws_toSampleS.l0, laws_toSample.f, Option.bind_some, ↓if_pos, w64]
      simpa using h
  have h := key _ (List.replicate x0.length z31) 0 rfl (by omega) (by simp) (by simp)
  simp (disch := omega) only [laws_toSampleS.f, ↓if_pos]
  simpa using h
theorem eqSampleS_ev (x0 : List S31) (hn : x0.length ≤ 1048576) : Ev (fun k => laws_eqSampleS.f k x0 x0) true := by
  have key : ∀ (d : Nat) (i : Nat), x0.length - i = d → i ≤ x0.length → Ev (fun k => laws_eqSampleS.l0 k x0 x0 (i : Int)) true := by
    intro d
    induction d with
    | zero =>
      intro i hd hi
      refine ev_unroll ?_
      simp (disch := omega) only [laws_eqSampleS.l0, ↓if_neg]
      exact Ev.now _
    | succ d ih =>
      intro i hd hi
      have h := ih (i + 1) (by omega) (by omega)
      refine ev_unroll ?_
      simp (disch := omega) only [laws_eqSampleS.l0, laws_eqSample.f, Option.bind_some, ↓if_pos, ↓reduceIte, w64]
      simpa using h
  have h := key _ 0 rfl (by omega)
  simp (disch := omega) only [laws_eqSampleS.f, ↓if_pos]
  simpa using h
theorem sums_step (L : List S31) (hn : L.length ≤ 200) : ∀ (d i : Nat), L.length - i = d → i ≤ L.length → ∀ a b c e : Nat, ∃ r, Ev (fun k => spec_Sums.l0 k L (i : Int) a b c e) r ∧ Ev (fun k => impl_Sums.l0 k L (L.length : Int) (i : Int) a b c e) r := by
  intro d
  induction d with
  | zero =>
    intro i hd hi a b c e
    refine ⟨(a, b, c, e), ?_, ?_⟩
    · refine ev_unroll ?_
      simp (disch := omega) only [spec_Sums.l0, ↓if_neg]
      refine ev_unroll ?_
      simp only [spec_Sums.j1, Bool.false_eq_true, ↓reduceIte]
      exact Ev.now _
    · refine ev_unroll ?_
      simp (disch := omega) only [impl_Sums.l0, ↓if_neg]
      exact Ev.now _
  | succ d ih =>
    intro i hd hi a b c e
    obtain ⟨r, p, q⟩ := ih (i + 1) (by omega) (by omega) (open_add_f32 a (rd_T31 L (i : Int)).f0) (open_add_f32 b (rd_T31 L (i : Int)).f1) (open_add_f64 c (open_conv_f64 (rd_T31 L (i : Int)).f0)) (open_add_f64 e (open_conv_f64 (rd_T31 L (i : Int)).f1))
    refine ⟨r, ?_, ?_⟩
    · refine ev_unroll ?_
      simp (disch := omega) only [spec_Sums.l0, ↓if_pos, decide_eq_true]
      refine ev_unroll ?_
      simp (disch := omega) only [spec_Sums.j1, spec_AddSample.f, spec_Widen.f, Option.bind_some, ↓if_pos, ↓reduceIte, w64]
      simpa using p
    · refine ev_unroll ?_
      simp (disch := omega) only [impl_Sums.l0, impl_AddSample.f, impl_Widen.f, impl_addWide.f, Option.bind_some, ↓if_pos, w64]
      simpa using q
theorem both (L : List S31) : ∃ r, Ev (fun k => spec_Sums.f k L) r ∧ Ev (fun k => impl_Sums.f k L) r := by
  by_cases hn : L.length ≤ 200
  · obtain ⟨r, p, q⟩ := sums_step L hn L.length 0 (by omega) (by omega) 0 0 0 0
    refine ⟨r, by simp only [spec_Sums.f]; exact p, ?_⟩
    simp (disch := omega) only [impl_Sums.f, ↓if_neg]
    exact q
  · refine ⟨(0, 0, 0, 0), ?_, ?_⟩
    · simp only [spec_Sums.f]
      refine ev_unroll ?_
      have h2 : decide ((L.length : Int) ≤ 200) = false := decide_eq_false (by omega)
      simp (disch := omega) only [spec_Sums.l0, ↓if_pos, h2]
      refine ev_unroll ?_
      simp only [spec_Sums.j1, Bool.false_eq_true, ↓reduceIte]
      exact Ev.now _
    · simp (disch := omega) only [impl_Sums.f, ↓if_pos]
      exact Ev.now _
def laws_FnExactSums.Pure : Prop := ∀ l0 : List S63, l0.length ≤ maxLen → ∃ k, laws_FnExactSums.f k l0 = some true
theorem FnExactSums : laws_FnExactSums.Pure := by
  intro T hT
  have hM : maxLen = 9223372036854775807 := rfl
  refine Ev.rounds (g := fun k => laws_FnExactSums.f k T) ?_
  simp only [laws_FnExactSums.f, laws_szSampleS.f]
  by_cases c0 : 1048576 - (T.length : Int) < 0
  · simp (disch := omega) only [w64, ↓if_pos, Option.bind_some]
    exact Ev.now _
  simp (disch := omega) only [w64, ↓if_neg, Option.bind_some]
  have ht := toSampleS_ev T (by omega)
  obtain ⟨r, p, q⟩ := both (T.map asSample)
  refine Ev.bind ht (Ev.bind p (Ev.bind ht (Ev.bind q ?_)))
  simp only [laws_eqSample.f, laws_eqWide.f, ↓reduceIte, Option.bind_some, Bool.not_true]
  refine ev_unroll ?_
  simp only [laws_FnExactSums.j0, Bool.false_eq_true, ↓reduceIte]
  refine Ev.bind ht (Ev.bind (eqSampleS_ev _ (by simp; omega)) ?_)
  simp only [↓reduceIte]
  exact Ev.now _

end Go.Proofs.Ytigbdfhlpnabdaa.Pure
