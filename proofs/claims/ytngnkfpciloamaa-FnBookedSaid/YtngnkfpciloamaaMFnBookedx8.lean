/- What the code of the law FnBooked answers. -/
import Derived.Test.YtngnkfpciloamaaShortFnBooked
import Derived.Test.YtngnkfpciloamaaHandFaultFnBooked
import Derived.Test.YtngnkfpciloamaaMFnBookedx0
import Derived.Test.YtngnkfpciloamaaMFnBookedx3
import Derived.Test.YtngnkfpciloamaaMFnBookedx4
namespace Go.Proofs.Ytngnkfpciloamaa.MFnBooked
open Go.RowKit Go.Proofs.YtngnkfpciloamaaW.PrintWords Go.Proofs.YtngnkfpciloamaaW.PrintLast Go.Proofs.YtngnkfpciloamaaW.PrintMore
attribute [local go_sem] max2_int min2_int max_two min_two max_three min_three max_four min_four
set_option linter.unusedVariables false
set_option linter.unusedSimpArgs false
def impl_Faults.f (k : Nat) (lp : List S50) (lq : List Int) (lr : List Int) : Option (List S69) :=
 (impl_BookOk.f k lp lq lr).bind fun ok => if ok = true then (if lp.length ≤ 1000 ∧ lq.length ≤ 1000 ∧ lr.length ≤ 1000 then (impl_said.f k lp lq lr).bind fun sc => (if sc.1.length = lq.length ∧ sc.2.length = lr.length then
  some (twA lp lp.length ++ slA lp lp.length ++ tolA lq sc.1 3 lq.length ++ tolB lq sc.1 4 lq.length ++ tolA lr sc.2 5 lr.length ++ tolB lr sc.2 6 lr.length) else none) else none) else some [(⟨7, 0⟩ : S69)]
theorem impl_Faults.mono : ∀ a0 a1 a2 k, LeO (impl_Faults.f k a0 a1 a2) (impl_Faults.f (k + 1) a0 a1 a2) := by
 intro a0 a1 a2 k
 unfold impl_Faults.f
 exact LeO.bind (impl_BookOk.mono _ _ _ _) (fun _ => LeO.ite (LeO.ite (LeO.bind (impl_said.mono _ _ _ _) (fun _ => LeO.refl _)) (LeO.refl _)) (LeO.refl _))
theorem impl_Faults.calls (k : Nat) (Ap : Option Addr) (cp : Nat) (lp : List S50) (Aq : Option Addr) (cq : Nat) (lq : List Int) (Ar : Option Addr) (cr : Nat) (lr : List Int) (r : List S69) (w : World) (hr0_0 : Kd.C k50 w Ap lp.length lp) (hc0_0 : lp.length ≤ cp) (hr0_1 : Kd.C (Kd.int .i64) w Aq lq.length lq) (hc0_1 : lq.length ≤ cq) (hr0_2 : Kd.C (Kd.int .i64) w Ar lr.length lr) (hc0_2 : lr.length ≤ cr) (h : impl_Faults.f k lp lq lr = some r) :
  Calls Try.prog 20 #[.agg #[.slice Ap lp.length cp, .slice Aq lq.length cq, .slice Ar lr.length cr]] w fun e w' => ∃ v0_ : Value, e = .returned (v0_) ∧ Kd.R k69 69 w' w.heap.size (fun _ => True) v0_ r ∧ Below w.heap.size w w' := by
 unfold impl_Faults.f at h
 obtain ⟨ok, h1, h2⟩ := Option.bind_eq_some_iff.mp h
 cases ok
 ·simp only [Bool.false_eq_true, if_false, Option.some.injEq] at h2
  subst h2
  exact faults_no k Ap cp lp Aq cq lq Ar cr lr w hr0_0 hc0_0 hr0_1 hc0_1 hr0_2 hc0_2 h1
 ·rw [if_pos rfl] at h2
  by_cases hn : lp.length ≤ 1000 ∧ lq.length ≤ 1000 ∧ lr.length ≤ 1000
  ·rw [if_pos hn] at h2
   obtain ⟨⟨ls, cs⟩, h3, h4⟩ := Option.bind_eq_some_iff.mp h2
   by_cases hl : ls.length = lq.length ∧ cs.length = lr.length
   ·rw [if_pos hl] at h4
    obtain rfl := Option.some.inj h4
    exact faults_calls k Ap cp lp Aq cq lq Ar cr lr ls cs w hr0_0 hc0_0 hr0_1 hc0_1 hr0_2 hc0_2 hn.1 hn.2.1 hn.2.2 h1 h3 hl.1 hl.2
   ·rw [if_neg hl] at h4; cases h4
  ·rw [if_neg hn] at h2; cases h2
end Go.Proofs.Ytngnkfpciloamaa.MFnBooked
