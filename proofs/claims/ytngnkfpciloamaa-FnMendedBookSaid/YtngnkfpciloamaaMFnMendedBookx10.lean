/- The functions that the law FnMendedBook reaches, as plain functions, and that the code comes to them. Begun as a text of the print over stubs; turned by wip/handstub.py and wip/mend.py. -/
import Derived.Test.YtngnkfpciloamaaHandFaultFnMendedBook
import Derived.Test.YtngnkfpciloamaaMFnMendedBookx0
import Derived.Test.YtngnkfpciloamaaMFnMendedBookx2
import Derived.Test.YtngnkfpciloamaaMFnMendedBookx3
namespace Go.Proofs.Ytngnkfpciloamaa.MFnMendedBook
open Go.RowKit Go.Proofs.YtngnkfpciloamaaW.PrintWords Go.Proofs.YtngnkfpciloamaaW.PrintLast Go.Proofs.YtngnkfpciloamaaW.PrintMore
attribute [local go_sem] max2_int min2_int max_two min_two max_three min_three max_four min_four   -- for this text's walks alone
set_option linter.unusedVariables false
set_option linter.unusedSimpArgs false

/-! ### impl_Faults: function 20 -/
def impl_Faults.f (k : Nat) (l0_0 : List S50) (l0_1 : List Int) (l0_2 : List Int) : Option (List S69) :=
 (impl_BookOk.f k l0_0 l0_1 l0_2).bind fun ok => if ok = true then (if l0_0.length ≤ 1000 ∧ l0_1.length ≤ 1000 ∧ l0_2.length ≤ 1000 then (impl_said.f k l0_0 l0_1 l0_2).bind fun sc => (if sc.1.length = l0_1.length ∧ sc.2.length = l0_2.length then
  some (twA l0_0 l0_0.length ++ slA l0_0 l0_0.length ++ tolA l0_1 sc.1 3 l0_1.length ++ tolB l0_1 sc.1 4 l0_1.length ++ tolA l0_2 sc.2 5 l0_2.length ++ tolB l0_2 sc.2 6 l0_2.length) else none) else none) else some [(⟨7, 0⟩ : S69)]
theorem impl_Faults.mono : ∀ a0 a1 a2 k, LeO (impl_Faults.f k a0 a1 a2) (impl_Faults.f (k + 1) a0 a1 a2) := by
 intro a0 a1 a2 k
 unfold impl_Faults.f
 exact LeO.bind (impl_BookOk.mono _ _ _ _) (fun _ => LeO.ite (LeO.ite (LeO.bind (impl_said.mono _ _ _ _) (fun _ => LeO.refl _)) (LeO.refl _)) (LeO.refl _))
theorem impl_Faults.calls (k : Nat) (A0_0 : Option Addr) (c0_0 : Nat) (l0_0 : List S50) (A0_1 : Option Addr) (c0_1 : Nat) (l0_1 : List Int) (A0_2 : Option Addr) (c0_2 : Nat) (l0_2 : List Int) (r : List S69) (w : World) (hr0_0 : Kd.C k50 w A0_0 l0_0.length l0_0) (hc0_0 : l0_0.length ≤ c0_0) (hr0_1 : Kd.C (Kd.int .i64) w A0_1 l0_1.length l0_1) (hc0_1 : l0_1.length ≤ c0_1) (hr0_2 : Kd.C (Kd.int .i64) w A0_2 l0_2.length l0_2) (hc0_2 : l0_2.length ≤ c0_2) (h : impl_Faults.f k l0_0 l0_1 l0_2 = some r) :
  Calls Try.prog 20 #[.agg #[.slice A0_0 l0_0.length c0_0, .slice A0_1 l0_1.length c0_1, .slice A0_2 l0_2.length c0_2]] w fun e w' => ∃ v0_ : Value, e = .returned (v0_) ∧ Kd.R k69 69 w' w.heap.size (fun _ => True) v0_ r ∧ Below w.heap.size w w' := by
 unfold impl_Faults.f at h
 obtain ⟨ok, h1, h2⟩ := Option.bind_eq_some_iff.mp h
 cases ok
 ·simp only [Bool.false_eq_true, if_false, Option.some.injEq] at h2
  subst h2
  exact faults_no k A0_0 c0_0 l0_0 A0_1 c0_1 l0_1 A0_2 c0_2 l0_2 w hr0_0 hc0_0 hr0_1 hc0_1 hr0_2 hc0_2 h1
 ·rw [if_pos rfl] at h2
  by_cases hn : l0_0.length ≤ 1000 ∧ l0_1.length ≤ 1000 ∧ l0_2.length ≤ 1000
  ·rw [if_pos hn] at h2
   obtain ⟨⟨ls, cs⟩, h3, h4⟩ := Option.bind_eq_some_iff.mp h2
   by_cases hl : ls.length = l0_1.length ∧ cs.length = l0_2.length
   ·rw [if_pos hl] at h4
    obtain rfl := Option.some.inj h4
    exact faults_calls k A0_0 c0_0 l0_0 A0_1 c0_1 l0_1 A0_2 c0_2 l0_2 ls cs w hr0_0 hc0_0 hr0_1 hc0_1 hr0_2 hc0_2 hn.1 hn.2.1 hn.2.2 h1 h3 hl.1 hl.2
   ·rw [if_neg hl] at h4; cases h4
  ·rw [if_neg hn] at h2; cases h2

end Go.Proofs.Ytngnkfpciloamaa.MFnMendedBook
