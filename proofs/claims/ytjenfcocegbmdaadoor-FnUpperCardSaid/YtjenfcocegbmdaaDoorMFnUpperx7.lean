/- The functions that the law FnUpper reaches, as plain functions, and that the code comes to them. Begun as a text of the print over stubs; turned by wip/handstub.py and wip/mend.py. -/
import Derived.Test.YtjenfcocegbmdaaDoorHandUpper
import Derived.Test.YtjenfcocegbmdaaDoorMFnUpperx0
import Derived.Test.YtjenfcocegbmdaaDoorMFnUpperx1
import Derived.Test.YtjenfcocegbmdaaDoorMFnUpperx3
import Derived.Test.YtjenfcocegbmdaaDoorMFnUpperx4
namespace Go.Proofs.YtjenfcocegbmdaaDoor.MFnUpper
open Go.RowKit Go.Proofs.YtjenfcocegbmdaaDoorW.PrintWords Go.Proofs.YtjenfcocegbmdaaDoorW.PrintLast Go.Proofs.YtjenfcocegbmdaaDoorW.PrintMore
attribute [local go_sem] max2_int min2_int max_two min_two max_three min_three max_four min_four   -- for this text's walks alone
set_option linter.unusedVariables false
set_option linter.unusedSimpArgs false

/-! ### impl_Upper: function 16 -/
def impl_Upper.f (k : Nat) (a0 : ByteArray) : Option ByteArray := if a0.size < 35184372088832 then some (Hand.upperS a0) else none
theorem impl_Upper.mono : ∀ a0 k, LeO (impl_Upper.f k a0) (impl_Upper.f (k + 1) a0) := fun _ _ => LeO.refl _
theorem impl_Upper.calls (k : Nat) (a0 : ByteArray) (r : ByteArray) (w : World) (hT : Aside0 (Hand.Tabs w)) (h : impl_Upper.f k a0 = some r) :
    Calls Tryd.prog 16 #[.string a0] w fun e w' => e = .returned (.string r) ∧ Below w.heap.size w w' := by
  unfold impl_Upper.f at h
  split at h
  · obtain rfl := Option.some.inj h
    exact Hand.upper_calls a0 w (by assumption) hT.out
  · cases h


/-! ### laws_big: function 17 -/
def laws_big.f (l0 : List Int) : Option (Bool) := some (decide ((l0.length : Int) > 1048576))
set_option maxHeartbeats 8000000 in
set_option maxRecDepth 100000 in
theorem laws_big.calls (A0 : Option Addr) (c0 : Nat) (l0 : List Int) (r : Bool) (w : World) (hr0 : Kd.C (Kd.int .u8) w A0 l0.length l0) (hc0 : l0.length ≤ c0) (h : laws_big.f l0 = some r) :
    Calls Tryd.prog 17 #[.slice A0 l0.length c0] w fun e w' => e = .returned (.bool r) ∧ Drawn0 w w' := by
  have HR0 := Aside0.mk hr0
  have HC0 := Aside0.mk hc0
  clear hr0 hc0
  have H : (some (decide ((l0.length : Int) > 1048576))) = some r := h
  clear h
  obtain rfl := Option.some.inj H
  go_enter Tryd.func17, Tryd.ntmps17
  go_wp2
  go_ret
  exact ⟨by first | rfl | (simp; done) | (simp [*]; done), by repeat (first | exact Drawn0.refl _ | apply Drawn0.step)⟩

end Go.Proofs.YtjenfcocegbmdaaDoor.MFnUpper
