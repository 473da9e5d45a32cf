/- The functions that the law FnExactConfigure reaches, as plain functions, and that the code comes to them. Begun as a text of the print over stubs; turned by wip/handstub.py and wip/mend.py. -/
import Derived.Test.YtfepbnolgceadaaDoorHandValueFnExactConfigure
import Derived.Test.YtfepbnolgceadaaDoorHandWordFnExactConfigure
import Derived.Test.YtfepbnolgceadaaDoorMFnExactConfigurex0
import Derived.Test.YtfepbnolgceadaaDoorMFnExactConfigurex1
import Derived.Test.YtfepbnolgceadaaDoorMFnExactConfigurex2
import Derived.Test.YtfepbnolgceadaaDoorMFnExactConfigurex3
namespace Go.Proofs.YtfepbnolgceadaaDoor.MFnExactConfigure
open Go.RowKit Go.Proofs.YtfepbnolgceadaaDoorW.PrintWords Go.Proofs.YtfepbnolgceadaaDoorW.PrintLast Go.Proofs.YtfepbnolgceadaaDoorW.PrintMore
attribute [local go_sem] max2_int min2_int max_two min_two max_three min_three max_four min_four   -- for this text's walks alone
set_option linter.unusedVariables false
set_option linter.unusedSimpArgs false

/-! ### impl_WordOk: function 36 -/
def impl_WordOk.f (k : Nat) (a0 : ByteArray) : Option Bool := if a0.size ≤ 140737488351232 then some (Hand.wordB a0) else none
theorem impl_WordOk.mono : ∀ a0 k, LeO (impl_WordOk.f k a0) (impl_WordOk.f (k + 1) a0) := fun _ _ => LeO.refl _
theorem impl_WordOk.calls (k : Nat) (a0 : ByteArray) (r : Bool) (w : World) (hT : Aside0 (Hand.Tabs w)) (h : impl_WordOk.f k a0 = some r) :
    Calls Tryd.prog 36 #[.string a0] w fun e w' => e = .returned (.bool r) ∧ Below w.heap.size w w' := by
  unfold impl_WordOk.f at h
  split at h
  · obtain rfl := Option.some.inj h
    exact Hand.word_calls a0 w (by assumption) hT.out
  · cases h


/-! ### impl_valueOk: function 37 -/
def impl_valueOk.f (k : Nat) (a0 : ByteArray) : Option Bool := if a0.size ≤ 140737488351232 then some (Hand.valueB a0) else none
theorem impl_valueOk.mono : ∀ a0 k, LeO (impl_valueOk.f k a0) (impl_valueOk.f (k + 1) a0) := fun _ _ => LeO.refl _
theorem impl_valueOk.calls (k : Nat) (a0 : ByteArray) (r : Bool) (w : World) (hT : Aside0 (Hand.Tabs w)) (h : impl_valueOk.f k a0 = some r) :
    Calls Tryd.prog 37 #[.string a0] w fun e w' => e = .returned (.bool r) ∧ Below w.heap.size w w' := by
  unfold impl_valueOk.f at h
  split at h
  · obtain rfl := Option.some.inj h
    exact Hand.value_calls a0 w (by assumption) hT.out
  · cases h


end Go.Proofs.YtfepbnolgceadaaDoor.MFnExactConfigure
