/- The functions that the law FnDiffed reaches, as plain functions, and that the code comes to them. Begun as a text of the print over stubs; turned by wip/handstub.py and wip/mend.py. -/
import Derived.Test.YtfepbnolgceadaaDoorHandDiffDFnDiffed
import Derived.Test.YtfepbnolgceadaaDoorMFnDiffedx0
import Derived.Test.YtfepbnolgceadaaDoorMFnDiffedx5
namespace Go.Proofs.YtfepbnolgceadaaDoor.MFnDiffed
open Go.RowKit Go.Proofs.YtfepbnolgceadaaDoorW.PrintWords Go.Proofs.YtfepbnolgceadaaDoorW.PrintLast Go.Proofs.YtfepbnolgceadaaDoorW.PrintMore
attribute [local go_sem] max2_int min2_int max_two min_two max_three min_three max_four min_four   -- for this text's walks alone
set_option linter.unusedVariables false
set_option linter.unusedSimpArgs false









/-! ### impl_Diff19: function 9 -/
def impl_Diff19.f (k : Nat) (l0 : List S38) (l1 : List S38) : Option ByteArray := if Hand.DiffOk l0 l1 then (impl_SettingsOk.f k l0).bind fun t => if t = true then ((impl_SettingsOk.f k l1).bind fun t2 => if t2 = true then some (Hand.diffS l0 l1) else some (⟨#[]⟩ : ByteArray)) else some (⟨#[]⟩ : ByteArray) else none
theorem impl_Diff19.mono : ∀ a0 a1 k, LeO (impl_Diff19.f k a0 a1) (impl_Diff19.f (k + 1) a0 a1) := by
  intro a0 a1 k
  unfold impl_Diff19.f
  exact LeO.ite (LeO.bind (impl_SettingsOk.mono _ _) (fun _ => LeO.ite (LeO.bind (impl_SettingsOk.mono _ _) (fun _ => LeO.refl _)) (LeO.refl _))) (LeO.refl _)
theorem impl_Diff19.calls (k : Nat) (A0 : Option Addr) (c0 : Nat) (l0 : List S38) (A1 : Option Addr) (c1 : Nat) (l1 : List S38) (r : ByteArray) (w : World) (hT : Aside0 (Hand.Tabs w)) (hr0 : Kd.C k38 w A0 l0.length l0) (hc0 : l0.length ≤ c0) (hr1 : Kd.C k38 w A1 l1.length l1) (hc1 : l1.length ≤ c1) (h : impl_Diff19.f k l0 l1 = some r) :
    Calls Tryd.prog 9 #[.slice A0 l0.length c0, .slice A1 l1.length c1] w fun e w' => e = .returned (.string r) ∧ Below w.heap.size w w' := by
  unfold impl_Diff19.f at h
  by_cases c : Hand.DiffOk l0 l1
  · rw [if_pos c] at h
    obtain ⟨t, h1, h2⟩ := Option.bind_eq_some_iff.mp h
    exact Hand.diff_calls k A0 c0 l0 A1 c1 l1 t w hT hr0 hc0 hr1 hc1 c h1 r h2
  · rw [if_neg c] at h; cases h

end Go.Proofs.YtfepbnolgceadaaDoor.MFnDiffed
