/- The functions that the law FnAlone reaches, as plain functions, and that the code comes to them. Begun as a text of the print over stubs; turned by wip/handstub.py and wip/mend.py. -/
import Derived.Test.YtheinelpeapleaaHandRepeat
import Derived.Test.YtheinelpeapleaaMFnAlonex0
namespace Go.Proofs.Ytheinelpeapleaa.MFnAlone
open Go.RowKit Go.Proofs.YtheinelpeapleaaW.PrintWords Go.Proofs.YtheinelpeapleaaW.PrintLast Go.Proofs.YtheinelpeapleaaW.PrintMore
attribute [local go_sem] max2_int min2_int max_two min_two max_three min_three max_four min_four   -- for this text's walks alone
set_option linter.unusedVariables false
set_option linter.unusedSimpArgs false

/-! ### slices_Repeat_int_int: function 27 -/
def slices_Repeat_int_int.f (k : Nat) (l0 : List Int) (a1 : Int) : Option (List Int) := if l0.length = 1 then (if 0 ≤ a1 then (if a1 ≤ 1048576 then some (List.replicate a1.toNat (rd l0 0)) else none) else none) else none
theorem slices_Repeat_int_int.mono : ∀ a0 a1 k, LeO (slices_Repeat_int_int.f k a0 a1) (slices_Repeat_int_int.f (k + 1) a0 a1) := fun _ _ _ => LeO.refl _
theorem slices_Repeat_int_int.calls (k : Nat) (A0 : Option Addr) (c0 : Nat) (l0 : List Int) (a1 : Int) (r : List Int) (w : World) (hr0 : Kd.C (Kd.int .i64) w A0 l0.length l0) (hc0 : l0.length ≤ c0) (h : slices_Repeat_int_int.f k l0 a1 = some r) :
    Calls Try.prog 27 #[.slice A0 l0.length c0, .int .i64 a1] w fun e w' => ∃ v0_ : Value, e = .returned (v0_) ∧ Kd.R (Kd.int .i64) 3 w' w.heap.size (fun _ => True) v0_ r ∧ Below w.heap.size w w' := by
  unfold slices_Repeat_int_int.f at h
  by_cases h1 : l0.length = 1
  · by_cases h2 : 0 ≤ a1
    · by_cases h3 : a1 ≤ 1048576
      · rw [if_pos h1, if_pos h2, if_pos h3] at h
        obtain rfl := Option.some.inj h
        obtain ⟨n, rfl⟩ := Int.eq_ofNat_of_zero_le h2
        obtain ⟨ad, rfl, hc⟩ := Kd.at_int hr0 0 (by omega) (by omega)
        have e0 : ad.add (0 : Int).toNat = ad := by cases ad; simp [Addr.add]
        rw [e0] at hc
        rw [h1] at hc0 ⊢
        rw [Int.toNat_natCast]
        exact Go.Proofs.Ytheinelpeapleaa.Hand.repeat_calls ad c0 (rd l0 0) n (by omega) w hc hc0
      · rw [if_pos h1, if_pos h2, if_neg h3] at h; cases h
    · rw [if_pos h1, if_neg h2] at h; cases h
  · rw [if_neg h1] at h; cases h

end Go.Proofs.Ytheinelpeapleaa.MFnAlone
