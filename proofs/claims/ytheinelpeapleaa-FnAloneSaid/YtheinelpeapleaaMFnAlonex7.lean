/- The functions that the law FnAlone reaches, as plain functions, and that the code comes to them. Begun as a text of the print over stubs; turned by wip/handstub.py and wip/mend.py. -/
import Derived.Test.YtheinelpeapleaaMFnAlonex0
import Derived.Test.YtheinelpeapleaaMFnAlonex1
import Derived.Test.YtheinelpeapleaaMFnAlonex2
import Derived.Test.YtheinelpeapleaaMFnAlonex4
import Derived.Test.YtheinelpeapleaaMFnAlonex6
namespace Go.Proofs.Ytheinelpeapleaa.MFnAlone
open Go.RowKit Go.Proofs.YtheinelpeapleaaW.PrintWords Go.Proofs.YtheinelpeapleaaW.PrintLast Go.Proofs.YtheinelpeapleaaW.PrintMore
attribute [local go_sem] max2_int min2_int max_two min_two max_three min_three max_four min_four   -- for this text's walks alone
set_option linter.unusedVariables false
set_option linter.unusedSimpArgs false

/-! ### laws_FnAlone: function 4 -/
mutual
def laws_FnAlone.j0 : Nat → List (S36) → Int → Int → List Int → Bool → Bool → Option (Bool)
  | 0, _, _, _, _, _, _ => none
  | k + 1, x3, x4, x5, x6, x7, x55 => if x55 = true then (some false) else (if x7 = true then (laws_FnAlone.l0 k x3 x4 x5 x6 0) else (some ((x6.length : Int) == 0)))
def laws_FnAlone.l0 : Nat → List (S36) → Int → Int → List Int → Int → Option (Bool)
  | 0, _, _, _, _, _ => none
  | k + 1, x3, x4, x5, x6, x12 => if x12 < (x6.length : Int) then (if 0 ≤ x12 then (if (rd x6 x12) < 0 then (laws_FnAlone.l0 k x3 x4 x5 x6 (wrap64 (x12 + 1))) else (if (rd x6 x12) ≥ x5 then (laws_FnAlone.j2 k x3 x4 x5 x6 x12 true) else (if x12 < (x3.length : Int) then (laws_FnAlone.j2 k x3 x4 x5 x6 x12 (decide ((rd x6 x12) ≥ (((rd_T36 x3 x12).f0).length : Int)))) else (none)))) else (none)) else (some ((x6.length : Int) == (x3.length : Int)))
def laws_FnAlone.j2 : Nat → List (S36) → Int → Int → List Int → Int → Bool → Option (Bool)
  | 0, _, _, _, _, _, _ => none
  | k + 1, x3, x4, x5, x6, x12, x90 => if x90 = true then (some false) else (laws_FnAlone.l1 k x3 x4 x5 x6 x12 0)
def laws_FnAlone.l1 : Nat → List (S36) → Int → Int → List Int → Int → Int → Option (Bool)
  | 0, _, _, _, _, _, _ => none
  | k + 1, x3, x4, x5, x6, x12, x13 => if x13 < (x6.length : Int) then (if x13 = x12 then (laws_FnAlone.l1 k x3 x4 x5 x6 x12 (wrap64 (x13 + 1))) else (if 0 ≤ x13 then (if (rd x6 x13) < 0 then (if 0 ≤ x12 then (if x12 < (x6.length : Int) then (if x13 < (x3.length : Int) then (if (rd x6 x12) < (((rd_T36 x3 x13).f0).length : Int) then (if 0 ≤ (rd x6 x12) then (if x4 = 0 then (none) else (if x12 < (x3.length : Int) then (if (rd x6 x12) < (((rd_T36 x3 x12).f0).length : Int) then (if (Int.tmod (rd ((rd_T36 x3 x13).f0) (rd x6 x12)) x4) = (Int.tmod (rd ((rd_T36 x3 x12).f0) (rd x6 x12)) x4) then (some false) else (laws_FnAlone.l1 k x3 x4 x5 x6 x12 (wrap64 (x13 + 1)))) else (none)) else (none))) else (none)) else (laws_FnAlone.l1 k x3 x4 x5 x6 x12 (wrap64 (x13 + 1)))) else (none)) else (none)) else (none)) else (if 0 ≤ x12 then (if x12 < (x6.length : Int) then (if (rd x6 x13) ≥ (rd x6 x12) then (if x13 < (x3.length : Int) then (if (rd x6 x12) < (((rd_T36 x3 x13).f0).length : Int) then (if 0 ≤ (rd x6 x12) then (if x4 = 0 then (none) else (if x12 < (x3.length : Int) then (if (rd x6 x12) < (((rd_T36 x3 x12).f0).length : Int) then (if (Int.tmod (rd ((rd_T36 x3 x13).f0) (rd x6 x12)) x4) = (Int.tmod (rd ((rd_T36 x3 x12).f0) (rd x6 x12)) x4) then (some false) else (laws_FnAlone.l1 k x3 x4 x5 x6 x12 (wrap64 (x13 + 1)))) else (none)) else (none))) else (none)) else (laws_FnAlone.l1 k x3 x4 x5 x6 x12 (wrap64 (x13 + 1)))) else (none)) else (laws_FnAlone.l1 k x3 x4 x5 x6 x12 (wrap64 (x13 + 1)))) else (none)) else (none))) else (none))) else (laws_FnAlone.l0 k x3 x4 x5 x6 (wrap64 (x12 + 1)))
end
def laws_FnAlone.f (k : Nat) (l0 : List Int) : Option (Bool) := (laws_big.f l0).bind fun t288 => (if t288 = true then (some true) else ((spec_DrawContend.f k l0).bind fun bt289 => ((impl_Contend.f k bt289.1 bt289.2.1 bt289.2.2).bind fun bt294 => ((spec_Contend.f k bt289.1 bt289.2.1 bt289.2.2).bind fun bt298 => (if (bt294.2 != bt298.2) = true then (some false) else ((impl_Contend.f k (([(⟨(([1, 0] : List Int))⟩ : S36), (⟨(([1, 1] : List Int))⟩ : S36)] : List (S36))) 2 2).bind fun bt311 => (if bt311.2 = true then ((laws_sameInts.f k bt311.1 (([1, 1] : List Int))).bind fun t318 => (laws_FnAlone.j0 k bt289.1 bt289.2.1 bt289.2.2 bt294.1 bt294.2 (!t318))) else (laws_FnAlone.j0 k bt289.1 bt289.2.1 bt289.2.2 bt294.1 bt294.2 true))))))))
theorem laws_FnAlone.mono_l : ∀ k, (∀ y0 y1 y2 y3 y4 y5, LeO (laws_FnAlone.j0 k y0 y1 y2 y3 y4 y5) (laws_FnAlone.j0 (k + 1) y0 y1 y2 y3 y4 y5)) ∧ (∀ y0 y1 y2 y3 y4, LeO (laws_FnAlone.l0 k y0 y1 y2 y3 y4) (laws_FnAlone.l0 (k + 1) y0 y1 y2 y3 y4)) ∧ (∀ y0 y1 y2 y3 y4 y5, LeO (laws_FnAlone.j2 k y0 y1 y2 y3 y4 y5) (laws_FnAlone.j2 (k + 1) y0 y1 y2 y3 y4 y5)) ∧ (∀ y0 y1 y2 y3 y4 y5, LeO (laws_FnAlone.l1 k y0 y1 y2 y3 y4 y5) (laws_FnAlone.l1 (k + 1) y0 y1 y2 y3 y4 y5))
  | 0 => ⟨fun _ _ _ _ _ _ r h => by simp [laws_FnAlone.j0] at h, fun _ _ _ _ _ r h => by simp [laws_FnAlone.l0] at h, fun _ _ _ _ _ _ r h => by simp [laws_FnAlone.j2] at h, fun _ _ _ _ _ _ r h => by simp [laws_FnAlone.l1] at h⟩
  | k + 1 => by
    obtain ⟨ih0, ih1, ih2, ih3⟩ := laws_FnAlone.mono_l k
    refine ⟨?_, ?_, ?_, ?_⟩
    · intro y0 y1 y2 y3 y4 y5
      unfold laws_FnAlone.j0
      repeat' first
      | (with_reducible exact ih0 _ _ _ _ _ _)
      | (with_reducible exact ih1 _ _ _ _ _)
      | (with_reducible exact ih2 _ _ _ _ _ _)
      | (with_reducible exact ih3 _ _ _ _ _ _)
      | (with_reducible exact impl_Contend.mono _ _ _ _)
      | (with_reducible exact laws_sameInts.mono _ _ _)
      | (with_reducible exact spec_Contend.mono _ _ _ _)
      | (with_reducible exact spec_DrawContend.mono _ _)
      | (with_reducible exact LeO.refl _)
      | (with_reducible exact LeO.none _)
      | (with_reducible refine LeO.ite ?_ ?_)
      | (with_reducible refine LeO.bind ?_ (fun _ => ?_))
      | exact ih0 _ _ _ _ _ _
      | exact ih1 _ _ _ _ _
      | exact ih2 _ _ _ _ _ _
      | exact ih3 _ _ _ _ _ _
      | exact impl_Contend.mono _ _ _ _
      | exact laws_sameInts.mono _ _ _
      | exact spec_Contend.mono _ _ _ _
      | exact spec_DrawContend.mono _ _
      | exact LeO.none _
      | refine LeO.ite ?_ ?_
      | refine LeO.bind ?_ (fun _ => ?_)
    · intro y0 y1 y2 y3 y4
      unfold laws_FnAlone.l0
      repeat' first
      | (with_reducible exact ih0 _ _ _ _ _ _)
      | (with_reducible exact ih1 _ _ _ _ _)
      | (with_reducible exact ih2 _ _ _ _ _ _)
      | (with_reducible exact ih3 _ _ _ _ _ _)
      | (with_reducible exact impl_Contend.mono _ _ _ _)
      | (with_reducible exact laws_sameInts.mono _ _ _)
      | (with_reducible exact spec_Contend.mono _ _ _ _)
      | (with_reducible exact spec_DrawContend.mono _ _)
      | (with_reducible exact LeO.refl _)
      | (with_reducible exact LeO.none _)
      | (with_reducible refine LeO.ite ?_ ?_)
      | (with_reducible refine LeO.bind ?_ (fun _ => ?_))
      | exact ih0 _ _ _ _ _ _
      | exact ih1 _ _ _ _ _
      | exact ih2 _ _ _ _ _ _
      | exact ih3 _ _ _ _ _ _
      | exact impl_Contend.mono _ _ _ _
      | exact laws_sameInts.mono _ _ _
      | exact spec_Contend.mono _ _ _ _
      | exact spec_DrawContend.mono _ _
      | exact LeO.none _
      | refine LeO.ite ?_ ?_
      | refine LeO.bind ?_ (fun _ => ?_)
    · intro y0 y1 y2 y3 y4 y5
      unfold laws_FnAlone.j2
      repeat' first
      | (with_reducible exact ih0 _ _ _ _ _ _)
      | (with_reducible exact ih1 _ _ _ _ _)
      | (with_reducible exact ih2 _ _ _ _ _ _)
      | (with_reducible exact ih3 _ _ _ _ _ _)
      | (with_reducible exact impl_Contend.mono _ _ _ _)
      | (with_reducible exact laws_sameInts.mono _ _ _)
      | (with_reducible exact spec_Contend.mono _ _ _ _)
      | (with_reducible exact spec_DrawContend.mono _ _)
      | (with_reducible exact LeO.refl _)
      | (with_reducible exact LeO.none _)
      | (with_reducible refine LeO.ite ?_ ?_)
      | (with_reducible refine LeO.bind ?_ (fun _ => ?_))
      | exact ih0 _ _ _ _ _ _
      | exact ih1 _ _ _ _ _
      | exact ih2 _ _ _ _ _ _
      | exact ih3 _ _ _ _ _ _
      | exact impl_Contend.mono _ _ _ _
      | exact laws_sameInts.mono _ _ _
      | exact spec_Contend.mono _ _ _ _
      | exact spec_DrawContend.mono _ _
      | exact LeO.none _
      | refine LeO.ite ?_ ?_
      | refine LeO.bind ?_ (fun _ => ?_)
    · intro y0 y1 y2 y3 y4 y5
      unfold laws_FnAlone.l1
      repeat' first
      | (with_reducible exact ih0 _ _ _ _ _ _)
      | (with_reducible exact ih1 _ _ _ _ _)
      | (with_reducible exact ih2 _ _ _ _ _ _)
      | (with_reducible exact ih3 _ _ _ _ _ _)
      | (with_reducible exact impl_Contend.mono _ _ _ _)
      | (with_reducible exact laws_sameInts.mono _ _ _)
      | (with_reducible exact spec_Contend.mono _ _ _ _)
      | (with_reducible exact spec_DrawContend.mono _ _)
      | (with_reducible exact LeO.refl _)
      | (with_reducible exact LeO.none _)
      | (with_reducible refine LeO.ite ?_ ?_)
      | (with_reducible refine LeO.bind ?_ (fun _ => ?_))
      | exact ih0 _ _ _ _ _ _
      | exact ih1 _ _ _ _ _
      | exact ih2 _ _ _ _ _ _
      | exact ih3 _ _ _ _ _ _
      | exact impl_Contend.mono _ _ _ _
      | exact laws_sameInts.mono _ _ _
      | exact spec_Contend.mono _ _ _ _
      | exact spec_DrawContend.mono _ _
      | exact LeO.none _
      | refine LeO.ite ?_ ?_
      | refine LeO.bind ?_ (fun _ => ?_)
theorem laws_FnAlone.mono : ∀ a0 k, LeO (laws_FnAlone.f k a0) (laws_FnAlone.f (k + 1) a0) := by
  intro a0 k
  obtain ⟨ih0, ih1, ih2, ih3⟩ := laws_FnAlone.mono_l k
  unfold laws_FnAlone.f
  repeat' first
      | (with_reducible exact ih0 _ _ _ _ _ _)
      | (with_reducible exact ih1 _ _ _ _ _)
      | (with_reducible exact ih2 _ _ _ _ _ _)
      | (with_reducible exact ih3 _ _ _ _ _ _)
      | (with_reducible exact impl_Contend.mono _ _ _ _)
      | (with_reducible exact laws_sameInts.mono _ _ _)
      | (with_reducible exact spec_Contend.mono _ _ _ _)
      | (with_reducible exact spec_DrawContend.mono _ _)
      | (with_reducible exact LeO.refl _)
      | (with_reducible exact LeO.none _)
      | (with_reducible refine LeO.ite ?_ ?_)
      | (with_reducible refine LeO.bind ?_ (fun _ => ?_))
      | exact ih0 _ _ _ _ _ _
      | exact ih1 _ _ _ _ _
      | exact ih2 _ _ _ _ _ _
      | exact ih3 _ _ _ _ _ _
      | exact impl_Contend.mono _ _ _ _
      | exact laws_sameInts.mono _ _ _
      | exact spec_Contend.mono _ _ _ _
      | exact spec_DrawContend.mono _ _
      | exact LeO.none _
      | refine LeO.ite ?_ ?_
      | refine LeO.bind ?_ (fun _ => ?_)
set_option maxHeartbeats 8000000 in
set_option maxRecDepth 100000 in
theorem laws_FnAlone.calls (k : Nat) (A0 : Option Addr) (c0 : Nat) (l0 : List Int) (r : Bool) (w : World) (hr0 : Kd.C (Kd.int .u8) w A0 l0.length l0) (hc0 : l0.length ≤ c0) (h : laws_FnAlone.f k l0 = some r) :
    Calls Try.prog 4 #[.slice A0 l0.length c0] w fun e w' => e = .returned (.bool r) ∧ Below w.heap.size w w' := by
  have hu36 := Try.underlying36
  have HR0 := Aside0.mk hr0
  have HC0 := Aside0.mk hc0
  clear hr0 hc0
  have HB := Aside0.mk (Below.refl w.heap.size w)
  have H : ((laws_big.f l0).bind fun t288 => (if t288 = true then (some true) else ((spec_DrawContend.f k l0).bind fun bt289 => ((impl_Contend.f k bt289.1 bt289.2.1 bt289.2.2).bind fun bt294 => ((spec_Contend.f k bt289.1 bt289.2.1 bt289.2.2).bind fun bt298 => (if (bt294.2 != bt298.2) = true then (some false) else ((impl_Contend.f k (([(⟨(([1, 0] : List Int))⟩ : S36), (⟨(([1, 1] : List Int))⟩ : S36)] : List (S36))) 2 2).bind fun bt311 => (if bt311.2 = true then ((laws_sameInts.f k bt311.1 (([1, 1] : List Int))).bind fun t318 => (laws_FnAlone.j0 k bt289.1 bt289.2.1 bt289.2.2 bt294.1 bt294.2 (!t318))) else (laws_FnAlone.j0 k bt289.1 bt289.2.1 bt289.2.2 bt294.1 bt294.2 true))))))))) = some r := h
  clear h
  replace H := Option.bind_eq_some_iff.mp H
  obtain ⟨t288, A20, H⟩ := H
  replace H : (if t288 = true then (some true) else ((spec_DrawContend.f k l0).bind fun bt289 => ((impl_Contend.f k bt289.1 bt289.2.1 bt289.2.2).bind fun bt294 => ((spec_Contend.f k bt289.1 bt289.2.1 bt289.2.2).bind fun bt298 => (if (bt294.2 != bt298.2) = true then (some false) else ((impl_Contend.f k (([(⟨(([1, 0] : List Int))⟩ : S36), (⟨(([1, 1] : List Int))⟩ : S36)] : List (S36))) 2 2).bind fun bt311 => (if bt311.2 = true then ((laws_sameInts.f k bt311.1 (([1, 1] : List Int))).bind fun t318 => (laws_FnAlone.j0 k bt289.1 bt289.2.1 bt289.2.2 bt294.1 bt294.2 (!t318))) else (laws_FnAlone.j0 k bt289.1 bt289.2.1 bt289.2.2 bt294.1 bt294.2 true)))))))) = some r := H
  have A2 := Aside0.mk A20
  clear A20
  by_cases c3 : t288 = true
  · subst c3
    have H1 : (some true) = some r := by rw [if_pos rfl] at H; exact H
    clear H
    have H := H1
    clear H1
    obtain rfl := Option.some.inj H
    go_enter Try.func4, Try.ntmps4
    go_wp2_with (first | (go_at_call 6; (with_reducible refine (laws_big.calls _ _ l0 true _ ?side1 ?side2 A2.out).mono ?_); (case side1 => repeat (first | exact HR0.out | (with_reducible refine Kd.C_alloc ?_ _) | (with_reducible refine Kd.C_drewN ?_ _) | (with_reducible refine Kd.C_drew ?_))); (case side2 => exact HC0.out); rintro e w' ⟨rfl, ⟨nd, rfl⟩⟩; (try first | exact ⟨rfl, _, World.drewN_drewN _ _ _⟩ | exact ⟨rfl, _, Eq.trans (World.drewN_drewN _ _ _) (congrArg (World.drewN _) (Nat.add_assoc _ _ _))⟩)))
    repeat (go_quiet (first | (go_at_call 6; (with_reducible refine (laws_big.calls _ _ l0 true _ ?side1 ?side2 A2.out).mono ?_); (case side1 => repeat (first | exact HR0.out | (with_reducible refine Kd.C_alloc ?_ _) | (with_reducible refine Kd.C_drewN ?_ _) | (with_reducible refine Kd.C_drew ?_))); (case side2 => exact HC0.out); rintro e w' ⟨rfl, ⟨nd, rfl⟩⟩; (try first | exact ⟨rfl, _, World.drewN_drewN _ _ _⟩ | exact ⟨rfl, _, Eq.trans (World.drewN_drewN _ _ _) (congrArg (World.drewN _) (Nat.add_assoc _ _ _))⟩))); try go_wp2_with (first | (go_at_call 6; (with_reducible refine (laws_big.calls _ _ l0 true _ ?side1 ?side2 A2.out).mono ?_); (case side1 => repeat (first | exact HR0.out | (with_reducible refine Kd.C_alloc ?_ _) | (with_reducible refine Kd.C_drewN ?_ _) | (with_reducible refine Kd.C_drew ?_))); (case side2 => exact HC0.out); rintro e w' ⟨rfl, ⟨nd, rfl⟩⟩; (try first | exact ⟨rfl, _, World.drewN_drewN _ _ _⟩ | exact ⟨rfl, _, Eq.trans (World.drewN_drewN _ _ _) (congrArg (World.drewN _) (Nat.add_assoc _ _ _))⟩))))
    go_ret
    exact ⟨by first | rfl | (simp [errW_none, errW_some] <;> rfl) | (simp [*, errW_none, errW_some] <;> rfl), by repeat (first | (with_reducible first | exact HB.out | apply below_alloc | apply pw_below_drewN | apply below_drew1) | exact HB.out)⟩
  · replace c3 := Bool.eq_false_iff.mpr c3
    subst c3
    have H1 : ((spec_DrawContend.f k l0).bind fun bt289 => ((impl_Contend.f k bt289.1 bt289.2.1 bt289.2.2).bind fun bt294 => ((spec_Contend.f k bt289.1 bt289.2.1 bt289.2.2).bind fun bt298 => (if (bt294.2 != bt298.2) = true then (some false) else ((impl_Contend.f k (([(⟨(([1, 0] : List Int))⟩ : S36), (⟨(([1, 1] : List Int))⟩ : S36)] : List (S36))) 2 2).bind fun bt311 => (if bt311.2 = true then ((laws_sameInts.f k bt311.1 (([1, 1] : List Int))).bind fun t318 => (laws_FnAlone.j0 k bt289.1 bt289.2.1 bt289.2.2 bt294.1 bt294.2 (!t318))) else (laws_FnAlone.j0 k bt289.1 bt289.2.1 bt289.2.2 bt294.1 bt294.2 true))))))) = some r := by rw [if_neg (show ¬ (false = true) by decide)] at H; exact H
    clear H
    have H := H1
    clear H1
    replace H := Option.bind_eq_some_iff.mp H
    obtain ⟨⟨t289, t290, t291⟩, A40, H⟩ := H
    replace H : ((impl_Contend.f k t289 t290 t291).bind fun bt294 => ((spec_Contend.f k t289 t290 t291).bind fun bt298 => (if (bt294.2 != bt298.2) = true then (some false) else ((impl_Contend.f k (([(⟨(([1, 0] : List Int))⟩ : S36), (⟨(([1, 1] : List Int))⟩ : S36)] : List (S36))) 2 2).bind fun bt311 => (if bt311.2 = true then ((laws_sameInts.f k bt311.1 (([1, 1] : List Int))).bind fun t318 => (laws_FnAlone.j0 k t289 t290 t291 bt294.1 bt294.2 (!t318))) else (laws_FnAlone.j0 k t289 t290 t291 bt294.1 bt294.2 true)))))) = some r := H
    have A4 := Aside0.mk A40
    clear A40
    replace H := Option.bind_eq_some_iff.mp H
    obtain ⟨⟨t294, t295⟩, A50, H⟩ := H
    replace H : ((spec_Contend.f k t289 t290 t291).bind fun bt298 => (if (t295 != bt298.2) = true then (some false) else ((impl_Contend.f k (([(⟨(([1, 0] : List Int))⟩ : S36), (⟨(([1, 1] : List Int))⟩ : S36)] : List (S36))) 2 2).bind fun bt311 => (if bt311.2 = true then ((laws_sameInts.f k bt311.1 (([1, 1] : List Int))).bind fun t318 => (laws_FnAlone.j0 k t289 t290 t291 t294 t295 (!t318))) else (laws_FnAlone.j0 k t289 t290 t291 t294 t295 true))))) = some r := H
    have A5 := Aside0.mk A50
    clear A50
    replace H := Option.bind_eq_some_iff.mp H
    obtain ⟨⟨t298, t299⟩, A60, H⟩ := H
    replace H : (if (t295 != t299) = true then (some false) else ((impl_Contend.f k (([(⟨(([1, 0] : List Int))⟩ : S36), (⟨(([1, 1] : List Int))⟩ : S36)] : List (S36))) 2 2).bind fun bt311 => (if bt311.2 = true then ((laws_sameInts.f k bt311.1 (([1, 1] : List Int))).bind fun t318 => (laws_FnAlone.j0 k t289 t290 t291 t294 t295 (!t318))) else (laws_FnAlone.j0 k t289 t290 t291 t294 t295 true)))) = some r := H
    have A6 := Aside0.mk A60
    clear A60
    by_cases c7 : (t295 != t299) = true
    · rw [if_pos c7] at H
      have c7b0 : (t295 != t299) = true := c7
      (try (have c7b1 : decide (t295 = t299) = false := by simpa using c7))
      (try (have c7b2 : (t295 == t299) = false := by simpa using c7))
      (try (have c7b3 : ¬ (t295 = t299) := by simpa using c7))
      clear c7
      obtain rfl := Option.some.inj H
      go_enter Try.func4, Try.ntmps4
      go_wp2_with (first | (go_at_call 6; (with_reducible refine (laws_big.calls _ _ l0 false _ ?side1 ?side2 A2.out).mono ?_); (case side1 => repeat (first | exact HR0.out | (with_reducible refine Kd.C_alloc ?_ _) | (with_reducible refine Kd.C_drewN ?_ _) | (with_reducible refine Kd.C_drew ?_))); (case side2 => exact HC0.out); rintro e w' ⟨rfl, ⟨nd, rfl⟩⟩; (try first | exact ⟨rfl, _, World.drewN_drewN _ _ _⟩ | exact ⟨rfl, _, Eq.trans (World.drewN_drewN _ _ _) (congrArg (World.drewN _) (Nat.add_assoc _ _ _))⟩)) | (go_at_call 11; (with_reducible refine (spec_DrawContend.calls k _ _ l0 t289 t290 t291 _ ?side1 ?side2 A4.out).mono ?_); (case side1 => repeat (first | exact HR0.out | (with_reducible refine Kd.C_alloc ?_ _) | (with_reducible refine Kd.C_drewN ?_ _) | (with_reducible refine Kd.C_drew ?_))); (case side2 => exact HC0.out); rintro e w8 ⟨v292, rfl, ho0, hb⟩; have n0_ := Aside0.mk (Kd.N_lower (Kd.N_mono (ok' := fun k_ => True) (Kd.S_N (Kd.S_bound ho0)) (fun k_ hk_ => trivial)) (below_size (by repeat (first | (with_reducible first | exact HB.out | apply below_alloc | apply pw_below_drewN | apply below_drew1) | exact HB.out)))); have n1_ := Aside0.mk (below_step (by repeat (first | (with_reducible first | exact HB.out | apply below_alloc | apply pw_below_drewN | apply below_drew1) | exact HB.out)) hb); clear HB; have HO293 := n0_; have HB := n1_; clear n0_ n1_; (try clear hb); (try clear hb2); (try clear hk); (try clear hi); (try clear ho0); obtain ⟨Ao9, co9, eo9⟩ := Kd.N_slice HO293.out; subst eo9) | (go_at_call 12; (with_reducible refine (impl_Contend.calls k _ _ t289 t290 t291 t294 t295 _ ?side1 ?side2 A5.out).mono ?_); (case side1 => repeat (first | exact (Kd.N_reads' HO293.out).2.2 | (with_reducible refine Kd.C_alloc ?_ _) | (with_reducible refine Kd.C_drewN ?_ _) | (with_reducible refine Kd.C_drew ?_))); (case side2 => exact (Kd.N_reads' HO293.out).2.1); rintro e w10 ⟨v296, rfl, ho0, hb⟩; have n0_ := Aside0.mk (Kd.N_elder' (by (with_reducible repeat (first | apply Kd.N_alloc | apply Kd.N_drewN | apply Kd.N_drew)); exact HO293.out) (Kd.R_base ho0) hb); have n1_ := Aside0.mk (Kd.R_lower ho0 (below_size (by repeat (first | (with_reducible first | exact HB.out | apply below_alloc | apply pw_below_drewN | apply below_drew1) | exact HB.out)))); have n2_ := Aside0.mk (below_step (by repeat (first | (with_reducible first | exact HB.out | apply below_alloc | apply pw_below_drewN | apply below_drew1) | exact HB.out)) hb); clear HO293; clear HB; have HO293 := n0_; have HO297 := n1_; have HB := n2_; clear n0_ n1_ n2_; (try clear hb); (try clear hb2); (try clear hk); (try clear hi); (try clear ho0)) | (go_at_call 13; (with_reducible refine (spec_Contend.calls k _ _ t289 t290 t291 t298 t299 _ ?side1 ?side2 A6.out).mono ?_); (case side1 => repeat (first | exact (Kd.N_reads' HO293.out).2.2 | (with_reducible refine Kd.C_alloc ?_ _) | (with_reducible refine Kd.C_drewN ?_ _) | (with_reducible refine Kd.C_drew ?_))); (case side2 => exact (Kd.N_reads' HO293.out).2.1); rintro e w11 ⟨v300, rfl, ho0, hb⟩; have n0_ := Aside0.mk (Kd.N_elder' (by (with_reducible repeat (first | apply Kd.N_alloc | apply Kd.N_drewN | apply Kd.N_drew)); exact HO293.out) (Kd.R_base ho0) hb); have n1_ := Aside0.mk (Kd.R_elder' (by (with_reducible repeat (first | apply Kd.R_alloc | apply Kd.R_drewN | apply Kd.R_drew)); exact HO297.out) (Kd.R_base ho0) hb); have n2_ := Aside0.mk (Kd.R_lower (Kd.R_new' ho0 (Kd.R_lt (by (with_reducible repeat (first | apply Kd.R_alloc | apply Kd.R_drewN | apply Kd.R_drew)); exact HO297.out))) (below_size (by repeat (first | (with_reducible first | exact HB.out | apply below_alloc | apply pw_below_drewN | apply below_drew1) | exact HB.out)))); have n3_ := Aside0.mk (below_step (by repeat (first | (with_reducible first | exact HB.out | apply below_alloc | apply pw_below_drewN | apply below_drew1) | exact HB.out)) hb); clear HO293; clear HO297; clear HB; have HO293 := n0_; have HO297 := n1_; have HO301 := n2_; have HB := n3_; clear n0_ n1_ n2_ n3_; (try clear hb); (try clear hb2); (try clear hk); (try clear hi); (try clear ho0)))
      repeat (go_quiet (first | (go_at_call 6; (with_reducible refine (laws_big.calls _ _ l0 false _ ?side1 ?side2 A2.out).mono ?_); (case side1 => repeat (first | exact HR0.out | (with_reducible refine Kd.C_alloc ?_ _) | (with_reducible refine Kd.C_drewN ?_ _) | (with_reducible refine Kd.C_drew ?_))); (case side2 => exact HC0.out); rintro e w' ⟨rfl, ⟨nd, rfl⟩⟩; (try first | exact ⟨rfl, _, World.drewN_drewN _ _ _⟩ | exact ⟨rfl, _, Eq.trans (World.drewN_drewN _ _ _) (congrArg (World.drewN _) (Nat.add_assoc _ _ _))⟩)) | (go_at_call 11; (with_reducible refine (spec_DrawContend.calls k _ _ l0 t289 t290 t291 _ ?side1 ?side2 A4.out).mono ?_); (case side1 => repeat (first | exact HR0.out | (with_reducible refine Kd.C_alloc ?_ _) | (with_reducible refine Kd.C_drewN ?_ _) | (with_reducible refine Kd.C_drew ?_))); (case side2 => exact HC0.out); rintro e w8 ⟨v292, rfl, ho0, hb⟩; have n0_ := Aside0.mk (Kd.N_lower (Kd.N_mono (ok' := fun k_ => True) (Kd.S_N (Kd.S_bound ho0)) (fun k_ hk_ => trivial)) (below_size (by repeat (first | (with_reducible first | exact HB.out | apply below_alloc | apply pw_below_drewN | apply below_drew1) | exact HB.out)))); have n1_ := Aside0.mk (below_step (by repeat (first | (with_reducible first | exact HB.out | apply below_alloc | apply pw_below_drewN | apply below_drew1) | exact HB.out)) hb); clear HB; have HO293 := n0_; have HB := n1_; clear n0_ n1_; (try clear hb); (try clear hb2); (try clear hk); (try clear hi); (try clear ho0); obtain ⟨Ao9, co9, eo9⟩ := Kd.N_slice HO293.out; subst eo9) | (go_at_call 12; (with_reducible refine (impl_Contend.calls k _ _ t289 t290 t291 t294 t295 _ ?side1 ?side2 A5.out).mono ?_); (case side1 => repeat (first | exact (Kd.N_reads' HO293.out).2.2 | (with_reducible refine Kd.C_alloc ?_ _) | (with_reducible refine Kd.C_drewN ?_ _) | (with_reducible refine Kd.C_drew ?_))); (case side2 => exact (Kd.N_reads' HO293.out).2.1); rintro e w10 ⟨v296, rfl, ho0, hb⟩; have n0_ := Aside0.mk (Kd.N_elder' (by (with_reducible repeat (first | apply Kd.N_alloc | apply Kd.N_drewN | apply Kd.N_drew)); exact HO293.out) (Kd.R_base ho0) hb); have n1_ := Aside0.mk (Kd.R_lower ho0 (below_size (by repeat (first | (with_reducible first | exact HB.out | apply below_alloc | apply pw_below_drewN | apply below_drew1) | exact HB.out)))); have n2_ := Aside0.mk (below_step (by repeat (first | (with_reducible first | exact HB.out | apply below_alloc | apply pw_below_drewN | apply below_drew1) | exact HB.out)) hb); clear HO293; clear HB; have HO293 := n0_; have HO297 := n1_; have HB := n2_; clear n0_ n1_ n2_; (try clear hb); (try clear hb2); (try clear hk); (try clear hi); (try clear ho0)) | (go_at_call 13; (with_reducible refine (spec_Contend.calls k _ _ t289 t290 t291 t298 t299 _ ?side1 ?side2 A6.out).mono ?_); (case side1 => repeat (first | exact (Kd.N_reads' HO293.out).2.2 | (with_reducible refine Kd.C_alloc ?_ _) | (with_reducible refine Kd.C_drewN ?_ _) | (with_reducible refine Kd.C_drew ?_))); (case side2 => exact (Kd.N_reads' HO293.out).2.1); rintro e w11 ⟨v300, rfl, ho0, hb⟩; have n0_ := Aside0.mk (Kd.N_elder' (by (with_reducible repeat (first | apply Kd.N_alloc | apply Kd.N_drewN | apply Kd.N_drew)); exact HO293.out) (Kd.R_base ho0) hb); have n1_ := Aside0.mk (Kd.R_elder' (by (with_reducible repeat (first | apply Kd.R_alloc | apply Kd.R_drewN | apply Kd.R_drew)); exact HO297.out) (Kd.R_base ho0) hb); have n2_ := Aside0.mk (Kd.R_lower (Kd.R_new' ho0 (Kd.R_lt (by (with_reducible repeat (first | apply Kd.R_alloc | apply Kd.R_drewN | apply Kd.R_drew)); exact HO297.out))) (below_size (by repeat (first | (with_reducible first | exact HB.out | apply below_alloc | apply pw_below_drewN | apply below_drew1) | exact HB.out)))); have n3_ := Aside0.mk (below_step (by repeat (first | (with_reducible first | exact HB.out | apply below_alloc | apply pw_below_drewN | apply below_drew1) | exact HB.out)) hb); clear HO293; clear HO297; clear HB; have HO293 := n0_; have HO297 := n1_; have HO301 := n2_; have HB := n3_; clear n0_ n1_ n2_ n3_; (try clear hb); (try clear hb2); (try clear hk); (try clear hi); (try clear ho0))); try go_wp2_with (first | (go_at_call 6; (with_reducible refine (laws_big.calls _ _ l0 false _ ?side1 ?side2 A2.out).mono ?_); (case side1 => repeat (first | exact HR0.out | (with_reducible refine Kd.C_alloc ?_ _) | (with_reducible refine Kd.C_drewN ?_ _) | (with_reducible refine Kd.C_drew ?_))); (case side2 => exact HC0.out); rintro e w' ⟨rfl, ⟨nd, rfl⟩⟩; (try first | exact ⟨rfl, _, World.drewN_drewN _ _ _⟩ | exact ⟨rfl, _, Eq.trans (World.drewN_drewN _ _ _) (congrArg (World.drewN _) (Nat.add_assoc _ _ _))⟩)) | (go_at_call 11; (with_reducible refine (spec_DrawContend.calls k _ _ l0 t289 t290 t291 _ ?side1 ?side2 A4.out).mono ?_); (case side1 => repeat (first | exact HR0.out | (with_reducible refine Kd.C_alloc ?_ _) | (with_reducible refine Kd.C_drewN ?_ _) | (with_reducible refine Kd.C_drew ?_))); (case side2 => exact HC0.out); rintro e w8 ⟨v292, rfl, ho0, hb⟩; have n0_ := Aside0.mk (Kd.N_lower (Kd.N_mono (ok' := fun k_ => True) (Kd.S_N (Kd.S_bound ho0)) (fun k_ hk_ => trivial)) (below_size (by repeat (first | (with_reducible first | exact HB.out | apply below_alloc | apply pw_below_drewN | apply below_drew1) | exact HB.out)))); have n1_ := Aside0.mk (below_step (by repeat (first | (with_reducible first | exact HB.out | apply below_alloc | apply pw_below_drewN | apply below_drew1) | exact HB.out)) hb); clear HB; have HO293 := n0_; have HB := n1_; clear n0_ n1_; (try clear hb); (try clear hb2); (try clear hk); (try clear hi); (try clear ho0); obtain ⟨Ao9, co9, eo9⟩ := Kd.N_slice HO293.out; subst eo9) | (go_at_call 12; (with_reducible refine (impl_Contend.calls k _ _ t289 t290 t291 t294 t295 _ ?side1 ?side2 A5.out).mono ?_); (case side1 => repeat (first | exact (Kd.N_reads' HO293.out).2.2 | (with_reducible refine Kd.C_alloc ?_ _) | (with_reducible refine Kd.C_drewN ?_ _) | (with_reducible refine Kd.C_drew ?_))); (case side2 => exact (Kd.N_reads' HO293.out).2.1); rintro e w10 ⟨v296, rfl, ho0, hb⟩; have n0_ := Aside0.mk (Kd.N_elder' (by (with_reducible repeat (first | apply Kd.N_alloc | apply Kd.N_drewN | apply Kd.N_drew)); exact HO293.out) (Kd.R_base ho0) hb); have n1_ := Aside0.mk (Kd.R_lower ho0 (below_size (by repeat (first | (with_reducible first | exact HB.out | apply below_alloc | apply pw_below_drewN | apply below_drew1) | exact HB.out)))); have n2_ := Aside0.mk (below_step (by repeat (first | (with_reducible first | exact HB.out | apply below_alloc | apply pw_below_drewN | apply below_drew1) | exact HB.out)) hb); clear HO293; clear HB; have HO293 := n0_; have HO297 := n1_; have HB := n2_; clear n0_ n1_ n2_; (try clear hb); (try clear hb2); (try clear hk); (try clear hi); (try clear ho0)) | (go_at_call 13; (with_reducible refine (spec_Contend.calls k _ _ t289 t290 t291 t298 t299 _ ?side1 ?side2 A6.out).mono ?_); (case side1 => repeat (first | exact (Kd.N_reads' HO293.out).2.2 | (with_reducible refine Kd.C_alloc ?_ _) | (with_reducible refine Kd.C_drewN ?_ _) | (with_reducible refine Kd.C_drew ?_))); (case side2 => exact (Kd.N_reads' HO293.out).2.1); rintro e w11 ⟨v300, rfl, ho0, hb⟩; have n0_ := Aside0.mk (Kd.N_elder' (by (with_reducible repeat (first | apply Kd.N_alloc | apply Kd.N_drewN | apply Kd.N_drew)); exact HO293.out) (Kd.R_base ho0) hb); have n1_ := Aside0.mk (Kd.R_elder' (by (with_reducible repeat (first | apply Kd.R_alloc | apply Kd.R_drewN | apply Kd.R_drew)); exact HO297.out) (Kd.R_base ho0) hb); have n2_ := Aside0.mk (Kd.R_lower (Kd.R_new' ho0 (Kd.R_lt (by (with_reducible repeat (first | apply Kd.R_alloc | apply Kd.R_drewN | apply Kd.R_drew)); exact HO297.out))) (below_size (by repeat (first | (with_reducible first | exact HB.out | apply below_alloc | apply pw_below_drewN | apply below_drew1) | exact HB.out)))); have n3_ := Aside0.mk (below_step (by repeat (first | (with_reducible first | exact HB.out | apply below_alloc | apply pw_below_drewN | apply below_drew1) | exact HB.out)) hb); clear HO293; clear HO297; clear HB; have HO293 := n0_; have HO297 := n1_; have HO301 := n2_; have HB := n3_; clear n0_ n1_ n2_ n3_; (try clear hb); (try clear hb2); (try clear hk); (try clear hi); (try clear ho0))))
      go_ret
      exact ⟨by first | rfl | (simp [errW_none, errW_some] <;> rfl) | (simp [*, errW_none, errW_some] <;> rfl), by repeat (first | (with_reducible first | exact HB.out | apply below_alloc | apply pw_below_drewN | apply below_drew1) | exact HB.out)⟩
    · rw [if_neg c7] at H
      have c7b0 : (t295 != t299) = false := by simpa using c7
      (try (have c7b1 : decide (t295 = t299) = true := by simpa using c7))
      (try (have c7b2 : (t295 == t299) = true := by simpa using c7))
      clear c7
      obtain ⟨y302, hy302⟩ : ∃ y_ : List Int, y_ = (([1, 0] : List Int)) := ⟨_, rfl⟩
      replace H : ((impl_Contend.f k (([(⟨y302⟩ : S36), (⟨(([1, 1] : List Int))⟩ : S36)] : List (S36))) 2 2).bind fun bt311 => (if bt311.2 = true then ((laws_sameInts.f k bt311.1 (([1, 1] : List Int))).bind fun t318 => (laws_FnAlone.j0 k t289 t290 t291 t294 t295 (!t318))) else (laws_FnAlone.j0 k t289 t290 t291 t294 t295 true))) = some r := by first | (rw [hy302]; with_reducible exact H) | (have H2_ := (Option.bind_some _ _).symm.trans H; rw [hy302]; with_reducible exact H2_) | (have H2_ := (Option.bind_some _ _).symm.trans H; with_reducible exact H2_) | with_reducible exact H | (rw [hy302]; exact H) | exact H
      have Ny302 := Aside0.mk hy302
      clear hy302
      obtain ⟨y305, hy305⟩ : ∃ y_ : List Int, y_ = (([1, 1] : List Int)) := ⟨_, rfl⟩
      replace H : ((impl_Contend.f k (([(⟨y302⟩ : S36), (⟨y305⟩ : S36)] : List (S36))) 2 2).bind fun bt311 => (if bt311.2 = true then ((laws_sameInts.f k bt311.1 (([1, 1] : List Int))).bind fun t318 => (laws_FnAlone.j0 k t289 t290 t291 t294 t295 (!t318))) else (laws_FnAlone.j0 k t289 t290 t291 t294 t295 true))) = some r := by first | (rw [hy305]; with_reducible exact H) | (have H2_ := (Option.bind_some _ _).symm.trans H; rw [hy305]; with_reducible exact H2_) | (have H2_ := (Option.bind_some _ _).symm.trans H; with_reducible exact H2_) | with_reducible exact H | (rw [hy305]; exact H) | exact H
      have Ny305 := Aside0.mk hy305
      clear hy305
      obtain ⟨y308, hy308⟩ : ∃ y_ : List (S36), y_ = (([(⟨y302⟩ : S36), (⟨y305⟩ : S36)] : List (S36))) := ⟨_, rfl⟩
      replace H : ((impl_Contend.f k y308 2 2).bind fun bt311 => (if bt311.2 = true then ((laws_sameInts.f k bt311.1 (([1, 1] : List Int))).bind fun t318 => (laws_FnAlone.j0 k t289 t290 t291 t294 t295 (!t318))) else (laws_FnAlone.j0 k t289 t290 t291 t294 t295 true))) = some r := by first | (rw [hy308]; with_reducible exact H) | (have H2_ := (Option.bind_some _ _).symm.trans H; rw [hy308]; with_reducible exact H2_) | (have H2_ := (Option.bind_some _ _).symm.trans H; with_reducible exact H2_) | with_reducible exact H | (rw [hy308]; exact H) | exact H
      have Ny308 := Aside0.mk hy308
      clear hy308
      replace H := Option.bind_eq_some_iff.mp H
      obtain ⟨⟨t311, t312⟩, A120, H⟩ := H
      replace H : (if t312 = true then ((laws_sameInts.f k t311 (([1, 1] : List Int))).bind fun t318 => (laws_FnAlone.j0 k t289 t290 t291 t294 t295 (!t318))) else (laws_FnAlone.j0 k t289 t290 t291 t294 t295 true)) = some r := H
      have A12 := Aside0.mk A120
      clear A120
      have HC13 := Aside0.mk H
      clear H
      go_enter Try.func4, Try.ntmps4
      go_upto_region 9 with (first | (go_at_call 6; (with_reducible refine (laws_big.calls _ _ l0 false _ ?side1 ?side2 A2.out).mono ?_); (case side1 => repeat (first | exact HR0.out | (with_reducible refine Kd.C_alloc ?_ _) | (with_reducible refine Kd.C_drewN ?_ _) | (with_reducible refine Kd.C_drew ?_))); (case side2 => exact HC0.out); rintro e w' ⟨rfl, ⟨nd, rfl⟩⟩; (try first | exact ⟨rfl, _, World.drewN_drewN _ _ _⟩ | exact ⟨rfl, _, Eq.trans (World.drewN_drewN _ _ _) (congrArg (World.drewN _) (Nat.add_assoc _ _ _))⟩)) | (go_at_call 11; (with_reducible refine (spec_DrawContend.calls k _ _ l0 t289 t290 t291 _ ?side1 ?side2 A4.out).mono ?_); (case side1 => repeat (first | exact HR0.out | (with_reducible refine Kd.C_alloc ?_ _) | (with_reducible refine Kd.C_drewN ?_ _) | (with_reducible refine Kd.C_drew ?_))); (case side2 => exact HC0.out); rintro e w14 ⟨v292, rfl, ho0, hb⟩; have n0_ := Aside0.mk (Kd.N_lower (Kd.N_mono (ok' := fun k_ => True) (Kd.S_N (Kd.S_bound ho0)) (fun k_ hk_ => trivial)) (below_size (by repeat (first | (with_reducible first | exact HB.out | apply below_alloc | apply pw_below_drewN | apply below_drew1) | exact HB.out)))); have n1_ := Aside0.mk (below_step (by repeat (first | (with_reducible first | exact HB.out | apply below_alloc | apply pw_below_drewN | apply below_drew1) | exact HB.out)) hb); clear HB; have HO293 := n0_; have HB := n1_; clear n0_ n1_; (try clear hb); (try clear hb2); (try clear hk); (try clear hi); (try clear ho0); obtain ⟨Ao15, co15, eo15⟩ := Kd.N_slice HO293.out; subst eo15) | (go_at_call 12; (with_reducible refine (impl_Contend.calls k _ _ t289 t290 t291 t294 t295 _ ?side1 ?side2 A5.out).mono ?_); (case side1 => repeat (first | exact (Kd.N_reads' HO293.out).2.2 | (with_reducible refine Kd.C_alloc ?_ _) | (with_reducible refine Kd.C_drewN ?_ _) | (with_reducible refine Kd.C_drew ?_))); (case side2 => exact (Kd.N_reads' HO293.out).2.1); rintro e w16 ⟨v296, rfl, ho0, hb⟩; have n0_ := Aside0.mk (Kd.N_elder' (by (with_reducible repeat (first | apply Kd.N_alloc | apply Kd.N_drewN | apply Kd.N_drew)); exact HO293.out) (Kd.R_base ho0) hb); have n1_ := Aside0.mk (Kd.R_lower ho0 (below_size (by repeat (first | (with_reducible first | exact HB.out | apply below_alloc | apply pw_below_drewN | apply below_drew1) | exact HB.out)))); have n2_ := Aside0.mk (below_step (by repeat (first | (with_reducible first | exact HB.out | apply below_alloc | apply pw_below_drewN | apply below_drew1) | exact HB.out)) hb); clear HO293; clear HB; have HO293 := n0_; have HO297 := n1_; have HB := n2_; clear n0_ n1_ n2_; (try clear hb); (try clear hb2); (try clear hk); (try clear hi); (try clear ho0)) | (go_at_call 13; (with_reducible refine (spec_Contend.calls k _ _ t289 t290 t291 t298 t299 _ ?side1 ?side2 A6.out).mono ?_); (case side1 => repeat (first | exact (Kd.N_reads' HO293.out).2.2 | (with_reducible refine Kd.C_alloc ?_ _) | (with_reducible refine Kd.C_drewN ?_ _) | (with_reducible refine Kd.C_drew ?_))); (case side2 => exact (Kd.N_reads' HO293.out).2.1); rintro e w17 ⟨v300, rfl, ho0, hb⟩; have n0_ := Aside0.mk (Kd.N_elder' (by (with_reducible repeat (first | apply Kd.N_alloc | apply Kd.N_drewN | apply Kd.N_drew)); exact HO293.out) (Kd.R_base ho0) hb); have n1_ := Aside0.mk (Kd.R_elder' (by (with_reducible repeat (first | apply Kd.R_alloc | apply Kd.R_drewN | apply Kd.R_drew)); exact HO297.out) (Kd.R_base ho0) hb); have n2_ := Aside0.mk (Kd.R_lower (Kd.R_new' ho0 (Kd.R_lt (by (with_reducible repeat (first | apply Kd.R_alloc | apply Kd.R_drewN | apply Kd.R_drew)); exact HO297.out))) (below_size (by repeat (first | (with_reducible first | exact HB.out | apply below_alloc | apply pw_below_drewN | apply below_drew1) | exact HB.out)))); have n3_ := Aside0.mk (below_step (by repeat (first | (with_reducible first | exact HB.out | apply below_alloc | apply pw_below_drewN | apply below_drew1) | exact HB.out)) hb); clear HO293; clear HO297; clear HB; have HO293 := n0_; have HO297 := n1_; have HO301 := n2_; have HB := n3_; clear n0_ n1_ n2_ n3_; (try clear hb); (try clear hb2); (try clear hk); (try clear hi); (try clear ho0)) | ((with_reducible refine gate_dst (N := 40) rfl ?_); (try (refine gate_guard (by rfl) ?_; dsimp only)); refine Kd.R_lit (Kd.int .i64) _ 3 ?hg (N := 40) ?hd (xs := ([1, 0] : List Int)) (inner := [.int .i64 1, .int .i64 0]) (ok := fun _ => True) (okp := fun _ => True) ?hr ?hp (fun _ hk => hk) trivial (Below.refl _ _) (Nat.le_refl _) (by simp) ?_; (case hd => rfl); (case hg => rfl); (case hr => first | (go_simp; done) | (go_simp; rfl)); (case hp => exact (Reps.one (show Kd.M (Kd.int .i64) _ _ _ 1 [.int .i64 1] from rfl) (Reps.one (show Kd.M (Kd.int .i64) _ _ _ 0 [.int .i64 0] from rfl) (Reps.none _ _)))); intro v303 w18 ho19 hb hg_ hnew_; clear hg_ hnew_; (first | rw [← Ny302.out] at ho19 | (simp only [Int.reduceToNat] at ho19; rw [← Ny302.out] at ho19)); have n0_ := Aside0.mk (Kd.N_elder' (by (with_reducible repeat (first | apply Kd.N_alloc | apply Kd.N_drewN | apply Kd.N_drew)); exact HO293.out) (Kd.R_base ho19) hb); have n1_ := Aside0.mk (Kd.R_elder' (by (with_reducible repeat (first | apply Kd.R_alloc | apply Kd.R_drewN | apply Kd.R_drew)); exact HO297.out) (Kd.R_base ho19) hb); have n2_ := Aside0.mk (Kd.R_elder' (by (with_reducible repeat (first | apply Kd.R_alloc | apply Kd.R_drewN | apply Kd.R_drew)); exact HO301.out) (Kd.R_base ho19) hb); have n3_ := Aside0.mk (Kd.R_lower (Kd.R_new' (Kd.R_new' ho19 (Kd.R_lt (by (with_reducible repeat (first | apply Kd.R_alloc | apply Kd.R_drewN | apply Kd.R_drew)); exact HO297.out))) (Kd.R_lt (by (with_reducible repeat (first | apply Kd.R_alloc | apply Kd.R_drewN | apply Kd.R_drew)); exact HO301.out))) (below_size (by repeat (first | (with_reducible first | exact HB.out | apply below_alloc | apply pw_below_drewN | apply below_drew1) | exact HB.out)))); have n4_ := Aside0.mk (below_step (by repeat (first | (with_reducible first | exact HB.out | apply below_alloc | apply pw_below_drewN | apply below_drew1) | exact HB.out)) hb); clear HO293; clear HO297; clear HO301; clear HB; have HO293 := n0_; have HO297 := n1_; have HO301 := n2_; have HO304 := n3_; have HB := n4_; clear n0_ n1_ n2_ n3_ n4_; clear hb ho19; obtain ⟨Ao20, co20, eo20⟩ := Kd.R_slice HO304.out; subst eo20) | ((with_reducible refine gate_dst (N := 42) rfl ?_); (try (refine gate_guard (by rfl) ?_; dsimp only)); refine Kd.R_lit (Kd.int .i64) _ 3 ?hg (N := 42) ?hd (xs := ([1, 1] : List Int)) (inner := [.int .i64 1, .int .i64 1]) (ok := fun _ => True) (okp := fun _ => True) ?hr ?hp (fun _ hk => hk) trivial (Below.refl _ _) (Nat.le_refl _) (by simp) ?_; (case hd => rfl); (case hg => rfl); (case hr => first | (go_simp; done) | (go_simp; rfl)); (case hp => exact (Reps.one (show Kd.M (Kd.int .i64) _ _ _ 1 [.int .i64 1] from rfl) (Reps.one (show Kd.M (Kd.int .i64) _ _ _ 1 [.int .i64 1] from rfl) (Reps.none _ _)))); intro v306 w21 ho22 hb hg_ hnew_; clear hg_ hnew_; (first | rw [← Ny305.out] at ho22 | (simp only [Int.reduceToNat] at ho22; rw [← Ny305.out] at ho22)); have n0_ := Aside0.mk (Kd.N_elder' (by (with_reducible repeat (first | apply Kd.N_alloc | apply Kd.N_drewN | apply Kd.N_drew)); exact HO293.out) (Kd.R_base ho22) hb); have n1_ := Aside0.mk (Kd.R_elder' (by (with_reducible repeat (first | apply Kd.R_alloc | apply Kd.R_drewN | apply Kd.R_drew)); exact HO297.out) (Kd.R_base ho22) hb); have n2_ := Aside0.mk (Kd.R_elder' (by (with_reducible repeat (first | apply Kd.R_alloc | apply Kd.R_drewN | apply Kd.R_drew)); exact HO301.out) (Kd.R_base ho22) hb); have n3_ := Aside0.mk (Kd.R_elder' (by (with_reducible repeat (first | apply Kd.R_alloc | apply Kd.R_drewN | apply Kd.R_drew)); exact HO304.out) (Kd.R_base ho22) hb); have n4_ := Aside0.mk (Kd.R_lower (Kd.R_new' (Kd.R_new' (Kd.R_new' ho22 (Kd.R_lt (by (with_reducible repeat (first | apply Kd.R_alloc | apply Kd.R_drewN | apply Kd.R_drew)); exact HO297.out))) (Kd.R_lt (by (with_reducible repeat (first | apply Kd.R_alloc | apply Kd.R_drewN | apply Kd.R_drew)); exact HO301.out))) (Kd.R_lt (by (with_reducible repeat (first | apply Kd.R_alloc | apply Kd.R_drewN | apply Kd.R_drew)); exact HO304.out))) (below_size (by repeat (first | (with_reducible first | exact HB.out | apply below_alloc | apply pw_below_drewN | apply below_drew1) | exact HB.out)))); have n5_ := Aside0.mk (below_step (by repeat (first | (with_reducible first | exact HB.out | apply below_alloc | apply pw_below_drewN | apply below_drew1) | exact HB.out)) hb); clear HO293; clear HO297; clear HO301; clear HO304; clear HB; have HO293 := n0_; have HO297 := n1_; have HO301 := n2_; have HO304 := n3_; have HO307 := n4_; have HB := n5_; clear n0_ n1_ n2_ n3_ n4_ n5_; clear hb ho22; obtain ⟨Ao23, co23, eo23⟩ := Kd.R_slice HO307.out; subst eo23) | ((with_reducible refine gate_dst (N := 44) rfl ?_); (try (refine gate_guard (by rfl) ?_; dsimp only)); refine Kd.N_lit k36 _ 36 ?hg (N' := 44) ?hd (xs := ([(⟨y302⟩ : S36), (⟨y305⟩ : S36)] : List (S36))) (inner := [.slice Ao20 y302.length co20, .slice Ao23 y305.length co23]) (ok := (fun k_ => some k_ ≠ (.slice Ao15 t289.length co15 : Value).ownBlock ∧ some k_ ≠ (v296 : Value).ownBlock ∧ some k_ ≠ (v300 : Value).ownBlock)) (okp := (fun k_ => some k_ ≠ (.slice Ao15 t289.length co15 : Value).ownBlock ∧ some k_ ≠ (v296 : Value).ownBlock ∧ some k_ ≠ (v300 : Value).ownBlock)) ?hr ?hp (fun _ hk => hk) ((show ∀ k_, w21.heap.size ≤ k_ → (fun k_ => some k_ ≠ (.slice Ao15 t289.length co15 : Value).ownBlock ∧ some k_ ≠ (v296 : Value).ownBlock ∧ some k_ ≠ (v300 : Value).ownBlock) k_ from fun k_ hk => ⟨Kd.fresh' (Kd.N_lt (by (with_reducible repeat (first | apply Kd.N_alloc | apply Kd.N_drewN | apply Kd.N_drew)); exact HO293.out)) k_ hk, Kd.fresh' (Kd.R_lt (by (with_reducible repeat (first | apply Kd.R_alloc | apply Kd.R_drewN | apply Kd.R_drew)); exact HO297.out)) k_ hk, Kd.fresh' (Kd.R_lt (by (with_reducible repeat (first | apply Kd.R_alloc | apply Kd.R_drewN | apply Kd.R_drew)); exact HO301.out)) k_ hk⟩) _ (Nat.le_refl _)) (Below.refl _ _) (Nat.le_refl _) (by simp) ?_; (case hd => rfl); (case hg => rfl); (case hr => first | (go_simp; done) | (go_simp; rfl)); (case hp => exact (Reps.one (show Kd.FK k36 _ _ (⟨y302⟩ : S36) [.slice Ao20 y302.length co20] from (k36_mkF _ _ (⟨y302⟩ : S36) (Kd.R_reads' (Kd.R_mono (ok' := (fun k_ => some k_ ≠ (.slice Ao15 t289.length co15 : Value).ownBlock ∧ some k_ ≠ (v296 : Value).ownBlock ∧ some k_ ≠ (v300 : Value).ownBlock)) (Kd.R_apart' (HO304.out) (Kd.N_typed HO293.out) (by decide)) (fun k_ hk => ⟨hk.2, ⟨hk.1.1.1.2, hk.1.1.2⟩⟩))).2.1 (Kd.R_F (Kd.R_mono (ok' := (fun k_ => some k_ ≠ (.slice Ao15 t289.length co15 : Value).ownBlock ∧ some k_ ≠ (v296 : Value).ownBlock ∧ some k_ ≠ (v300 : Value).ownBlock)) (Kd.R_apart' (HO304.out) (Kd.N_typed HO293.out) (by decide)) (fun k_ hk => ⟨hk.2, ⟨hk.1.1.1.2, hk.1.1.2⟩⟩))))) (Reps.one (show Kd.FK k36 _ _ (⟨y305⟩ : S36) [.slice Ao23 y305.length co23] from (k36_mkF _ _ (⟨y305⟩ : S36) (Kd.R_reads' (Kd.R_mono (ok' := (fun k_ => some k_ ≠ (.slice Ao15 t289.length co15 : Value).ownBlock ∧ some k_ ≠ (v296 : Value).ownBlock ∧ some k_ ≠ (v300 : Value).ownBlock)) (Kd.R_apart' (HO307.out) (Kd.N_typed HO293.out) (by decide)) (fun k_ hk => ⟨hk.2, ⟨hk.1.1.1.2, hk.1.1.2⟩⟩))).2.1 (Kd.R_F (Kd.R_mono (ok' := (fun k_ => some k_ ≠ (.slice Ao15 t289.length co15 : Value).ownBlock ∧ some k_ ≠ (v296 : Value).ownBlock ∧ some k_ ≠ (v300 : Value).ownBlock)) (Kd.R_apart' (HO307.out) (Kd.N_typed HO293.out) (by decide)) (fun k_ hk => ⟨hk.2, ⟨hk.1.1.1.2, hk.1.1.2⟩⟩))))) (Reps.none _ _)))); intro v309 w24 ho25 hb hg_ hnew_; clear hg_ hnew_; (first | rw [← Ny308.out] at ho25 | (simp only [Int.reduceToNat] at ho25; rw [← Ny308.out] at ho25)); have n0_ := Aside0.mk (Kd.N_elder' (by (with_reducible repeat (first | apply Kd.N_alloc | apply Kd.N_drewN | apply Kd.N_drew)); exact HO293.out) (Kd.N_base ho25) hb); have n1_ := Aside0.mk (Kd.R_below (by (with_reducible repeat (first | apply Kd.R_alloc | apply Kd.R_drewN | apply Kd.R_drew)); exact HO297.out) hb); have n2_ := Aside0.mk (Kd.R_below (by (with_reducible repeat (first | apply Kd.R_alloc | apply Kd.R_drewN | apply Kd.R_drew)); exact HO301.out) hb); have n3_ := Aside0.mk (Kd.N_lower ho25 (below_size (by repeat (first | (with_reducible first | exact HB.out | apply below_alloc | apply pw_below_drewN | apply below_drew1) | exact HB.out)))); have n4_ := Aside0.mk (below_step (by repeat (first | (with_reducible first | exact HB.out | apply below_alloc | apply pw_below_drewN | apply below_drew1) | exact HB.out)) hb); clear HO293; clear HO297; clear HO301; clear HB; clear HO304; clear HO307; have HO293 := n0_; have HO297 := n1_; have HO301 := n2_; have HO310 := n3_; have HB := n4_; clear n0_ n1_ n2_ n3_ n4_; clear hb ho25; obtain ⟨Ao26, co26, eo26⟩ := Kd.N_slice HO310.out; subst eo26) | (go_at_call 12; (with_reducible refine (impl_Contend.calls k _ _ y308 2 2 t311 t312 _ ?side1 ?side2 A12.out).mono ?_); (case side1 => repeat (first | exact (Kd.N_reads' HO310.out).2.2 | (with_reducible refine Kd.C_alloc ?_ _) | (with_reducible refine Kd.C_drewN ?_ _) | (with_reducible refine Kd.C_drew ?_))); (case side2 => exact (Kd.N_reads' HO310.out).2.1); rintro e w27 ⟨v313, rfl, ho0, hb⟩; have n0_ := Aside0.mk (Kd.N_elder' (by (with_reducible repeat (first | apply Kd.N_alloc | apply Kd.N_drewN | apply Kd.N_drew)); exact HO293.out) (Kd.R_base ho0) hb); have n1_ := Aside0.mk (Kd.R_elder' (by (with_reducible repeat (first | apply Kd.R_alloc | apply Kd.R_drewN | apply Kd.R_drew)); exact HO297.out) (Kd.R_base ho0) hb); have n2_ := Aside0.mk (Kd.R_elder' (by (with_reducible repeat (first | apply Kd.R_alloc | apply Kd.R_drewN | apply Kd.R_drew)); exact HO301.out) (Kd.R_base ho0) hb); have n3_ := Aside0.mk (Kd.N_elder' (by (with_reducible repeat (first | apply Kd.N_alloc | apply Kd.N_drewN | apply Kd.N_drew)); exact HO310.out) (Kd.R_base ho0) hb); have n4_ := Aside0.mk (Kd.R_lower (Kd.R_new' (Kd.R_new' ho0 (Kd.R_lt (by (with_reducible repeat (first | apply Kd.R_alloc | apply Kd.R_drewN | apply Kd.R_drew)); exact HO297.out))) (Kd.R_lt (by (with_reducible repeat (first | apply Kd.R_alloc | apply Kd.R_drewN | apply Kd.R_drew)); exact HO301.out))) (below_size (by repeat (first | (with_reducible first | exact HB.out | apply below_alloc | apply pw_below_drewN | apply below_drew1) | exact HB.out)))); have n5_ := Aside0.mk (below_step (by repeat (first | (with_reducible first | exact HB.out | apply below_alloc | apply pw_below_drewN | apply below_drew1) | exact HB.out)) hb); clear HO293; clear HO297; clear HO301; clear HO310; clear HB; have HO293 := n0_; have HO297 := n1_; have HO301 := n2_; have HO310 := n3_; have HO314 := n4_; have HB := n5_; clear n0_ n1_ n2_ n3_ n4_ n5_; (try clear hb); (try clear hb2); (try clear hk); (try clear hi); (try clear ho0)))
      repeat (go_quiet (first | (go_at_call 6; (with_reducible refine (laws_big.calls _ _ l0 false _ ?side1 ?side2 A2.out).mono ?_); (case side1 => repeat (first | exact HR0.out | (with_reducible refine Kd.C_alloc ?_ _) | (with_reducible refine Kd.C_drewN ?_ _) | (with_reducible refine Kd.C_drew ?_))); (case side2 => exact HC0.out); rintro e w' ⟨rfl, ⟨nd, rfl⟩⟩; (try first | exact ⟨rfl, _, World.drewN_drewN _ _ _⟩ | exact ⟨rfl, _, Eq.trans (World.drewN_drewN _ _ _) (congrArg (World.drewN _) (Nat.add_assoc _ _ _))⟩)) | (go_at_call 11; (with_reducible refine (spec_DrawContend.calls k _ _ l0 t289 t290 t291 _ ?side1 ?side2 A4.out).mono ?_); (case side1 => repeat (first | exact HR0.out | (with_reducible refine Kd.C_alloc ?_ _) | (with_reducible refine Kd.C_drewN ?_ _) | (with_reducible refine Kd.C_drew ?_))); (case side2 => exact HC0.out); rintro e w14 ⟨v292, rfl, ho0, hb⟩; have n0_ := Aside0.mk (Kd.N_lower (Kd.N_mono (ok' := fun k_ => True) (Kd.S_N (Kd.S_bound ho0)) (fun k_ hk_ => trivial)) (below_size (by repeat (first | (with_reducible first | exact HB.out | apply below_alloc | apply pw_below_drewN | apply below_drew1) | exact HB.out)))); have n1_ := Aside0.mk (below_step (by repeat (first | (with_reducible first | exact HB.out | apply below_alloc | apply pw_below_drewN | apply below_drew1) | exact HB.out)) hb); clear HB; have HO293 := n0_; have HB := n1_; clear n0_ n1_; (try clear hb); (try clear hb2); (try clear hk); (try clear hi); (try clear ho0); obtain ⟨Ao15, co15, eo15⟩ := Kd.N_slice HO293.out; subst eo15) | (go_at_call 12; (with_reducible refine (impl_Contend.calls k _ _ t289 t290 t291 t294 t295 _ ?side1 ?side2 A5.out).mono ?_); (case side1 => repeat (first | exact (Kd.N_reads' HO293.out).2.2 | (with_reducible refine Kd.C_alloc ?_ _) | (with_reducible refine Kd.C_drewN ?_ _) | (with_reducible refine Kd.C_drew ?_))); (case side2 => exact (Kd.N_reads' HO293.out).2.1); rintro e w16 ⟨v296, rfl, ho0, hb⟩; have n0_ := Aside0.mk (Kd.N_elder' (by (with_reducible repeat (first | apply Kd.N_alloc | apply Kd.N_drewN | apply Kd.N_drew)); exact HO293.out) (Kd.R_base ho0) hb); have n1_ := Aside0.mk (Kd.R_lower ho0 (below_size (by repeat (first | (with_reducible first | exact HB.out | apply below_alloc | apply pw_below_drewN | apply below_drew1) | exact HB.out)))); have n2_ := Aside0.mk (below_step (by repeat (first | (with_reducible first | exact HB.out | apply below_alloc | apply pw_below_drewN | apply below_drew1) | exact HB.out)) hb); clear HO293; clear HB; have HO293 := n0_; have HO297 := n1_; have HB := n2_; clear n0_ n1_ n2_; (try clear hb); (try clear hb2); (try clear hk); (try clear hi); (try clear ho0)) | (go_at_call 13; (with_reducible refine (spec_Contend.calls k _ _ t289 t290 t291 t298 t299 _ ?side1 ?side2 A6.out).mono ?_); (case side1 => repeat (first | exact (Kd.N_reads' HO293.out).2.2 | (with_reducible refine Kd.C_alloc ?_ _) | (with_reducible refine Kd.C_drewN ?_ _) | (with_reducible refine Kd.C_drew ?_))); (case side2 => exact (Kd.N_reads' HO293.out).2.1); rintro e w17 ⟨v300, rfl, ho0, hb⟩; have n0_ := Aside0.mk (Kd.N_elder' (by (with_reducible repeat (first | apply Kd.N_alloc | apply Kd.N_drewN | apply Kd.N_drew)); exact HO293.out) (Kd.R_base ho0) hb); have n1_ := Aside0.mk (Kd.R_elder' (by (with_reducible repeat (first | apply Kd.R_alloc | apply Kd.R_drewN | apply Kd.R_drew)); exact HO297.out) (Kd.R_base ho0) hb); have n2_ := Aside0.mk (Kd.R_lower (Kd.R_new' ho0 (Kd.R_lt (by (with_reducible repeat (first | apply Kd.R_alloc | apply Kd.R_drewN | apply Kd.R_drew)); exact HO297.out))) (below_size (by repeat (first | (with_reducible first | exact HB.out | apply below_alloc | apply pw_below_drewN | apply below_drew1) | exact HB.out)))); have n3_ := Aside0.mk (below_step (by repeat (first | (with_reducible first | exact HB.out | apply below_alloc | apply pw_below_drewN | apply below_drew1) | exact HB.out)) hb); clear HO293; clear HO297; clear HB; have HO293 := n0_; have HO297 := n1_; have HO301 := n2_; have HB := n3_; clear n0_ n1_ n2_ n3_; (try clear hb); (try clear hb2); (try clear hk); (try clear hi); (try clear ho0)) | ((with_reducible refine gate_dst (N := 40) rfl ?_); (try (refine gate_guard (by rfl) ?_; dsimp only)); refine Kd.R_lit (Kd.int .i64) _ 3 ?hg (N := 40) ?hd (xs := ([1, 0] : List Int)) (inner := [.int .i64 1, .int .i64 0]) (ok := fun _ => True) (okp := fun _ => True) ?hr ?hp (fun _ hk => hk) trivial (Below.refl _ _) (Nat.le_refl _) (by simp) ?_; (case hd => rfl); (case hg => rfl); (case hr => first | (go_simp; done) | (go_simp; rfl)); (case hp => exact (Reps.one (show Kd.M (Kd.int .i64) _ _ _ 1 [.int .i64 1] from rfl) (Reps.one (show Kd.M (Kd.int .i64) _ _ _ 0 [.int .i64 0] from rfl) (Reps.none _ _)))); intro v303 w18 ho19 hb hg_ hnew_; clear hg_ hnew_; (first | rw [← Ny302.out] at ho19 | (simp only [Int.reduceToNat] at ho19; rw [← Ny302.out] at ho19)); have n0_ := Aside0.mk (Kd.N_elder' (by (with_reducible repeat (first | apply Kd.N_alloc | apply Kd.N_drewN | apply Kd.N_drew)); exact HO293.out) (Kd.R_base ho19) hb); have n1_ := Aside0.mk (Kd.R_elder' (by (with_reducible repeat (first | apply Kd.R_alloc | apply Kd.R_drewN | apply Kd.R_drew)); exact HO297.out) (Kd.R_base ho19) hb); have n2_ := Aside0.mk (Kd.R_elder' (by (with_reducible repeat (first | apply Kd.R_alloc | apply Kd.R_drewN | apply Kd.R_drew)); exact HO301.out) (Kd.R_base ho19) hb); have n3_ := Aside0.mk (Kd.R_lower (Kd.R_new' (Kd.R_new' ho19 (Kd.R_lt (by (with_reducible repeat (first | apply Kd.R_alloc | apply Kd.R_drewN | apply Kd.R_drew)); exact HO297.out))) (Kd.R_lt (by (with_reducible repeat (first | apply Kd.R_alloc | apply Kd.R_drewN | apply Kd.R_drew)); exact HO301.out))) (below_size (by repeat (first | (with_reducible first | exact HB.out | apply below_alloc | apply pw_below_drewN | apply below_drew1) | exact HB.out)))); have n4_ := Aside0.mk (below_step (by repeat (first | (with_reducible first | exact HB.out | apply below_alloc | apply pw_below_drewN | apply below_drew1) | exact HB.out)) hb); clear HO293; clear HO297; clear HO301; clear HB; have HO293 := n0_; have HO297 := n1_; have HO301 := n2_; have HO304 := n3_; have HB := n4_; clear n0_ n1_ n2_ n3_ n4_; clear hb ho19; obtain ⟨Ao20, co20, eo20⟩ := Kd.R_slice HO304.out; subst eo20) | ((with_reducible refine gate_dst (N := 42) rfl ?_); (try (refine gate_guard (by rfl) ?_; dsimp only)); refine Kd.R_lit (Kd.int .i64) _ 3 ?hg (N := 42) ?hd (xs := ([1, 1] : List Int)) (inner := [.int .i64 1, .int .i64 1]) (ok := fun _ => True) (okp := fun _ => True) ?hr ?hp (fun _ hk => hk) trivial (Below.refl _ _) (Nat.le_refl _) (by simp) ?_; (case hd => rfl); (case hg => rfl); (case hr => first | (go_simp; done) | (go_simp; rfl)); (case hp => exact (Reps.one (show Kd.M (Kd.int .i64) _ _ _ 1 [.int .i64 1] from rfl) (Reps.one (show Kd.M (Kd.int .i64) _ _ _ 1 [.int .i64 1] from rfl) (Reps.none _ _)))); intro v306 w21 ho22 hb hg_ hnew_; clear hg_ hnew_; (first | rw [← Ny305.out] at ho22 | (simp only [Int.reduceToNat] at ho22; rw [← Ny305.out] at ho22)); have n0_ := Aside0.mk (Kd.N_elder' (by (with_reducible repeat (first | apply Kd.N_alloc | apply Kd.N_drewN | apply Kd.N_drew)); exact HO293.out) (Kd.R_base ho22) hb); have n1_ := Aside0.mk (Kd.R_elder' (by (with_reducible repeat (first | apply Kd.R_alloc | apply Kd.R_drewN | apply Kd.R_drew)); exact HO297.out) (Kd.R_base ho22) hb); have n2_ := Aside0.mk (Kd.R_elder' (by (with_reducible repeat (first | apply Kd.R_alloc | apply Kd.R_drewN | apply Kd.R_drew)); exact HO301.out) (Kd.R_base ho22) hb); have n3_ := Aside0.mk (Kd.R_elder' (by (with_reducible repeat (first | apply Kd.R_alloc | apply Kd.R_drewN | apply Kd.R_drew)); exact HO304.out) (Kd.R_base ho22) hb); have n4_ := Aside0.mk (Kd.R_lower (Kd.R_new' (Kd.R_new' (Kd.R_new' ho22 (Kd.R_lt (by (with_reducible repeat (first | apply Kd.R_alloc | apply Kd.R_drewN | apply Kd.R_drew)); exact HO297.out))) (Kd.R_lt (by (with_reducible repeat (first | apply Kd.R_alloc | apply Kd.R_drewN | apply Kd.R_drew)); exact HO301.out))) (Kd.R_lt (by (with_reducible repeat (first | apply Kd.R_alloc | apply Kd.R_drewN | apply Kd.R_drew)); exact HO304.out))) (below_size (by repeat (first | (with_reducible first | exact HB.out | apply below_alloc | apply pw_below_drewN | apply below_drew1) | exact HB.out)))); have n5_ := Aside0.mk (below_step (by repeat (first | (with_reducible first | exact HB.out | apply below_alloc | apply pw_below_drewN | apply below_drew1) | exact HB.out)) hb); clear HO293; clear HO297; clear HO301; clear HO304; clear HB; have HO293 := n0_; have HO297 := n1_; have HO301 := n2_; have HO304 := n3_; have HO307 := n4_; have HB := n5_; clear n0_ n1_ n2_ n3_ n4_ n5_; clear hb ho22; obtain ⟨Ao23, co23, eo23⟩ := Kd.R_slice HO307.out; subst eo23) | ((with_reducible refine gate_dst (N := 44) rfl ?_); (try (refine gate_guard (by rfl) ?_; dsimp only)); refine Kd.N_lit k36 _ 36 ?hg (N' := 44) ?hd (xs := ([(⟨y302⟩ : S36), (⟨y305⟩ : S36)] : List (S36))) (inner := [.slice Ao20 y302.length co20, .slice Ao23 y305.length co23]) (ok := (fun k_ => some k_ ≠ (.slice Ao15 t289.length co15 : Value).ownBlock ∧ some k_ ≠ (v296 : Value).ownBlock ∧ some k_ ≠ (v300 : Value).ownBlock)) (okp := (fun k_ => some k_ ≠ (.slice Ao15 t289.length co15 : Value).ownBlock ∧ some k_ ≠ (v296 : Value).ownBlock ∧ some k_ ≠ (v300 : Value).ownBlock)) ?hr ?hp (fun _ hk => hk) ((show ∀ k_, w21.heap.size ≤ k_ → (fun k_ => some k_ ≠ (.slice Ao15 t289.length co15 : Value).ownBlock ∧ some k_ ≠ (v296 : Value).ownBlock ∧ some k_ ≠ (v300 : Value).ownBlock) k_ from fun k_ hk => ⟨Kd.fresh' (Kd.N_lt (by (with_reducible repeat (first | apply Kd.N_alloc | apply Kd.N_drewN | apply Kd.N_drew)); exact HO293.out)) k_ hk, Kd.fresh' (Kd.R_lt (by (with_reducible repeat (first | apply Kd.R_alloc | apply Kd.R_drewN | apply Kd.R_drew)); exact HO297.out)) k_ hk, Kd.fresh' (Kd.R_lt (by (with_reducible repeat (first | apply Kd.R_alloc | apply Kd.R_drewN | apply Kd.R_drew)); exact HO301.out)) k_ hk⟩) _ (Nat.le_refl _)) (Below.refl _ _) (Nat.le_refl _) (by simp) ?_; (case hd => rfl); (case hg => rfl); (case hr => first | (go_simp; done) | (go_simp; rfl)); (case hp => exact (Reps.one (show Kd.FK k36 _ _ (⟨y302⟩ : S36) [.slice Ao20 y302.length co20] from (k36_mkF _ _ (⟨y302⟩ : S36) (Kd.R_reads' (Kd.R_mono (ok' := (fun k_ => some k_ ≠ (.slice Ao15 t289.length co15 : Value).ownBlock ∧ some k_ ≠ (v296 : Value).ownBlock ∧ some k_ ≠ (v300 : Value).ownBlock)) (Kd.R_apart' (HO304.out) (Kd.N_typed HO293.out) (by decide)) (fun k_ hk => ⟨hk.2, ⟨hk.1.1.1.2, hk.1.1.2⟩⟩))).2.1 (Kd.R_F (Kd.R_mono (ok' := (fun k_ => some k_ ≠ (.slice Ao15 t289.length co15 : Value).ownBlock ∧ some k_ ≠ (v296 : Value).ownBlock ∧ some k_ ≠ (v300 : Value).ownBlock)) (Kd.R_apart' (HO304.out) (Kd.N_typed HO293.out) (by decide)) (fun k_ hk => ⟨hk.2, ⟨hk.1.1.1.2, hk.1.1.2⟩⟩))))) (Reps.one (show Kd.FK k36 _ _ (⟨y305⟩ : S36) [.slice Ao23 y305.length co23] from (k36_mkF _ _ (⟨y305⟩ : S36) (Kd.R_reads' (Kd.R_mono (ok' := (fun k_ => some k_ ≠ (.slice Ao15 t289.length co15 : Value).ownBlock ∧ some k_ ≠ (v296 : Value).ownBlock ∧ some k_ ≠ (v300 : Value).ownBlock)) (Kd.R_apart' (HO307.out) (Kd.N_typed HO293.out) (by decide)) (fun k_ hk => ⟨hk.2, ⟨hk.1.1.1.2, hk.1.1.2⟩⟩))).2.1 (Kd.R_F (Kd.R_mono (ok' := (fun k_ => some k_ ≠ (.slice Ao15 t289.length co15 : Value).ownBlock ∧ some k_ ≠ (v296 : Value).ownBlock ∧ some k_ ≠ (v300 : Value).ownBlock)) (Kd.R_apart' (HO307.out) (Kd.N_typed HO293.out) (by decide)) (fun k_ hk => ⟨hk.2, ⟨hk.1.1.1.2, hk.1.1.2⟩⟩))))) (Reps.none _ _)))); intro v309 w24 ho25 hb hg_ hnew_; clear hg_ hnew_; (first | rw [← Ny308.out] at ho25 | (simp only [Int.reduceToNat] at ho25; rw [← Ny308.out] at ho25)); have n0_ := Aside0.mk (Kd.N_elder' (by (with_reducible repeat (first | apply Kd.N_alloc | apply Kd.N_drewN | apply Kd.N_drew)); exact HO293.out) (Kd.N_base ho25) hb); have n1_ := Aside0.mk (Kd.R_below (by (with_reducible repeat (first | apply Kd.R_alloc | apply Kd.R_drewN | apply Kd.R_drew)); exact HO297.out) hb); have n2_ := Aside0.mk (Kd.R_below (by (with_reducible repeat (first | apply Kd.R_alloc | apply Kd.R_drewN | apply Kd.R_drew)); exact HO301.out) hb); have n3_ := Aside0.mk (Kd.N_lower ho25 (below_size (by repeat (first | (with_reducible first | exact HB.out | apply below_alloc | apply pw_below_drewN | apply below_drew1) | exact HB.out)))); have n4_ := Aside0.mk (below_step (by repeat (first | (with_reducible first | exact HB.out | apply below_alloc | apply pw_below_drewN | apply below_drew1) | exact HB.out)) hb); clear HO293; clear HO297; clear HO301; clear HB; clear HO304; clear HO307; have HO293 := n0_; have HO297 := n1_; have HO301 := n2_; have HO310 := n3_; have HB := n4_; clear n0_ n1_ n2_ n3_ n4_; clear hb ho25; obtain ⟨Ao26, co26, eo26⟩ := Kd.N_slice HO310.out; subst eo26) | (go_at_call 12; (with_reducible refine (impl_Contend.calls k _ _ y308 2 2 t311 t312 _ ?side1 ?side2 A12.out).mono ?_); (case side1 => repeat (first | exact (Kd.N_reads' HO310.out).2.2 | (with_reducible refine Kd.C_alloc ?_ _) | (with_reducible refine Kd.C_drewN ?_ _) | (with_reducible refine Kd.C_drew ?_))); (case side2 => exact (Kd.N_reads' HO310.out).2.1); rintro e w27 ⟨v313, rfl, ho0, hb⟩; have n0_ := Aside0.mk (Kd.N_elder' (by (with_reducible repeat (first | apply Kd.N_alloc | apply Kd.N_drewN | apply Kd.N_drew)); exact HO293.out) (Kd.R_base ho0) hb); have n1_ := Aside0.mk (Kd.R_elder' (by (with_reducible repeat (first | apply Kd.R_alloc | apply Kd.R_drewN | apply Kd.R_drew)); exact HO297.out) (Kd.R_base ho0) hb); have n2_ := Aside0.mk (Kd.R_elder' (by (with_reducible repeat (first | apply Kd.R_alloc | apply Kd.R_drewN | apply Kd.R_drew)); exact HO301.out) (Kd.R_base ho0) hb); have n3_ := Aside0.mk (Kd.N_elder' (by (with_reducible repeat (first | apply Kd.N_alloc | apply Kd.N_drewN | apply Kd.N_drew)); exact HO310.out) (Kd.R_base ho0) hb); have n4_ := Aside0.mk (Kd.R_lower (Kd.R_new' (Kd.R_new' ho0 (Kd.R_lt (by (with_reducible repeat (first | apply Kd.R_alloc | apply Kd.R_drewN | apply Kd.R_drew)); exact HO297.out))) (Kd.R_lt (by (with_reducible repeat (first | apply Kd.R_alloc | apply Kd.R_drewN | apply Kd.R_drew)); exact HO301.out))) (below_size (by repeat (first | (with_reducible first | exact HB.out | apply below_alloc | apply pw_below_drewN | apply below_drew1) | exact HB.out)))); have n5_ := Aside0.mk (below_step (by repeat (first | (with_reducible first | exact HB.out | apply below_alloc | apply pw_below_drewN | apply below_drew1) | exact HB.out)) hb); clear HO293; clear HO297; clear HO301; clear HO310; clear HB; have HO293 := n0_; have HO297 := n1_; have HO301 := n2_; have HO310 := n3_; have HO314 := n4_; have HB := n5_; clear n0_ n1_ n2_ n3_ n4_ n5_; (try clear hb); (try clear hb2); (try clear hk); (try clear hi); (try clear ho0))); go_upto_region 9 with (first | (go_at_call 6; (with_reducible refine (laws_big.calls _ _ l0 false _ ?side1 ?side2 A2.out).mono ?_); (case side1 => repeat (first | exact HR0.out | (with_reducible refine Kd.C_alloc ?_ _) | (with_reducible refine Kd.C_drewN ?_ _) | (with_reducible refine Kd.C_drew ?_))); (case side2 => exact HC0.out); rintro e w' ⟨rfl, ⟨nd, rfl⟩⟩; (try first | exact ⟨rfl, _, World.drewN_drewN _ _ _⟩ | exact ⟨rfl, _, Eq.trans (World.drewN_drewN _ _ _) (congrArg (World.drewN _) (Nat.add_assoc _ _ _))⟩)) | (go_at_call 11; (with_reducible refine (spec_DrawContend.calls k _ _ l0 t289 t290 t291 _ ?side1 ?side2 A4.out).mono ?_); (case side1 => repeat (first | exact HR0.out | (with_reducible refine Kd.C_alloc ?_ _) | (with_reducible refine Kd.C_drewN ?_ _) | (with_reducible refine Kd.C_drew ?_))); (case side2 => exact HC0.out); rintro e w14 ⟨v292, rfl, ho0, hb⟩; have n0_ := Aside0.mk (Kd.N_lower (Kd.N_mono (ok' := fun k_ => True) (Kd.S_N (Kd.S_bound ho0)) (fun k_ hk_ => trivial)) (below_size (by repeat (first | (with_reducible first | exact HB.out | apply below_alloc | apply pw_below_drewN | apply below_drew1) | exact HB.out)))); have n1_ := Aside0.mk (below_step (by repeat (first | (with_reducible first | exact HB.out | apply below_alloc | apply pw_below_drewN | apply below_drew1) | exact HB.out)) hb); clear HB; have HO293 := n0_; have HB := n1_; clear n0_ n1_; (try clear hb); (try clear hb2); (try clear hk); (try clear hi); (try clear ho0); obtain ⟨Ao15, co15, eo15⟩ := Kd.N_slice HO293.out; subst eo15) | (go_at_call 12; (with_reducible refine (impl_Contend.calls k _ _ t289 t290 t291 t294 t295 _ ?side1 ?side2 A5.out).mono ?_); (case side1 => repeat (first | exact (Kd.N_reads' HO293.out).2.2 | (with_reducible refine Kd.C_alloc ?_ _) | (with_reducible refine Kd.C_drewN ?_ _) | (with_reducible refine Kd.C_drew ?_))); (case side2 => exact (Kd.N_reads' HO293.out).2.1); rintro e w16 ⟨v296, rfl, ho0, hb⟩; have n0_ := Aside0.mk (Kd.N_elder' (by (with_reducible repeat (first | apply Kd.N_alloc | apply Kd.N_drewN | apply Kd.N_drew)); exact HO293.out) (Kd.R_base ho0) hb); have n1_ := Aside0.mk (Kd.R_lower ho0 (below_size (by repeat (first | (with_reducible first | exact HB.out | apply below_alloc | apply pw_below_drewN | apply below_drew1) | exact HB.out)))); have n2_ := Aside0.mk (below_step (by repeat (first | (with_reducible first | exact HB.out | apply below_alloc | apply pw_below_drewN | apply below_drew1) | exact HB.out)) hb); clear HO293; clear HB; have HO293 := n0_; have HO297 := n1_; have HB := n2_; clear n0_ n1_ n2_; (try clear hb); (try clear hb2); (try clear hk); (try clear hi); (try clear ho0)) | (go_at_call 13; (with_reducible refine (spec_Contend.calls k _ _ t289 t290 t291 t298 t299 _ ?side1 ?side2 A6.out).mono ?_); (case side1 => repeat (first | exact (Kd.N_reads' HO293.out).2.2 | (with_reducible refine Kd.C_alloc ?_ _) | (with_reducible refine Kd.C_drewN ?_ _) | (with_reducible refine Kd.C_drew ?_))); (case side2 => exact (Kd.N_reads' HO293.out).2.1); rintro e w17 ⟨v300, rfl, ho0, hb⟩; have n0_ := Aside0.mk (Kd.N_elder' (by (with_reducible repeat (first | apply Kd.N_alloc | apply Kd.N_drewN | apply Kd.N_drew)); exact HO293.out) (Kd.R_base ho0) hb); have n1_ := Aside0.mk (Kd.R_elder' (by (with_reducible repeat (first | apply Kd.R_alloc | apply Kd.R_drewN | apply Kd.R_drew)); exact HO297.out) (Kd.R_base ho0) hb); have n2_ := Aside0.mk (Kd.R_lower (Kd.R_new' ho0 (Kd.R_lt (by (with_reducible repeat (first | apply Kd.R_alloc | apply Kd.R_drewN | apply Kd.R_drew)); exact HO297.out))) (below_size (by repeat (first | (with_reducible first | exact HB.out | apply below_alloc | apply pw_below_drewN | apply below_drew1) | exact HB.out)))); have n3_ := Aside0.mk (below_step (by repeat (first | (with_reducible first | exact HB.out | apply below_alloc | apply pw_below_drewN | apply below_drew1) | exact HB.out)) hb); clear HO293; clear HO297; clear HB; have HO293 := n0_; have HO297 := n1_; have HO301 := n2_; have HB := n3_; clear n0_ n1_ n2_ n3_; (try clear hb); (try clear hb2); (try clear hk); (try clear hi); (try clear ho0)) | ((with_reducible refine gate_dst (N := 40) rfl ?_); (try (refine gate_guard (by rfl) ?_; dsimp only)); refine Kd.R_lit (Kd.int .i64) _ 3 ?hg (N := 40) ?hd (xs := ([1, 0] : List Int)) (inner := [.int .i64 1, .int .i64 0]) (ok := fun _ => True) (okp := fun _ => True) ?hr ?hp (fun _ hk => hk) trivial (Below.refl _ _) (Nat.le_refl _) (by simp) ?_; (case hd => rfl); (case hg => rfl); (case hr => first | (go_simp; done) | (go_simp; rfl)); (case hp => exact (Reps.one (show Kd.M (Kd.int .i64) _ _ _ 1 [.int .i64 1] from rfl) (Reps.one (show Kd.M (Kd.int .i64) _ _ _ 0 [.int .i64 0] from rfl) (Reps.none _ _)))); intro v303 w18 ho19 hb hg_ hnew_; clear hg_ hnew_; (first | rw [← Ny302.out] at ho19 | (simp only [Int.reduceToNat] at ho19; rw [← Ny302.out] at ho19)); have n0_ := Aside0.mk (Kd.N_elder' (by (with_reducible repeat (first | apply Kd.N_alloc | apply Kd.N_drewN | apply Kd.N_drew)); exact HO293.out) (Kd.R_base ho19) hb); have n1_ := Aside0.mk (Kd.R_elder' (by (with_reducible repeat (first | apply Kd.R_alloc | apply Kd.R_drewN | apply Kd.R_drew)); exact HO297.out) (Kd.R_base ho19) hb); have n2_ := Aside0.mk (Kd.R_elder' (by (with_reducible repeat (first | apply Kd.R_alloc | apply Kd.R_drewN | apply Kd.R_drew)); exact HO301.out) (Kd.R_base ho19) hb); have n3_ := Aside0.mk (Kd.R_lower (Kd.R_new' (Kd.R_new' ho19 (Kd.R_lt (by (with_reducible repeat (first | apply Kd.R_alloc | apply Kd.R_drewN | apply Kd.R_drew)); exact HO297.out))) (Kd.R_lt (by (with_reducible repeat (first | apply Kd.R_alloc | apply Kd.R_drewN | apply Kd.R_drew)); exact HO301.out))) (below_size (by repeat (first | (with_reducible first | exact HB.out | apply below_alloc | apply pw_below_drewN | apply below_drew1) | exact HB.out)))); have n4_ := Aside0.mk (below_step (by repeat (first | (with_reducible first | exact HB.out | apply below_alloc | apply pw_below_drewN | apply below_drew1) | exact HB.out)) hb); clear HO293; clear HO297; clear HO301; clear HB; have HO293 := n0_; have HO297 := n1_; have HO301 := n2_; have HO304 := n3_; have HB := n4_; clear n0_ n1_ n2_ n3_ n4_; clear hb ho19; obtain ⟨Ao20, co20, eo20⟩ := Kd.R_slice HO304.out; subst eo20) | ((with_reducible refine gate_dst (N := 42) rfl ?_); (try (refine gate_guard (by rfl) ?_; dsimp only)); refine Kd.R_lit (Kd.int .i64) _ 3 ?hg (N := 42) ?hd (xs := ([1, 1] : List Int)) (inner := [.int .i64 1, .int .i64 1]) (ok := fun _ => True) (okp := fun _ => True) ?hr ?hp (fun _ hk => hk) trivial (Below.refl _ _) (Nat.le_refl _) (by simp) ?_; (case hd => rfl); (case hg => rfl); (case hr => first | (go_simp; done) | (go_simp; rfl)); (case hp => exact (Reps.one (show Kd.M (Kd.int .i64) _ _ _ 1 [.int .i64 1] from rfl) (Reps.one (show Kd.M (Kd.int .i64) _ _ _ 1 [.int .i64 1] from rfl) (Reps.none _ _)))); intro v306 w21 ho22 hb hg_ hnew_; clear hg_ hnew_; (first | rw [← Ny305.out] at ho22 | (simp only [Int.reduceToNat] at ho22; rw [← Ny305.out] at ho22)); have n0_ := Aside0.mk (Kd.N_elder' (by (with_reducible repeat (first | apply Kd.N_alloc | apply Kd.N_drewN | apply Kd.N_drew)); exact HO293.out) (Kd.R_base ho22) hb); have n1_ := Aside0.mk (Kd.R_elder' (by (with_reducible repeat (first | apply Kd.R_alloc | apply Kd.R_drewN | apply Kd.R_drew)); exact HO297.out) (Kd.R_base ho22) hb); have n2_ := Aside0.mk (Kd.R_elder' (by (with_reducible repeat (first | apply Kd.R_alloc | apply Kd.R_drewN | apply Kd.R_drew)); exact HO301.out) (Kd.R_base ho22) hb); have n3_ := Aside0.mk (Kd.R_elder' (by (with_reducible repeat (first | apply Kd.R_alloc | apply Kd.R_drewN | apply Kd.R_drew)); exact HO304.out) (Kd.R_base ho22) hb); have n4_ := Aside0.mk (Kd.R_lower (Kd.R_new' (Kd.R_new' (Kd.R_new' ho22 (Kd.R_lt (by (with_reducible repeat (first | apply Kd.R_alloc | apply Kd.R_drewN | apply Kd.R_drew)); exact HO297.out))) (Kd.R_lt (by (with_reducible repeat (first | apply Kd.R_alloc | apply Kd.R_drewN | apply Kd.R_drew)); exact HO301.out))) (Kd.R_lt (by (with_reducible repeat (first | apply Kd.R_alloc | apply Kd.R_drewN | apply Kd.R_drew)); exact HO304.out))) (below_size (by repeat (first | (with_reducible first | exact HB.out | apply below_alloc | apply pw_below_drewN | apply below_drew1) | exact HB.out)))); have n5_ := Aside0.mk (below_step (by repeat (first | (with_reducible first | exact HB.out | apply below_alloc | apply pw_below_drewN | apply below_drew1) | exact HB.out)) hb); clear HO293; clear HO297; clear HO301; clear HO304; clear HB; have HO293 := n0_; have HO297 := n1_; have HO301 := n2_; have HO304 := n3_; have HO307 := n4_; have HB := n5_; clear n0_ n1_ n2_ n3_ n4_ n5_; clear hb ho22; obtain ⟨Ao23, co23, eo23⟩ := Kd.R_slice HO307.out; subst eo23) | ((with_reducible refine gate_dst (N := 44) rfl ?_); (try (refine gate_guard (by rfl) ?_; dsimp only)); refine Kd.N_lit k36 _ 36 ?hg (N' := 44) ?hd (xs := ([(⟨y302⟩ : S36), (⟨y305⟩ : S36)] : List (S36))) (inner := [.slice Ao20 y302.length co20, .slice Ao23 y305.length co23]) (ok := (fun k_ => some k_ ≠ (.slice Ao15 t289.length co15 : Value).ownBlock ∧ some k_ ≠ (v296 : Value).ownBlock ∧ some k_ ≠ (v300 : Value).ownBlock)) (okp := (fun k_ => some k_ ≠ (.slice Ao15 t289.length co15 : Value).ownBlock ∧ some k_ ≠ (v296 : Value).ownBlock ∧ some k_ ≠ (v300 : Value).ownBlock)) ?hr ?hp (fun _ hk => hk) ((show ∀ k_, w21.heap.size ≤ k_ → (fun k_ => some k_ ≠ (.slice Ao15 t289.length co15 : Value).ownBlock ∧ some k_ ≠ (v296 : Value).ownBlock ∧ some k_ ≠ (v300 : Value).ownBlock) k_ from fun k_ hk => ⟨Kd.fresh' (Kd.N_lt (by (with_reducible repeat (first | apply Kd.N_alloc | apply Kd.N_drewN | apply Kd.N_drew)); exact HO293.out)) k_ hk, Kd.fresh' (Kd.R_lt (by (with_reducible repeat (first | apply Kd.R_alloc | apply Kd.R_drewN | apply Kd.R_drew)); exact HO297.out)) k_ hk, Kd.fresh' (Kd.R_lt (by (with_reducible repeat (first | apply Kd.R_alloc | apply Kd.R_drewN | apply Kd.R_drew)); exact HO301.out)) k_ hk⟩) _ (Nat.le_refl _)) (Below.refl _ _) (Nat.le_refl _) (by simp) ?_; (case hd => rfl); (case hg => rfl); (case hr => first | (go_simp; done) | (go_simp; rfl)); (case hp => exact (Reps.one (show Kd.FK k36 _ _ (⟨y302⟩ : S36) [.slice Ao20 y302.length co20] from (k36_mkF _ _ (⟨y302⟩ : S36) (Kd.R_reads' (Kd.R_mono (ok' := (fun k_ => some k_ ≠ (.slice Ao15 t289.length co15 : Value).ownBlock ∧ some k_ ≠ (v296 : Value).ownBlock ∧ some k_ ≠ (v300 : Value).ownBlock)) (Kd.R_apart' (HO304.out) (Kd.N_typed HO293.out) (by decide)) (fun k_ hk => ⟨hk.2, ⟨hk.1.1.1.2, hk.1.1.2⟩⟩))).2.1 (Kd.R_F (Kd.R_mono (ok' := (fun k_ => some k_ ≠ (.slice Ao15 t289.length co15 : Value).ownBlock ∧ some k_ ≠ (v296 : Value).ownBlock ∧ some k_ ≠ (v300 : Value).ownBlock)) (Kd.R_apart' (HO304.out) (Kd.N_typed HO293.out) (by decide)) (fun k_ hk => ⟨hk.2, ⟨hk.1.1.1.2, hk.1.1.2⟩⟩))))) (Reps.one (show Kd.FK k36 _ _ (⟨y305⟩ : S36) [.slice Ao23 y305.length co23] from (k36_mkF _ _ (⟨y305⟩ : S36) (Kd.R_reads' (Kd.R_mono (ok' := (fun k_ => some k_ ≠ (.slice Ao15 t289.length co15 : Value).ownBlock ∧ some k_ ≠ (v296 : Value).ownBlock ∧ some k_ ≠ (v300 : Value).ownBlock)) (Kd.R_apart' (HO307.out) (Kd.N_typed HO293.out) (by decide)) (fun k_ hk => ⟨hk.2, ⟨hk.1.1.1.2, hk.1.1.2⟩⟩))).2.1 (Kd.R_F (Kd.R_mono (ok' := (fun k_ => some k_ ≠ (.slice Ao15 t289.length co15 : Value).ownBlock ∧ some k_ ≠ (v296 : Value).ownBlock ∧ some k_ ≠ (v300 : Value).ownBlock)) (Kd.R_apart' (HO307.out) (Kd.N_typed HO293.out) (by decide)) (fun k_ hk => ⟨hk.2, ⟨hk.1.1.1.2, hk.1.1.2⟩⟩))))) (Reps.none _ _)))); intro v309 w24 ho25 hb hg_ hnew_; clear hg_ hnew_; (first | rw [← Ny308.out] at ho25 | (simp only [Int.reduceToNat] at ho25; rw [← Ny308.out] at ho25)); have n0_ := Aside0.mk (Kd.N_elder' (by (with_reducible repeat (first | apply Kd.N_alloc | apply Kd.N_drewN | apply Kd.N_drew)); exact HO293.out) (Kd.N_base ho25) hb); have n1_ := Aside0.mk (Kd.R_below (by (with_reducible repeat (first | apply Kd.R_alloc | apply Kd.R_drewN | apply Kd.R_drew)); exact HO297.out) hb); have n2_ := Aside0.mk (Kd.R_below (by (with_reducible repeat (first | apply Kd.R_alloc | apply Kd.R_drewN | apply Kd.R_drew)); exact HO301.out) hb); have n3_ := Aside0.mk (Kd.N_lower ho25 (below_size (by repeat (first | (with_reducible first | exact HB.out | apply below_alloc | apply pw_below_drewN | apply below_drew1) | exact HB.out)))); have n4_ := Aside0.mk (below_step (by repeat (first | (with_reducible first | exact HB.out | apply below_alloc | apply pw_below_drewN | apply below_drew1) | exact HB.out)) hb); clear HO293; clear HO297; clear HO301; clear HB; clear HO304; clear HO307; have HO293 := n0_; have HO297 := n1_; have HO301 := n2_; have HO310 := n3_; have HB := n4_; clear n0_ n1_ n2_ n3_ n4_; clear hb ho25; obtain ⟨Ao26, co26, eo26⟩ := Kd.N_slice HO310.out; subst eo26) | (go_at_call 12; (with_reducible refine (impl_Contend.calls k _ _ y308 2 2 t311 t312 _ ?side1 ?side2 A12.out).mono ?_); (case side1 => repeat (first | exact (Kd.N_reads' HO310.out).2.2 | (with_reducible refine Kd.C_alloc ?_ _) | (with_reducible refine Kd.C_drewN ?_ _) | (with_reducible refine Kd.C_drew ?_))); (case side2 => exact (Kd.N_reads' HO310.out).2.1); rintro e w27 ⟨v313, rfl, ho0, hb⟩; have n0_ := Aside0.mk (Kd.N_elder' (by (with_reducible repeat (first | apply Kd.N_alloc | apply Kd.N_drewN | apply Kd.N_drew)); exact HO293.out) (Kd.R_base ho0) hb); have n1_ := Aside0.mk (Kd.R_elder' (by (with_reducible repeat (first | apply Kd.R_alloc | apply Kd.R_drewN | apply Kd.R_drew)); exact HO297.out) (Kd.R_base ho0) hb); have n2_ := Aside0.mk (Kd.R_elder' (by (with_reducible repeat (first | apply Kd.R_alloc | apply Kd.R_drewN | apply Kd.R_drew)); exact HO301.out) (Kd.R_base ho0) hb); have n3_ := Aside0.mk (Kd.N_elder' (by (with_reducible repeat (first | apply Kd.N_alloc | apply Kd.N_drewN | apply Kd.N_drew)); exact HO310.out) (Kd.R_base ho0) hb); have n4_ := Aside0.mk (Kd.R_lower (Kd.R_new' (Kd.R_new' ho0 (Kd.R_lt (by (with_reducible repeat (first | apply Kd.R_alloc | apply Kd.R_drewN | apply Kd.R_drew)); exact HO297.out))) (Kd.R_lt (by (with_reducible repeat (first | apply Kd.R_alloc | apply Kd.R_drewN | apply Kd.R_drew)); exact HO301.out))) (below_size (by repeat (first | (with_reducible first | exact HB.out | apply below_alloc | apply pw_below_drewN | apply below_drew1) | exact HB.out)))); have n5_ := Aside0.mk (below_step (by repeat (first | (with_reducible first | exact HB.out | apply below_alloc | apply pw_below_drewN | apply below_drew1) | exact HB.out)) hb); clear HO293; clear HO297; clear HO301; clear HO310; clear HB; have HO293 := n0_; have HO297 := n1_; have HO301 := n2_; have HO310 := n3_; have HO314 := n4_; have HB := n5_; clear n0_ n1_ n2_ n3_ n4_ n5_; (try clear hb); (try clear hb2); (try clear hk); (try clear hi); (try clear ho0))))
      (try simp only [Act.put, List.setIfInBounds_toArray, List.set_cons_zero, List.set_cons_succ])
      go_cut [55] (fun v55 wc => ∃ (kq : Nat) (x55_12 : Bool), v55 = .bool x55_12 ∧ Aside0 (laws_FnAlone.j0 kq t289 t290 t291 t294 t295 x55_12 = some r) ∧ Aside0 (kq ≤ k) ∧ Aside0 (Kd.N k36 36 wc w.heap.size (fun k_ => some k_ ≠ (v296 : Value).ownBlock) (.slice Ao15 t289.length co15) t289) ∧ Aside0 (Kd.R (Kd.int .i64) 3 wc w.heap.size (fun _ => True) v296 t294) ∧ Aside0 (Below w.heap.size w wc))
      case first =>
        have H := HC13.out
        clear HC13
        by_cases c28 : t312 = true
        · subst c28
          have H1 : ((laws_sameInts.f k t311 (([1, 1] : List Int))).bind fun t318 => (laws_FnAlone.j0 k t289 t290 t291 t294 t295 (!t318))) = some r := by rw [if_pos rfl] at H; exact H
          clear H
          have H := H1
          clear H1
          obtain ⟨y315, hy315⟩ : ∃ y_ : List Int, y_ = (([1, 1] : List Int)) := ⟨_, rfl⟩
          replace H : ((laws_sameInts.f k t311 y315).bind fun t318 => (laws_FnAlone.j0 k t289 t290 t291 t294 t295 (!t318))) = some r := by first | (rw [hy315]; with_reducible exact H) | (have H2_ := (Option.bind_some _ _).symm.trans H; rw [hy315]; with_reducible exact H2_) | (have H2_ := (Option.bind_some _ _).symm.trans H; with_reducible exact H2_) | with_reducible exact H | (rw [hy315]; exact H) | exact H
          have Ny315 := Aside0.mk hy315
          clear hy315
          replace H := Option.bind_eq_some_iff.mp H
          obtain ⟨t318, A290, H⟩ := H
          replace H : (laws_FnAlone.j0 k t289 t290 t291 t294 t295 (!t318)) = some r := H
          have A29 := Aside0.mk A290
          clear A290
          have H' := Aside0.mk H
          clear H
          go_wp2_with (first | ((with_reducible refine gate_dst (N := 52) rfl ?_); (try (refine gate_guard (by rfl) ?_; dsimp only)); refine Kd.R_lit (Kd.int .i64) _ 3 ?hg (N := 52) ?hd (xs := ([1, 1] : List Int)) (inner := [.int .i64 1, .int .i64 1]) (ok := fun _ => True) (okp := fun _ => True) ?hr ?hp (fun _ hk => hk) trivial (Below.refl _ _) (Nat.le_refl _) (by simp) ?_; (case hd => rfl); (case hg => rfl); (case hr => first | (go_simp; done) | (go_simp; rfl)); (case hp => exact (Reps.one (show Kd.M (Kd.int .i64) _ _ _ 1 [.int .i64 1] from rfl) (Reps.one (show Kd.M (Kd.int .i64) _ _ _ 1 [.int .i64 1] from rfl) (Reps.none _ _)))); intro v316 w30 ho31 hb hg_ hnew_; clear hg_ hnew_; (first | rw [← Ny315.out] at ho31 | (simp only [Int.reduceToNat] at ho31; rw [← Ny315.out] at ho31)); have n0_ := Aside0.mk (Kd.N_elder' (by (with_reducible repeat (first | apply Kd.N_alloc | apply Kd.N_drewN | apply Kd.N_drew)); exact HO293.out) (Kd.R_base ho31) hb); have n1_ := Aside0.mk (Kd.R_elder' (by (with_reducible repeat (first | apply Kd.R_alloc | apply Kd.R_drewN | apply Kd.R_drew)); exact HO297.out) (Kd.R_base ho31) hb); have n2_ := Aside0.mk (Kd.R_elder' (by (with_reducible repeat (first | apply Kd.R_alloc | apply Kd.R_drewN | apply Kd.R_drew)); exact HO301.out) (Kd.R_base ho31) hb); have n3_ := Aside0.mk (Kd.N_elder' (by (with_reducible repeat (first | apply Kd.N_alloc | apply Kd.N_drewN | apply Kd.N_drew)); exact HO310.out) (Kd.R_base ho31) hb); have n4_ := Aside0.mk (Kd.R_elder' (by (with_reducible repeat (first | apply Kd.R_alloc | apply Kd.R_drewN | apply Kd.R_drew)); exact HO314.out) (Kd.R_base ho31) hb); have n5_ := Aside0.mk (Kd.R_lower (Kd.R_new' (Kd.R_new' (Kd.R_new' ho31 (Kd.R_lt (by (with_reducible repeat (first | apply Kd.R_alloc | apply Kd.R_drewN | apply Kd.R_drew)); exact HO297.out))) (Kd.R_lt (by (with_reducible repeat (first | apply Kd.R_alloc | apply Kd.R_drewN | apply Kd.R_drew)); exact HO301.out))) (Kd.R_lt (by (with_reducible repeat (first | apply Kd.R_alloc | apply Kd.R_drewN | apply Kd.R_drew)); exact HO314.out))) (below_size (by repeat (first | (with_reducible first | exact HB.out | apply below_alloc | apply pw_below_drewN | apply below_drew1) | exact HB.out)))); have n6_ := Aside0.mk (below_step (by repeat (first | (with_reducible first | exact HB.out | apply below_alloc | apply pw_below_drewN | apply below_drew1) | exact HB.out)) hb); clear HO293; clear HO297; clear HO301; clear HO310; clear HO314; clear HB; have HO293 := n0_; have HO297 := n1_; have HO301 := n2_; have HO310 := n3_; have HO314 := n4_; have HO317 := n5_; have HB := n6_; clear n0_ n1_ n2_ n3_ n4_ n5_ n6_; clear hb ho31; obtain ⟨Ao32, co32, eo32⟩ := Kd.R_slice HO314.out; subst eo32; obtain ⟨Ao33, co33, eo33⟩ := Kd.R_slice HO317.out; subst eo33) | (go_at_call 10; (with_reducible refine (laws_sameInts.calls k _ _ t311 _ _ y315 t318 _ ?side1 ?side2 ?side3 ?side4 A29.out).mono ?_); (case side1 => repeat (first | exact (Kd.R_reads' HO314.out).2.2 | (with_reducible refine Kd.C_alloc ?_ _) | (with_reducible refine Kd.C_drewN ?_ _) | (with_reducible refine Kd.C_drew ?_))); (case side2 => exact (Kd.R_reads' HO314.out).2.1); (case side3 => repeat (first | exact (Kd.R_reads' HO317.out).2.2 | (with_reducible refine Kd.C_alloc ?_ _) | (with_reducible refine Kd.C_drewN ?_ _) | (with_reducible refine Kd.C_drew ?_))); (case side4 => exact (Kd.R_reads' HO317.out).2.1); rintro e w' ⟨rfl, ⟨nd, rfl⟩⟩; (try first | exact ⟨rfl, _, World.drewN_drewN _ _ _⟩ | exact ⟨rfl, _, Eq.trans (World.drewN_drewN _ _ _) (congrArg (World.drewN _) (Nat.add_assoc _ _ _))⟩)))
          repeat (go_quiet (first | ((with_reducible refine gate_dst (N := 52) rfl ?_); (try (refine gate_guard (by rfl) ?_; dsimp only)); refine Kd.R_lit (Kd.int .i64) _ 3 ?hg (N := 52) ?hd (xs := ([1, 1] : List Int)) (inner := [.int .i64 1, .int .i64 1]) (ok := fun _ => True) (okp := fun _ => True) ?hr ?hp (fun _ hk => hk) trivial (Below.refl _ _) (Nat.le_refl _) (by simp) ?_; (case hd => rfl); (case hg => rfl); (case hr => first | (go_simp; done) | (go_simp; rfl)); (case hp => exact (Reps.one (show Kd.M (Kd.int .i64) _ _ _ 1 [.int .i64 1] from rfl) (Reps.one (show Kd.M (Kd.int .i64) _ _ _ 1 [.int .i64 1] from rfl) (Reps.none _ _)))); intro v316 w30 ho31 hb hg_ hnew_; clear hg_ hnew_; (first | rw [← Ny315.out] at ho31 | (simp only [Int.reduceToNat] at ho31; rw [← Ny315.out] at ho31)); have n0_ := Aside0.mk (Kd.N_elder' (by (with_reducible repeat (first | apply Kd.N_alloc | apply Kd.N_drewN | apply Kd.N_drew)); exact HO293.out) (Kd.R_base ho31) hb); have n1_ := Aside0.mk (Kd.R_elder' (by (with_reducible repeat (first | apply Kd.R_alloc | apply Kd.R_drewN | apply Kd.R_drew)); exact HO297.out) (Kd.R_base ho31) hb); have n2_ := Aside0.mk (Kd.R_elder' (by (with_reducible repeat (first | apply Kd.R_alloc | apply Kd.R_drewN | apply Kd.R_drew)); exact HO301.out) (Kd.R_base ho31) hb); have n3_ := Aside0.mk (Kd.N_elder' (by (with_reducible repeat (first | apply Kd.N_alloc | apply Kd.N_drewN | apply Kd.N_drew)); exact HO310.out) (Kd.R_base ho31) hb); have n4_ := Aside0.mk (Kd.R_elder' (by (with_reducible repeat (first | apply Kd.R_alloc | apply Kd.R_drewN | apply Kd.R_drew)); exact HO314.out) (Kd.R_base ho31) hb); have n5_ := Aside0.mk (Kd.R_lower (Kd.R_new' (Kd.R_new' (Kd.R_new' ho31 (Kd.R_lt (by (with_reducible repeat (first | apply Kd.R_alloc | apply Kd.R_drewN | apply Kd.R_drew)); exact HO297.out))) (Kd.R_lt (by (with_reducible repeat (first | apply Kd.R_alloc | apply Kd.R_drewN | apply Kd.R_drew)); exact HO301.out))) (Kd.R_lt (by (with_reducible repeat (first | apply Kd.R_alloc | apply Kd.R_drewN | apply Kd.R_drew)); exact HO314.out))) (below_size (by repeat (first | (with_reducible first | exact HB.out | apply below_alloc | apply pw_below_drewN | apply below_drew1) | exact HB.out)))); have n6_ := Aside0.mk (below_step (by repeat (first | (with_reducible first | exact HB.out | apply below_alloc | apply pw_below_drewN | apply below_drew1) | exact HB.out)) hb); clear HO293; clear HO297; clear HO301; clear HO310; clear HO314; clear HB; have HO293 := n0_; have HO297 := n1_; have HO301 := n2_; have HO310 := n3_; have HO314 := n4_; have HO317 := n5_; have HB := n6_; clear n0_ n1_ n2_ n3_ n4_ n5_ n6_; clear hb ho31; obtain ⟨Ao32, co32, eo32⟩ := Kd.R_slice HO314.out; subst eo32; obtain ⟨Ao33, co33, eo33⟩ := Kd.R_slice HO317.out; subst eo33) | (go_at_call 10; (with_reducible refine (laws_sameInts.calls k _ _ t311 _ _ y315 t318 _ ?side1 ?side2 ?side3 ?side4 A29.out).mono ?_); (case side1 => repeat (first | exact (Kd.R_reads' HO314.out).2.2 | (with_reducible refine Kd.C_alloc ?_ _) | (with_reducible refine Kd.C_drewN ?_ _) | (with_reducible refine Kd.C_drew ?_))); (case side2 => exact (Kd.R_reads' HO314.out).2.1); (case side3 => repeat (first | exact (Kd.R_reads' HO317.out).2.2 | (with_reducible refine Kd.C_alloc ?_ _) | (with_reducible refine Kd.C_drewN ?_ _) | (with_reducible refine Kd.C_drew ?_))); (case side4 => exact (Kd.R_reads' HO317.out).2.1); rintro e w' ⟨rfl, ⟨nd, rfl⟩⟩; (try first | exact ⟨rfl, _, World.drewN_drewN _ _ _⟩ | exact ⟨rfl, _, Eq.trans (World.drewN_drewN _ _ _) (congrArg (World.drewN _) (Nat.add_assoc _ _ _))⟩))); try go_wp2_with (first | ((with_reducible refine gate_dst (N := 52) rfl ?_); (try (refine gate_guard (by rfl) ?_; dsimp only)); refine Kd.R_lit (Kd.int .i64) _ 3 ?hg (N := 52) ?hd (xs := ([1, 1] : List Int)) (inner := [.int .i64 1, .int .i64 1]) (ok := fun _ => True) (okp := fun _ => True) ?hr ?hp (fun _ hk => hk) trivial (Below.refl _ _) (Nat.le_refl _) (by simp) ?_; (case hd => rfl); (case hg => rfl); (case hr => first | (go_simp; done) | (go_simp; rfl)); (case hp => exact (Reps.one (show Kd.M (Kd.int .i64) _ _ _ 1 [.int .i64 1] from rfl) (Reps.one (show Kd.M (Kd.int .i64) _ _ _ 1 [.int .i64 1] from rfl) (Reps.none _ _)))); intro v316 w30 ho31 hb hg_ hnew_; clear hg_ hnew_; (first | rw [← Ny315.out] at ho31 | (simp only [Int.reduceToNat] at ho31; rw [← Ny315.out] at ho31)); have n0_ := Aside0.mk (Kd.N_elder' (by (with_reducible repeat (first | apply Kd.N_alloc | apply Kd.N_drewN | apply Kd.N_drew)); exact HO293.out) (Kd.R_base ho31) hb); have n1_ := Aside0.mk (Kd.R_elder' (by (with_reducible repeat (first | apply Kd.R_alloc | apply Kd.R_drewN | apply Kd.R_drew)); exact HO297.out) (Kd.R_base ho31) hb); have n2_ := Aside0.mk (Kd.R_elder' (by (with_reducible repeat (first | apply Kd.R_alloc | apply Kd.R_drewN | apply Kd.R_drew)); exact HO301.out) (Kd.R_base ho31) hb); have n3_ := Aside0.mk (Kd.N_elder' (by (with_reducible repeat (first | apply Kd.N_alloc | apply Kd.N_drewN | apply Kd.N_drew)); exact HO310.out) (Kd.R_base ho31) hb); have n4_ := Aside0.mk (Kd.R_elder' (by (with_reducible repeat (first | apply Kd.R_alloc | apply Kd.R_drewN | apply Kd.R_drew)); exact HO314.out) (Kd.R_base ho31) hb); have n5_ := Aside0.mk (Kd.R_lower (Kd.R_new' (Kd.R_new' (Kd.R_new' ho31 (Kd.R_lt (by (with_reducible repeat (first | apply Kd.R_alloc | apply Kd.R_drewN | apply Kd.R_drew)); exact HO297.out))) (Kd.R_lt (by (with_reducible repeat (first | apply Kd.R_alloc | apply Kd.R_drewN | apply Kd.R_drew)); exact HO301.out))) (Kd.R_lt (by (with_reducible repeat (first | apply Kd.R_alloc | apply Kd.R_drewN | apply Kd.R_drew)); exact HO314.out))) (below_size (by repeat (first | (with_reducible first | exact HB.out | apply below_alloc | apply pw_below_drewN | apply below_drew1) | exact HB.out)))); have n6_ := Aside0.mk (below_step (by repeat (first | (with_reducible first | exact HB.out | apply below_alloc | apply pw_below_drewN | apply below_drew1) | exact HB.out)) hb); clear HO293; clear HO297; clear HO301; clear HO310; clear HO314; clear HB; have HO293 := n0_; have HO297 := n1_; have HO301 := n2_; have HO310 := n3_; have HO314 := n4_; have HO317 := n5_; have HB := n6_; clear n0_ n1_ n2_ n3_ n4_ n5_ n6_; clear hb ho31; obtain ⟨Ao32, co32, eo32⟩ := Kd.R_slice HO314.out; subst eo32; obtain ⟨Ao33, co33, eo33⟩ := Kd.R_slice HO317.out; subst eo33) | (go_at_call 10; (with_reducible refine (laws_sameInts.calls k _ _ t311 _ _ y315 t318 _ ?side1 ?side2 ?side3 ?side4 A29.out).mono ?_); (case side1 => repeat (first | exact (Kd.R_reads' HO314.out).2.2 | (with_reducible refine Kd.C_alloc ?_ _) | (with_reducible refine Kd.C_drewN ?_ _) | (with_reducible refine Kd.C_drew ?_))); (case side2 => exact (Kd.R_reads' HO314.out).2.1); (case side3 => repeat (first | exact (Kd.R_reads' HO317.out).2.2 | (with_reducible refine Kd.C_alloc ?_ _) | (with_reducible refine Kd.C_drewN ?_ _) | (with_reducible refine Kd.C_drew ?_))); (case side4 => exact (Kd.R_reads' HO317.out).2.1); rintro e w' ⟨rfl, ⟨nd, rfl⟩⟩; (try first | exact ⟨rfl, _, World.drewN_drewN _ _ _⟩ | exact ⟨rfl, _, Eq.trans (World.drewN_drewN _ _ _) (congrArg (World.drewN _) (Nat.add_assoc _ _ _))⟩))))
          go_meet
          case rel => exact ⟨_, (!t318), (by first | rfl | (simp; done) | (simp [*]; done)), H', ⟨by first | omega | exact Nat.le_refl _⟩, ⟨by (with_reducible repeat (first | apply Kd.N_alloc | apply Kd.N_drewN | apply Kd.N_drew)); exact Kd.N_mono HO293.out (fun _ hk => hk.1.1.1.1.1.1.2)⟩, ⟨by (with_reducible repeat (first | apply Kd.R_alloc | apply Kd.R_drewN | apply Kd.R_drew)); exact Kd.R_mono HO297.out (fun _ hk => trivial)⟩, ⟨by repeat (first | (with_reducible first | exact HB.out | apply below_alloc | apply pw_below_drewN | apply below_drew1) | exact HB.out)⟩⟩
        · replace c28 := Bool.eq_false_iff.mpr c28
          subst c28
          have H1 : (laws_FnAlone.j0 k t289 t290 t291 t294 t295 true) = some r := by rw [if_neg (show ¬ (false = true) by decide)] at H; exact H
          clear H
          have H := H1
          clear H1
          have H' := Aside0.mk H
          clear H
          go_wp2
          repeat (go_quiet (fail); try go_wp2)
          go_meet
          case rel => exact ⟨_, (true), (by first | rfl | (simp; done) | (simp [*]; done)), H', ⟨by first | omega | exact Nat.le_refl _⟩, ⟨by (with_reducible repeat (first | apply Kd.N_alloc | apply Kd.N_drewN | apply Kd.N_drew)); exact Kd.N_mono HO293.out (fun _ hk => hk.1.1.1.1.1.2)⟩, ⟨by (with_reducible repeat (first | apply Kd.R_alloc | apply Kd.R_drewN | apply Kd.R_drew)); exact Kd.R_mono HO297.out (fun _ hk => trivial)⟩, ⟨by repeat (first | (with_reducible first | exact HB.out | apply below_alloc | apply pw_below_drewN | apply below_drew1) | exact HB.out)⟩⟩
      case rest =>
        clear HC13
        try clear c2
        try clear p2
        try clear c3
        try clear c4
        try clear c7
        try clear c7b0
        try clear c7b1
        try clear c7b2
        try clear c28
        obtain ⟨kq, x55_12, rfl, HA, HJ12, HO_3, HO_6, HB⟩ := hcut
        cases kq with
        | zero => exact absurd HA.out (by simp [laws_FnAlone.j0])
        | succ kj12 =>
          have H := HA.out
          clear HA
          simp only [laws_FnAlone.j0] at H
          by_cases c34 : x55_12 = true
          · subst c34
            have H1 : (some false) = some r := by rw [if_pos rfl] at H; exact H
            clear H
            have H := H1
            clear H1
            obtain rfl := Option.some.inj H
            go_wp2
            repeat (go_quiet (fail); try go_wp2)
            go_ret
            exact ⟨by first | rfl | (simp [errW_none, errW_some] <;> rfl) | (simp [*, errW_none, errW_some] <;> rfl), by repeat (first | (with_reducible first | exact HB.out | apply below_alloc | apply pw_below_drewN | apply below_drew1) | exact HB.out)⟩
          · replace c34 := Bool.eq_false_iff.mpr c34
            subst c34
            have H1 : (if t295 = true then (laws_FnAlone.l0 kj12 t289 t290 t291 t294 0) else (some ((t294.length : Int) == 0))) = some r := by rw [if_neg (show ¬ (false = true) by decide)] at H; exact H
            clear H
            have H := H1
            clear H1
            by_cases c35 : t295 = true
            · subst c35
              have H1 : (laws_FnAlone.l0 kj12 t289 t290 t291 t294 0) = some r := by rw [if_pos rfl] at H; exact H
              clear H
              have H := H1
              clear H1
              have H' := Aside0.mk H
              clear H
              go_wp2
              repeat (go_quiet (fail); try go_wp2)
              go_loopg [12] kj12 (fun kq v12 w' => ∃ (x12_2 : Int), v12 = .int .i64 x12_2 ∧ Aside0 (laws_FnAlone.l0 kq t289 t290 t291 t294 x12_2 = some r) ∧ Aside0 (kq ≤ kj12) ∧ Aside0 (Kd.N k36 36 w' w.heap.size (fun k_ => some k_ ≠ (v296 : Value).ownBlock) (.slice Ao15 t289.length co15) t289) ∧ Aside0 (Kd.R (Kd.int .i64) 3 w' w.heap.size (fun _ => True) v296 t294) ∧ Aside0 (Below w.heap.size w w'))
              case atStart => exact ⟨(0), (by first | rfl | (simp; done) | (simp [*]; done)), H', ⟨Nat.le_refl _⟩, ⟨by (with_reducible repeat (first | apply Kd.N_alloc | apply Kd.N_drewN | apply Kd.N_drew)); exact HO_3.out⟩, ⟨by (with_reducible repeat (first | apply Kd.R_alloc | apply Kd.R_drewN | apply Kd.R_drew)); exact HO_6.out⟩, ⟨by repeat (first | (with_reducible first | exact HB.out | apply below_alloc | apply pw_below_drewN | apply below_drew1) | exact HB.out)⟩⟩
              case round =>
                clear H'
                try clear c2
                try clear p2
                try clear c3
                try clear c4
                try clear c7
                try clear c7b0
                try clear c7b1
                try clear c7b2
                try clear c28
                try clear c34
                try clear c35
                try clear p2
                obtain ⟨x12_2, rfl, HA, HK2, HO_3, HO_6, HB⟩ := hrel
                cases gk with
                | zero => exact absurd HA.out (by simp [laws_FnAlone.l0])
                | succ k2 =>
                  have H := HA.out
                  clear HA
                  simp only [laws_FnAlone.l0] at H
                  by_cases c36 : x12_2 < (t294.length : Int)
                  · rw [if_pos c36] at H
                    have c36b0 : decide (x12_2 < (t294.length : Int)) = true := decide_eq_true c36
                    clear c36
                    by_cases c37 : 0 ≤ x12_2
                    · rw [if_pos c37] at H
                      have c37b0 : decide (0 ≤ x12_2) = true := decide_eq_true c37
                      clear c37
                      by_cases c38 : (rd t294 x12_2) < 0
                      · rw [if_pos c38] at H
                        have c38b0 : decide ((rd t294 x12_2) < 0) = true := decide_eq_true c38
                        clear c38
                        have H' := Aside0.mk H
                        clear H
                        obtain ⟨Ao39, co39, eo39⟩ := Kd.R_slice HO_6.out
                        subst eo39
                        have p319 : 0 ≤ (x12_2 : Int) := of_decide_eq_true (by first | (with_reducible assumption) | assumption)
                        have q319 : x12_2 < (t294.length : Int) := of_decide_eq_true (by first | (with_reducible assumption) | assumption)
                        obtain ⟨ad319, e319, hx319_0⟩ := Kd.at_int (Kd.R_reads' HO_6.out).2.2 x12_2 p319 q319
                        cases e319
                        replace p319 := eq_true p319
                        replace q319 := eq_true q319
                        go_wp2
                        repeat (go_quiet (fail); try go_wp2)
                        go_roundg k2
                        case measure => have := HJ12.out; have := HK2.out; omega
                        case rel => exact ⟨(wrap64 (x12_2 + 1)), (by first | rfl | (simp; done) | (simp [*]; done)), H', ⟨by have := HJ12.out; have := HK2.out; omega⟩, ⟨by (with_reducible repeat (first | apply Kd.N_alloc | apply Kd.N_drewN | apply Kd.N_drew)); exact HO_3.out⟩, ⟨by (with_reducible repeat (first | apply Kd.R_alloc | apply Kd.R_drewN | apply Kd.R_drew)); exact HO_6.out⟩, ⟨by repeat (first | (with_reducible first | exact HB.out | apply below_alloc | apply pw_below_drewN | apply below_drew1) | exact HB.out)⟩⟩
                      · rw [if_neg c38] at H
                        have c38b0 : decide ((rd t294 x12_2) < 0) = false := decide_eq_false c38
                        clear c38
                        have HC40 := Aside0.mk H
                        clear H
                        obtain ⟨Ao41, co41, eo41⟩ := Kd.R_slice HO_6.out
                        subst eo41
                        have p319 : 0 ≤ (x12_2 : Int) := of_decide_eq_true (by first | (with_reducible assumption) | assumption)
                        have q319 : x12_2 < (t294.length : Int) := of_decide_eq_true (by first | (with_reducible assumption) | assumption)
                        obtain ⟨ad319, e319, hx319_0⟩ := Kd.at_int (Kd.R_reads' HO_6.out).2.2 x12_2 p319 q319
                        cases e319
                        replace p319 := eq_true p319
                        replace q319 := eq_true q319
                        go_upto_region 17 with (fail)
                        repeat (go_quiet (fail); go_upto_region 17 with (fail))
                        go_cut [90] (fun v90 wc => ∃ (kq : Nat) (x90_39 : Bool), v90 = .bool x90_39 ∧ Aside0 (laws_FnAlone.j2 kq t289 t290 t291 t294 x12_2 x90_39 = some r) ∧ Aside0 (kq ≤ k2) ∧ Aside0 (Kd.N k36 36 wc w.heap.size (fun k_ => some k_ ≠ ((.slice (some ad319) t294.length co41) : Value).ownBlock) (.slice Ao15 t289.length co15) t289) ∧ Aside0 (Kd.R (Kd.int .i64) 3 wc w.heap.size (fun _ => True) (.slice (some ad319) t294.length co41) t294) ∧ Aside0 (Below w.heap.size w wc))
                        case first =>
                          have H := HC40.out
                          clear HC40
                          by_cases c42 : (rd t294 x12_2) ≥ t291
                          · rw [if_pos c42] at H
                            have c42b0 : decide (t291 ≤ (rd t294 x12_2)) = true := decide_eq_true c42
                            clear c42
                            (first | rw [c42b0] | (simp only [i64_w, i32_w]; rw [c42b0]) | skip)
                            have H' := Aside0.mk H
                            clear H
                            have p320 : 0 ≤ (x12_2 : Int) := of_decide_eq_true (by first | (with_reducible assumption) | assumption)
                            have q320 : x12_2 < (t294.length : Int) := of_decide_eq_true (by first | (with_reducible assumption) | assumption)
                            obtain ⟨ad320, e320, hx320_0⟩ := Kd.at_int (Kd.R_reads' HO_6.out).2.2 x12_2 p320 q320
                            obtain rfl : ad319 = ad320 := (by injection e320)
                            replace p320 := eq_true p320
                            replace q320 := eq_true q320
                            go_wp2
                            repeat (go_quiet (fail); try go_wp2)
                            go_meet
                            case rel => exact ⟨_, (true), (by first | rfl | (simp; done) | (simp [*]; done)), H', ⟨by have := HJ12.out; have := HK2.out; first | omega | exact Nat.le_refl _⟩, ⟨by (with_reducible repeat (first | apply Kd.N_alloc | apply Kd.N_drewN | apply Kd.N_drew)); exact HO_3.out⟩, ⟨by (with_reducible repeat (first | apply Kd.R_alloc | apply Kd.R_drewN | apply Kd.R_drew)); exact HO_6.out⟩, ⟨by repeat (first | (with_reducible first | exact HB.out | apply below_alloc | apply pw_below_drewN | apply below_drew1) | exact HB.out)⟩⟩
                          · rw [if_neg c42] at H
                            have c42b0 : decide (t291 ≤ (rd t294 x12_2)) = false := decide_eq_false c42
                            clear c42
                            (first | rw [c42b0] | (simp only [i64_w, i32_w]; rw [c42b0]) | skip)
                            by_cases c43 : x12_2 < (t289.length : Int)
                            · rw [if_pos c43] at H
                              have c43b0 : decide (x12_2 < (t289.length : Int)) = true := decide_eq_true c43
                              clear c43
                              have H' := Aside0.mk H
                              clear H
                              have p320 : 0 ≤ (x12_2 : Int) := of_decide_eq_true (by first | (with_reducible assumption) | assumption)
                              have q320 : x12_2 < (t294.length : Int) := of_decide_eq_true (by first | (with_reducible assumption) | assumption)
                              obtain ⟨ad320, e320, hx320_0⟩ := Kd.at_int (Kd.R_reads' HO_6.out).2.2 x12_2 p320 q320
                              obtain rfl : ad319 = ad320 := (by injection e320)
                              replace p320 := eq_true p320
                              replace q320 := eq_true q320
                              have p321 : 0 ≤ (x12_2 : Int) := of_decide_eq_true (by first | (with_reducible assumption) | assumption)
                              have q321 : x12_2 < (t294.length : Int) := of_decide_eq_true (by first | (with_reducible assumption) | assumption)
                              obtain ⟨ad321, e321, hx321_0⟩ := Kd.at_int (Kd.R_reads' HO_6.out).2.2 x12_2 p321 q321
                              obtain rfl : ad319 = ad321 := (by injection e321)
                              replace p321 := eq_true p321
                              replace q321 := eq_true q321
                              have p322 : 0 ≤ (x12_2 : Int) := of_decide_eq_true (by first | (with_reducible assumption) | assumption)
                              have q322 : x12_2 < (t289.length : Int) := of_decide_eq_true (by first | (with_reducible assumption) | assumption)
                              obtain ⟨ad322, A322_0, c322_0, e322, hx322_0, hl322_0, hi322_0⟩ := at_T36 (Kd.N_reads' HO_3.out).2.2 x12_2 p322 q322
                              cases e322
                              obtain ⟨ce322, hce322, hMe322, hcc322⟩ := Kd.N_get HO_3.out z36 x12_2 p322 (by first | exact q322 | exact of_decide_eq_true (by first | (with_reducible assumption) | assumption) | (have e_ := (Kd.N_reads' HO_3.out).1; omega))
                              obtain ⟨ua322_0, uc322_0, rfl, ul322_0, ge322_0⟩ := k36_openF hMe322
                              have hv322_0 := hcc322 0 _ rfl
                              rw [Nat.add_zero, show (k36).sz = 1 from rfl, Nat.mul_one] at hv322_0
                              replace hv322_0 := Option.some.inj (hv322_0.symm.trans hx322_0)
                              injection hv322_0 with hva_ hvn_ hvc_
                              rw [hva_] at ge322_0
                              rw [hvc_] at ul322_0
                              have HL322_0 := Aside0.mk (show Kd.V (Kd.int .i64) 3 _ w.heap.size _ _ ((rd_T36 t289 x12_2).f0) from Kd.V_mk ul322_0 ge322_0)
                              clear hva_ hvn_ hvc_ ge322_0 ul322_0
                              clear hcc322 hce322
                              have HR322_0 := Aside0.mk hi322_0
                              have HC322_0 := Aside0.mk hl322_0
                              clear hi322_0 hl322_0
                              replace p322 := eq_true p322
                              replace q322 := eq_true q322
                              go_wp2
                              repeat (go_quiet (fail); try go_wp2)
                              go_meet
                              case rel => exact ⟨_, (decide ((rd t294 x12_2) ≥ (((rd_T36 t289 x12_2).f0).length : Int))), (by first | rfl | (simp; done) | (simp [*]; done)), H', ⟨by have := HJ12.out; have := HK2.out; first | omega | exact Nat.le_refl _⟩, ⟨by (with_reducible repeat (first | apply Kd.N_alloc | apply Kd.N_drewN | apply Kd.N_drew)); exact HO_3.out⟩, ⟨by (with_reducible repeat (first | apply Kd.R_alloc | apply Kd.R_drewN | apply Kd.R_drew)); exact HO_6.out⟩, ⟨by repeat (first | (with_reducible first | exact HB.out | apply below_alloc | apply pw_below_drewN | apply below_drew1) | exact HB.out)⟩⟩
                            · rw [if_neg c43] at H
                              exact absurd H (by simp)
                        case rest =>
                          clear HC40
                          try clear c2
                          try clear p2
                          try clear c3
                          try clear p3
                          try clear q3
                          try clear hx3
                          try clear c4
                          try clear p6
                          try clear c7
                          try clear c7b0
                          try clear c7b1
                          try clear c7b2
                          try clear c28
                          try clear p31
                          try clear q31
                          try clear hx31
                          try clear c32
                          try clear p32
                          try clear q32
                          try clear hx32
                          try clear c34
                          try clear c35
                          try clear c36
                          try clear c36b0
                          try clear c37
                          try clear c37b0
                          try clear c38
                          try clear c38b0
                          try clear c42
                          try clear c42b0
                          try clear c43
                          try clear c43b0
                          try clear hx319_0
                          try clear hx320_0
                          try clear hx321_0
                          try clear hx322_0
                          try clear p2
                          try clear p319
                          try clear p320
                          try clear p321
                          try clear p322
                          try clear q319
                          try clear q320
                          try clear q321
                          try clear q322
                          obtain ⟨kq, x90_39, rfl, HA, HJ39, HO_3, HO_6, HB⟩ := hcut
                          cases kq with
                          | zero => exact absurd HA.out (by simp [laws_FnAlone.j2])
                          | succ kj39 =>
                            have H := HA.out
                            clear HA
                            simp only [laws_FnAlone.j2] at H
                            by_cases c44 : x90_39 = true
                            · subst c44
                              have H1 : (some false) = some r := by rw [if_pos rfl] at H; exact H
                              clear H
                              have H := H1
                              clear H1
                              obtain rfl := Option.some.inj H
                              go_wp2
                              repeat (go_quiet (fail); try go_wp2)
                              go_ret
                              exact ⟨by first | rfl | (simp [errW_none, errW_some] <;> rfl) | (simp [*, errW_none, errW_some] <;> rfl), by repeat (first | (with_reducible first | exact HB.out | apply below_alloc | apply pw_below_drewN | apply below_drew1) | exact HB.out)⟩
                            · replace c44 := Bool.eq_false_iff.mpr c44
                              subst c44
                              have H1 : (laws_FnAlone.l1 kj39 t289 t290 t291 t294 x12_2 0) = some r := by rw [if_neg (show ¬ (false = true) by decide)] at H; exact H
                              clear H
                              have H := H1
                              clear H1
                              have H' := Aside0.mk H
                              clear H
                              go_wp2
                              repeat (go_quiet (fail); try go_wp2)
                              go_loopg [13] kj39 (fun kq v13 w' => ∃ (x13_4 : Int), v13 = .int .i64 x13_4 ∧ Aside0 (laws_FnAlone.l1 kq t289 t290 t291 t294 x12_2 x13_4 = some r) ∧ Aside0 (kq ≤ kj39) ∧ Aside0 (Kd.N k36 36 w' w.heap.size (fun k_ => some k_ ≠ ((.slice (some ad319) t294.length co41) : Value).ownBlock) (.slice Ao15 t289.length co15) t289) ∧ Aside0 (Kd.R (Kd.int .i64) 3 w' w.heap.size (fun _ => True) (.slice (some ad319) t294.length co41) t294) ∧ Aside0 (Below w.heap.size w w'))
                              case atStart => exact ⟨(0), (by first | rfl | (simp; done) | (simp [*]; done)), H', ⟨Nat.le_refl _⟩, ⟨by (with_reducible repeat (first | apply Kd.N_alloc | apply Kd.N_drewN | apply Kd.N_drew)); exact HO_3.out⟩, ⟨by (with_reducible repeat (first | apply Kd.R_alloc | apply Kd.R_drewN | apply Kd.R_drew)); exact HO_6.out⟩, ⟨by repeat (first | (with_reducible first | exact HB.out | apply below_alloc | apply pw_below_drewN | apply below_drew1) | exact HB.out)⟩⟩
                              case round =>
                                clear H'
                                try clear c2
                                try clear p2
                                try clear c3
                                try clear p3
                                try clear q3
                                try clear hx3
                                try clear c4
                                try clear p6
                                try clear c7
                                try clear c7b0
                                try clear c7b1
                                try clear c7b2
                                try clear c28
                                try clear p31
                                try clear q31
                                try clear hx31
                                try clear c32
                                try clear p32
                                try clear q32
                                try clear hx32
                                try clear c34
                                try clear c35
                                try clear c36
                                try clear c36b0
                                try clear c37
                                try clear c37b0
                                try clear c38
                                try clear c38b0
                                try clear c42
                                try clear c42b0
                                try clear c43
                                try clear c43b0
                                try clear c44
                                try clear hx319_0
                                try clear hx320_0
                                try clear hx321_0
                                try clear hx322_0
                                try clear p2
                                try clear p3
                                try clear p31
                                try clear p319
                                try clear p32
                                try clear p320
                                try clear p321
                                try clear p322
                                try clear p6
                                try clear q3
                                try clear q31
                                try clear q319
                                try clear q32
                                try clear q320
                                try clear q321
                                try clear q322
                                obtain ⟨x13_4, rfl, HA, HK4, HO_3, HO_6, HB⟩ := hrel
                                cases gk with
                                | zero => exact absurd HA.out (by simp [laws_FnAlone.l1])
                                | succ k4 =>
                                  have H := HA.out
                                  clear HA
                                  simp only [laws_FnAlone.l1] at H
                                  by_cases c45 : x13_4 < (t294.length : Int)
                                  · rw [if_pos c45] at H
                                    have c45b0 : decide (x13_4 < (t294.length : Int)) = true := decide_eq_true c45
                                    clear c45
                                    by_cases c46 : x13_4 = x12_2
                                    · rw [if_pos c46] at H
                                      have c46b0 : (x13_4 == x12_2) = true := beq_iff_eq.mpr c46
                                      have c46b1 : (x13_4 != x12_2) = false := bne_eq_false_iff_eq.mpr c46
                                      clear c46
                                      have H' := Aside0.mk H
                                      clear H
                                      go_wp2
                                      repeat (go_quiet (fail); try go_wp2)
                                      go_roundg k4
                                      case measure => have := HJ12.out; have := HK2.out; have := HJ39.out; have := HK4.out; omega
                                      case rel => exact ⟨(wrap64 (x13_4 + 1)), (by first | rfl | (simp; done) | (simp [*]; done)), H', ⟨by have := HJ12.out; have := HK2.out; have := HJ39.out; have := HK4.out; omega⟩, ⟨by (with_reducible repeat (first | apply Kd.N_alloc | apply Kd.N_drewN | apply Kd.N_drew)); exact HO_3.out⟩, ⟨by (with_reducible repeat (first | apply Kd.R_alloc | apply Kd.R_drewN | apply Kd.R_drew)); exact HO_6.out⟩, ⟨by repeat (first | (with_reducible first | exact HB.out | apply below_alloc | apply pw_below_drewN | apply below_drew1) | exact HB.out)⟩⟩
                                    · rw [if_neg c46] at H
                                      have c46b0 : (x13_4 == x12_2) = false := beq_eq_false_iff_ne.mpr c46
                                      have c46b1 : (x13_4 != x12_2) = true := bne_iff_ne.mpr c46
                                      by_cases c47 : 0 ≤ x13_4
                                      · rw [if_pos c47] at H
                                        have c47b0 : decide (0 ≤ x13_4) = true := decide_eq_true c47
                                        clear c47
                                        by_cases c48 : (rd t294 x13_4) < 0
                                        · rw [if_pos c48] at H
                                          have c48b0 : decide ((rd t294 x13_4) < 0) = true := decide_eq_true c48
                                          clear c48
                                          by_cases c49 : 0 ≤ x12_2
                                          · rw [if_pos c49] at H
                                            have c49b0 : decide (0 ≤ x12_2) = true := decide_eq_true c49
                                            clear c49
                                            by_cases c50 : x12_2 < (t294.length : Int)
                                            · rw [if_pos c50] at H
                                              have c50b0 : decide (x12_2 < (t294.length : Int)) = true := decide_eq_true c50
                                              clear c50
                                              by_cases c51 : x13_4 < (t289.length : Int)
                                              · rw [if_pos c51] at H
                                                have c51b0 : decide (x13_4 < (t289.length : Int)) = true := decide_eq_true c51
                                                clear c51
                                                by_cases c52 : (rd t294 x12_2) < (((rd_T36 t289 x13_4).f0).length : Int)
                                                · rw [if_pos c52] at H
                                                  have c52b0 : decide ((rd t294 x12_2) < (((rd_T36 t289 x13_4).f0).length : Int)) = true := decide_eq_true c52
                                                  clear c52
                                                  by_cases c53 : 0 ≤ (rd t294 x12_2)
                                                  · rw [if_pos c53] at H
                                                    have c53b0 : decide (0 ≤ (rd t294 x12_2)) = true := decide_eq_true c53
                                                    clear c53
                                                    by_cases c54 : t290 = 0
                                                    · rw [if_pos c54] at H
                                                      exact absurd H (by simp)
                                                    · rw [if_neg c54] at H
                                                      have c54b0 : (t290 == 0) = false := beq_eq_false_iff_ne.mpr c54
                                                      have c54b1 : (t290 != 0) = true := bne_iff_ne.mpr c54
                                                      by_cases c55 : x12_2 < (t289.length : Int)
                                                      · rw [if_pos c55] at H
                                                        have c55b0 : decide (x12_2 < (t289.length : Int)) = true := decide_eq_true c55
                                                        clear c55
                                                        by_cases c56 : (rd t294 x12_2) < (((rd_T36 t289 x12_2).f0).length : Int)
                                                        · rw [if_pos c56] at H
                                                          have c56b0 : decide ((rd t294 x12_2) < (((rd_T36 t289 x12_2).f0).length : Int)) = true := decide_eq_true c56
                                                          clear c56
                                                          by_cases c57 : (Int.tmod (rd ((rd_T36 t289 x13_4).f0) (rd t294 x12_2)) t290) = (Int.tmod (rd ((rd_T36 t289 x12_2).f0) (rd t294 x12_2)) t290)
                                                          · rw [if_pos c57] at H
                                                            have c57b0 : ((Int.tmod (rd ((rd_T36 t289 x13_4).f0) (rd t294 x12_2)) t290) == (Int.tmod (rd ((rd_T36 t289 x12_2).f0) (rd t294 x12_2)) t290)) = true := beq_iff_eq.mpr c57
                                                            have c57b1 : ((Int.tmod (rd ((rd_T36 t289 x13_4).f0) (rd t294 x12_2)) t290) != (Int.tmod (rd ((rd_T36 t289 x12_2).f0) (rd t294 x12_2)) t290)) = false := bne_eq_false_iff_eq.mpr c57
                                                            clear c57
                                                            obtain rfl := Option.some.inj H
                                                            have p323 : 0 ≤ (x13_4 : Int) := of_decide_eq_true (by first | (with_reducible assumption) | assumption)
                                                            have q323 : x13_4 < (t294.length : Int) := of_decide_eq_true (by first | (with_reducible assumption) | assumption)
                                                            obtain ⟨ad323, e323, hx323_0⟩ := Kd.at_int (Kd.R_reads' HO_6.out).2.2 x13_4 p323 q323
                                                            obtain rfl : ad319 = ad323 := (by injection e323)
                                                            replace p323 := eq_true p323
                                                            replace q323 := eq_true q323
                                                            have p324 : 0 ≤ (x12_2 : Int) := of_decide_eq_true (by first | (with_reducible assumption) | assumption)
                                                            have q324 : x12_2 < (t294.length : Int) := of_decide_eq_true (by first | (with_reducible assumption) | assumption)
                                                            obtain ⟨ad324, e324, hx324_0⟩ := Kd.at_int (Kd.R_reads' HO_6.out).2.2 x12_2 p324 q324
                                                            obtain rfl : ad319 = ad324 := (by injection e324)
                                                            replace p324 := eq_true p324
                                                            replace q324 := eq_true q324
                                                            have p325 : 0 ≤ (x13_4 : Int) := of_decide_eq_true (by first | (with_reducible assumption) | assumption)
                                                            have q325 : x13_4 < (t289.length : Int) := of_decide_eq_true (by first | (with_reducible assumption) | assumption)
                                                            obtain ⟨ad325, A325_0, c325_0, e325, hx325_0, hl325_0, hi325_0⟩ := at_T36 (Kd.N_reads' HO_3.out).2.2 x13_4 p325 q325
                                                            cases e325
                                                            obtain ⟨ce325, hce325, hMe325, hcc325⟩ := Kd.N_get HO_3.out z36 x13_4 p325 (by first | exact q325 | exact of_decide_eq_true (by first | (with_reducible assumption) | assumption) | (have e_ := (Kd.N_reads' HO_3.out).1; omega))
                                                            obtain ⟨ua325_0, uc325_0, rfl, ul325_0, ge325_0⟩ := k36_openF hMe325
                                                            have hv325_0 := hcc325 0 _ rfl
                                                            rw [Nat.add_zero, show (k36).sz = 1 from rfl, Nat.mul_one] at hv325_0
                                                            replace hv325_0 := Option.some.inj (hv325_0.symm.trans hx325_0)
                                                            injection hv325_0 with hva_ hvn_ hvc_
                                                            rw [hva_] at ge325_0
                                                            rw [hvc_] at ul325_0
                                                            have HL325_0 := Aside0.mk (show Kd.V (Kd.int .i64) 3 _ w.heap.size _ _ ((rd_T36 t289 x13_4).f0) from Kd.V_mk ul325_0 ge325_0)
                                                            clear hva_ hvn_ hvc_ ge325_0 ul325_0
                                                            clear hcc325 hce325
                                                            have HR325_0 := Aside0.mk hi325_0
                                                            have HC325_0 := Aside0.mk hl325_0
                                                            clear hi325_0 hl325_0
                                                            replace p325 := eq_true p325
                                                            replace q325 := eq_true q325
                                                            have p326 : 0 ≤ (x13_4 : Int) := of_decide_eq_true (by first | (with_reducible assumption) | assumption)
                                                            have q326 : x13_4 < (t289.length : Int) := of_decide_eq_true (by first | (with_reducible assumption) | assumption)
                                                            obtain ⟨ad326, A326_0, c326_0, e326, hx326_0, hl326_0, hi326_0⟩ := at_T36 (Kd.N_reads' HO_3.out).2.2 x13_4 p326 q326
                                                            obtain rfl : ad325 = ad326 := (by injection e326)
                                                            obtain ⟨ce326, hce326, hMe326, hcc326⟩ := Kd.N_get HO_3.out z36 x13_4 p326 (by first | exact q326 | exact of_decide_eq_true (by first | (with_reducible assumption) | assumption) | (have e_ := (Kd.N_reads' HO_3.out).1; omega))
                                                            obtain ⟨ua326_0, uc326_0, rfl, ul326_0, ge326_0⟩ := k36_openF hMe326
                                                            have hv326_0 := hcc326 0 _ rfl
                                                            rw [Nat.add_zero, show (k36).sz = 1 from rfl, Nat.mul_one] at hv326_0
                                                            replace hv326_0 := Option.some.inj (hv326_0.symm.trans hx326_0)
                                                            injection hv326_0 with hva_ hvn_ hvc_
                                                            rw [hva_] at ge326_0
                                                            rw [hvc_] at ul326_0
                                                            have HL326_0 := Aside0.mk (show Kd.V (Kd.int .i64) 3 _ w.heap.size _ _ ((rd_T36 t289 x13_4).f0) from Kd.V_mk ul326_0 ge326_0)
                                                            clear hva_ hvn_ hvc_ ge326_0 ul326_0
                                                            clear hcc326 hce326
                                                            have HR326_0 := Aside0.mk hi326_0
                                                            have HC326_0 := Aside0.mk hl326_0
                                                            clear hi326_0 hl326_0
                                                            replace p326 := eq_true p326
                                                            replace q326 := eq_true q326
                                                            have ea_ := Option.some.inj (hx325_0.symm.trans hx326_0)
                                                            injection ea_ with ea_ en_ ec_
                                                            subst ea_
                                                            subst ec_
                                                            clear en_
                                                            have p327 : 0 ≤ (x12_2 : Int) := of_decide_eq_true (by first | (with_reducible assumption) | assumption)
                                                            have q327 : x12_2 < (t294.length : Int) := of_decide_eq_true (by first | (with_reducible assumption) | assumption)
                                                            obtain ⟨ad327, e327, hx327_0⟩ := Kd.at_int (Kd.R_reads' HO_6.out).2.2 x12_2 p327 q327
                                                            obtain rfl : ad319 = ad327 := (by injection e327)
                                                            replace p327 := eq_true p327
                                                            replace q327 := eq_true q327
                                                            have p328 : 0 ≤ ((rd t294 x12_2) : Int) := of_decide_eq_true (by first | (with_reducible assumption) | assumption)
                                                            have q328 : (rd t294 x12_2) < (((rd_T36 t289 x13_4).f0).length : Int) := of_decide_eq_true (by first | (with_reducible assumption) | assumption)
                                                            obtain ⟨ad328, e328, hx328_0⟩ := Kd.at_int (by repeat (first | (with_reducible exact HR326_0.out) | (with_reducible refine Kd.C_alloc ?_ _) | (with_reducible refine Kd.C_drewN ?_ _) | (with_reducible refine Kd.C_drew ?_) | exact HR326_0.out)) (rd t294 x12_2) p328 q328
                                                            cases e328
                                                            replace p328 := eq_true p328
                                                            replace q328 := eq_true q328
                                                            have p329 : 0 ≤ (x12_2 : Int) := of_decide_eq_true (by first | (with_reducible assumption) | assumption)
                                                            have q329 : x12_2 < (t289.length : Int) := of_decide_eq_true (by first | (with_reducible assumption) | assumption)
                                                            obtain ⟨ad329, A329_0, c329_0, e329, hx329_0, hl329_0, hi329_0⟩ := at_T36 (Kd.N_reads' HO_3.out).2.2 x12_2 p329 q329
                                                            obtain rfl : ad325 = ad329 := (by injection e329)
                                                            obtain ⟨ce329, hce329, hMe329, hcc329⟩ := Kd.N_get HO_3.out z36 x12_2 p329 (by first | exact q329 | exact of_decide_eq_true (by first | (with_reducible assumption) | assumption) | (have e_ := (Kd.N_reads' HO_3.out).1; omega))
                                                            obtain ⟨ua329_0, uc329_0, rfl, ul329_0, ge329_0⟩ := k36_openF hMe329
                                                            have hv329_0 := hcc329 0 _ rfl
                                                            rw [Nat.add_zero, show (k36).sz = 1 from rfl, Nat.mul_one] at hv329_0
                                                            replace hv329_0 := Option.some.inj (hv329_0.symm.trans hx329_0)
                                                            injection hv329_0 with hva_ hvn_ hvc_
                                                            rw [hva_] at ge329_0
                                                            rw [hvc_] at ul329_0
                                                            have HL329_0 := Aside0.mk (show Kd.V (Kd.int .i64) 3 _ w.heap.size _ _ ((rd_T36 t289 x12_2).f0) from Kd.V_mk ul329_0 ge329_0)
                                                            clear hva_ hvn_ hvc_ ge329_0 ul329_0
                                                            clear hcc329 hce329
                                                            have HR329_0 := Aside0.mk hi329_0
                                                            have HC329_0 := Aside0.mk hl329_0
                                                            clear hi329_0 hl329_0
                                                            replace p329 := eq_true p329
                                                            replace q329 := eq_true q329
                                                            have p330 : 0 ≤ (x12_2 : Int) := of_decide_eq_true (by first | (with_reducible assumption) | assumption)
                                                            have q330 : x12_2 < (t294.length : Int) := of_decide_eq_true (by first | (with_reducible assumption) | assumption)
                                                            obtain ⟨ad330, e330, hx330_0⟩ := Kd.at_int (Kd.R_reads' HO_6.out).2.2 x12_2 p330 q330
                                                            obtain rfl : ad319 = ad330 := (by injection e330)
                                                            replace p330 := eq_true p330
                                                            replace q330 := eq_true q330
                                                            have p331 : 0 ≤ ((rd t294 x12_2) : Int) := of_decide_eq_true (by first | (with_reducible assumption) | assumption)
                                                            have q331 : (rd t294 x12_2) < (((rd_T36 t289 x12_2).f0).length : Int) := of_decide_eq_true (by first | (with_reducible assumption) | assumption)
                                                            obtain ⟨ad331, e331, hx331_0⟩ := Kd.at_int (by repeat (first | (with_reducible exact HR329_0.out) | (with_reducible refine Kd.C_alloc ?_ _) | (with_reducible refine Kd.C_drewN ?_ _) | (with_reducible refine Kd.C_drew ?_) | exact HR329_0.out)) (rd t294 x12_2) p331 q331
                                                            cases e331
                                                            replace p331 := eq_true p331
                                                            replace q331 := eq_true q331
                                                            go_wp2
                                                            repeat (go_quiet (fail); try go_wp2)
                                                            go_ret
                                                            exact ⟨by first | rfl | (simp [errW_none, errW_some] <;> rfl) | (simp [*, errW_none, errW_some] <;> rfl), by repeat (first | (with_reducible first | exact HB.out | apply below_alloc | apply pw_below_drewN | apply below_drew1) | exact HB.out)⟩
                                                          · rw [if_neg c57] at H
                                                            have c57b0 : ((Int.tmod (rd ((rd_T36 t289 x13_4).f0) (rd t294 x12_2)) t290) == (Int.tmod (rd ((rd_T36 t289 x12_2).f0) (rd t294 x12_2)) t290)) = false := beq_eq_false_iff_ne.mpr c57
                                                            have c57b1 : ((Int.tmod (rd ((rd_T36 t289 x13_4).f0) (rd t294 x12_2)) t290) != (Int.tmod (rd ((rd_T36 t289 x12_2).f0) (rd t294 x12_2)) t290)) = true := bne_iff_ne.mpr c57
                                                            have H' := Aside0.mk H
                                                            clear H
                                                            have p323 : 0 ≤ (x13_4 : Int) := of_decide_eq_true (by first | (with_reducible assumption) | assumption)
                                                            have q323 : x13_4 < (t294.length : Int) := of_decide_eq_true (by first | (with_reducible assumption) | assumption)
                                                            obtain ⟨ad323, e323, hx323_0⟩ := Kd.at_int (Kd.R_reads' HO_6.out).2.2 x13_4 p323 q323
                                                            obtain rfl : ad319 = ad323 := (by injection e323)
                                                            replace p323 := eq_true p323
                                                            replace q323 := eq_true q323
                                                            have p324 : 0 ≤ (x12_2 : Int) := of_decide_eq_true (by first | (with_reducible assumption) | assumption)
                                                            have q324 : x12_2 < (t294.length : Int) := of_decide_eq_true (by first | (with_reducible assumption) | assumption)
                                                            obtain ⟨ad324, e324, hx324_0⟩ := Kd.at_int (Kd.R_reads' HO_6.out).2.2 x12_2 p324 q324
                                                            obtain rfl : ad319 = ad324 := (by injection e324)
                                                            replace p324 := eq_true p324
                                                            replace q324 := eq_true q324
                                                            have p325 : 0 ≤ (x13_4 : Int) := of_decide_eq_true (by first | (with_reducible assumption) | assumption)
                                                            have q325 : x13_4 < (t289.length : Int) := of_decide_eq_true (by first | (with_reducible assumption) | assumption)
                                                            obtain ⟨ad325, A325_0, c325_0, e325, hx325_0, hl325_0, hi325_0⟩ := at_T36 (Kd.N_reads' HO_3.out).2.2 x13_4 p325 q325
                                                            cases e325
                                                            obtain ⟨ce325, hce325, hMe325, hcc325⟩ := Kd.N_get HO_3.out z36 x13_4 p325 (by first | exact q325 | exact of_decide_eq_true (by first | (with_reducible assumption) | assumption) | (have e_ := (Kd.N_reads' HO_3.out).1; omega))
                                                            obtain ⟨ua325_0, uc325_0, rfl, ul325_0, ge325_0⟩ := k36_openF hMe325
                                                            have hv325_0 := hcc325 0 _ rfl
                                                            rw [Nat.add_zero, show (k36).sz = 1 from rfl, Nat.mul_one] at hv325_0
                                                            replace hv325_0 := Option.some.inj (hv325_0.symm.trans hx325_0)
                                                            injection hv325_0 with hva_ hvn_ hvc_
                                                            rw [hva_] at ge325_0
                                                            rw [hvc_] at ul325_0
                                                            have HL325_0 := Aside0.mk (show Kd.V (Kd.int .i64) 3 _ w.heap.size _ _ ((rd_T36 t289 x13_4).f0) from Kd.V_mk ul325_0 ge325_0)
                                                            clear hva_ hvn_ hvc_ ge325_0 ul325_0
                                                            clear hcc325 hce325
                                                            have HR325_0 := Aside0.mk hi325_0
                                                            have HC325_0 := Aside0.mk hl325_0
                                                            clear hi325_0 hl325_0
                                                            replace p325 := eq_true p325
                                                            replace q325 := eq_true q325
                                                            have p326 : 0 ≤ (x13_4 : Int) := of_decide_eq_true (by first | (with_reducible assumption) | assumption)
                                                            have q326 : x13_4 < (t289.length : Int) := of_decide_eq_true (by first | (with_reducible assumption) | assumption)
                                                            obtain ⟨ad326, A326_0, c326_0, e326, hx326_0, hl326_0, hi326_0⟩ := at_T36 (Kd.N_reads' HO_3.out).2.2 x13_4 p326 q326
                                                            obtain rfl : ad325 = ad326 := (by injection e326)
                                                            obtain ⟨ce326, hce326, hMe326, hcc326⟩ := Kd.N_get HO_3.out z36 x13_4 p326 (by first | exact q326 | exact of_decide_eq_true (by first | (with_reducible assumption) | assumption) | (have e_ := (Kd.N_reads' HO_3.out).1; omega))
                                                            obtain ⟨ua326_0, uc326_0, rfl, ul326_0, ge326_0⟩ := k36_openF hMe326
                                                            have hv326_0 := hcc326 0 _ rfl
                                                            rw [Nat.add_zero, show (k36).sz = 1 from rfl, Nat.mul_one] at hv326_0
                                                            replace hv326_0 := Option.some.inj (hv326_0.symm.trans hx326_0)
                                                            injection hv326_0 with hva_ hvn_ hvc_
                                                            rw [hva_] at ge326_0
                                                            rw [hvc_] at ul326_0
                                                            have HL326_0 := Aside0.mk (show Kd.V (Kd.int .i64) 3 _ w.heap.size _ _ ((rd_T36 t289 x13_4).f0) from Kd.V_mk ul326_0 ge326_0)
                                                            clear hva_ hvn_ hvc_ ge326_0 ul326_0
                                                            clear hcc326 hce326
                                                            have HR326_0 := Aside0.mk hi326_0
                                                            have HC326_0 := Aside0.mk hl326_0
                                                            clear hi326_0 hl326_0
                                                            replace p326 := eq_true p326
                                                            replace q326 := eq_true q326
                                                            have ea_ := Option.some.inj (hx325_0.symm.trans hx326_0)
                                                            injection ea_ with ea_ en_ ec_
                                                            subst ea_
                                                            subst ec_
                                                            clear en_
                                                            have p327 : 0 ≤ (x12_2 : Int) := of_decide_eq_true (by first | (with_reducible assumption) | assumption)
                                                            have q327 : x12_2 < (t294.length : Int) := of_decide_eq_true (by first | (with_reducible assumption) | assumption)
                                                            obtain ⟨ad327, e327, hx327_0⟩ := Kd.at_int (Kd.R_reads' HO_6.out).2.2 x12_2 p327 q327
                                                            obtain rfl : ad319 = ad327 := (by injection e327)
                                                            replace p327 := eq_true p327
                                                            replace q327 := eq_true q327
                                                            have p328 : 0 ≤ ((rd t294 x12_2) : Int) := of_decide_eq_true (by first | (with_reducible assumption) | assumption)
                                                            have q328 : (rd t294 x12_2) < (((rd_T36 t289 x13_4).f0).length : Int) := of_decide_eq_true (by first | (with_reducible assumption) | assumption)
                                                            obtain ⟨ad328, e328, hx328_0⟩ := Kd.at_int (by repeat (first | (with_reducible exact HR326_0.out) | (with_reducible refine Kd.C_alloc ?_ _) | (with_reducible refine Kd.C_drewN ?_ _) | (with_reducible refine Kd.C_drew ?_) | exact HR326_0.out)) (rd t294 x12_2) p328 q328
                                                            cases e328
                                                            replace p328 := eq_true p328
                                                            replace q328 := eq_true q328
                                                            have p329 : 0 ≤ (x12_2 : Int) := of_decide_eq_true (by first | (with_reducible assumption) | assumption)
                                                            have q329 : x12_2 < (t289.length : Int) := of_decide_eq_true (by first | (with_reducible assumption) | assumption)
                                                            obtain ⟨ad329, A329_0, c329_0, e329, hx329_0, hl329_0, hi329_0⟩ := at_T36 (Kd.N_reads' HO_3.out).2.2 x12_2 p329 q329
                                                            obtain rfl : ad325 = ad329 := (by injection e329)
                                                            obtain ⟨ce329, hce329, hMe329, hcc329⟩ := Kd.N_get HO_3.out z36 x12_2 p329 (by first | exact q329 | exact of_decide_eq_true (by first | (with_reducible assumption) | assumption) | (have e_ := (Kd.N_reads' HO_3.out).1; omega))
                                                            obtain ⟨ua329_0, uc329_0, rfl, ul329_0, ge329_0⟩ := k36_openF hMe329
                                                            have hv329_0 := hcc329 0 _ rfl
                                                            rw [Nat.add_zero, show (k36).sz = 1 from rfl, Nat.mul_one] at hv329_0
                                                            replace hv329_0 := Option.some.inj (hv329_0.symm.trans hx329_0)
                                                            injection hv329_0 with hva_ hvn_ hvc_
                                                            rw [hva_] at ge329_0
                                                            rw [hvc_] at ul329_0
                                                            have HL329_0 := Aside0.mk (show Kd.V (Kd.int .i64) 3 _ w.heap.size _ _ ((rd_T36 t289 x12_2).f0) from Kd.V_mk ul329_0 ge329_0)
                                                            clear hva_ hvn_ hvc_ ge329_0 ul329_0
                                                            clear hcc329 hce329
                                                            have HR329_0 := Aside0.mk hi329_0
                                                            have HC329_0 := Aside0.mk hl329_0
                                                            clear hi329_0 hl329_0
                                                            replace p329 := eq_true p329
                                                            replace q329 := eq_true q329
                                                            have p330 : 0 ≤ (x12_2 : Int) := of_decide_eq_true (by first | (with_reducible assumption) | assumption)
                                                            have q330 : x12_2 < (t294.length : Int) := of_decide_eq_true (by first | (with_reducible assumption) | assumption)
                                                            obtain ⟨ad330, e330, hx330_0⟩ := Kd.at_int (Kd.R_reads' HO_6.out).2.2 x12_2 p330 q330
                                                            obtain rfl : ad319 = ad330 := (by injection e330)
                                                            replace p330 := eq_true p330
                                                            replace q330 := eq_true q330
                                                            have p331 : 0 ≤ ((rd t294 x12_2) : Int) := of_decide_eq_true (by first | (with_reducible assumption) | assumption)
                                                            have q331 : (rd t294 x12_2) < (((rd_T36 t289 x12_2).f0).length : Int) := of_decide_eq_true (by first | (with_reducible assumption) | assumption)
                                                            obtain ⟨ad331, e331, hx331_0⟩ := Kd.at_int (by repeat (first | (with_reducible exact HR329_0.out) | (with_reducible refine Kd.C_alloc ?_ _) | (with_reducible refine Kd.C_drewN ?_ _) | (with_reducible refine Kd.C_drew ?_) | exact HR329_0.out)) (rd t294 x12_2) p331 q331
                                                            cases e331
                                                            replace p331 := eq_true p331
                                                            replace q331 := eq_true q331
                                                            go_wp2
                                                            repeat (go_quiet (fail); try go_wp2)
                                                            go_roundg k4
                                                            case measure => have := HJ12.out; have := HK2.out; have := HJ39.out; have := HK4.out; omega
                                                            case rel => exact ⟨(wrap64 (x13_4 + 1)), (by first | rfl | (simp; done) | (simp [*]; done)), H', ⟨by have := HJ12.out; have := HK2.out; have := HJ39.out; have := HK4.out; omega⟩, ⟨by (with_reducible repeat (first | apply Kd.N_alloc | apply Kd.N_drewN | apply Kd.N_drew)); exact HO_3.out⟩, ⟨by (with_reducible repeat (first | apply Kd.R_alloc | apply Kd.R_drewN | apply Kd.R_drew)); exact HO_6.out⟩, ⟨by repeat (first | (with_reducible first | exact HB.out | apply below_alloc | apply pw_below_drewN | apply below_drew1) | exact HB.out)⟩⟩
                                                        · rw [if_neg c56] at H
                                                          exact absurd H (by simp)
                                                      · rw [if_neg c55] at H
                                                        exact absurd H (by simp)
                                                  · rw [if_neg c53] at H
                                                    exact absurd H (by simp)
                                                · rw [if_neg c52] at H
                                                  have c52b0 : decide ((rd t294 x12_2) < (((rd_T36 t289 x13_4).f0).length : Int)) = false := decide_eq_false c52
                                                  clear c52
                                                  have H' := Aside0.mk H
                                                  clear H
                                                  have p323 : 0 ≤ (x13_4 : Int) := of_decide_eq_true (by first | (with_reducible assumption) | assumption)
                                                  have q323 : x13_4 < (t294.length : Int) := of_decide_eq_true (by first | (with_reducible assumption) | assumption)
                                                  obtain ⟨ad323, e323, hx323_0⟩ := Kd.at_int (Kd.R_reads' HO_6.out).2.2 x13_4 p323 q323
                                                  obtain rfl : ad319 = ad323 := (by injection e323)
                                                  replace p323 := eq_true p323
                                                  replace q323 := eq_true q323
                                                  have p324 : 0 ≤ (x12_2 : Int) := of_decide_eq_true (by first | (with_reducible assumption) | assumption)
                                                  have q324 : x12_2 < (t294.length : Int) := of_decide_eq_true (by first | (with_reducible assumption) | assumption)
                                                  obtain ⟨ad324, e324, hx324_0⟩ := Kd.at_int (Kd.R_reads' HO_6.out).2.2 x12_2 p324 q324
                                                  obtain rfl : ad319 = ad324 := (by injection e324)
                                                  replace p324 := eq_true p324
                                                  replace q324 := eq_true q324
                                                  have p325 : 0 ≤ (x13_4 : Int) := of_decide_eq_true (by first | (with_reducible assumption) | assumption)
                                                  have q325 : x13_4 < (t289.length : Int) := of_decide_eq_true (by first | (with_reducible assumption) | assumption)
                                                  obtain ⟨ad325, A325_0, c325_0, e325, hx325_0, hl325_0, hi325_0⟩ := at_T36 (Kd.N_reads' HO_3.out).2.2 x13_4 p325 q325
                                                  cases e325
                                                  obtain ⟨ce325, hce325, hMe325, hcc325⟩ := Kd.N_get HO_3.out z36 x13_4 p325 (by first | exact q325 | exact of_decide_eq_true (by first | (with_reducible assumption) | assumption) | (have e_ := (Kd.N_reads' HO_3.out).1; omega))
                                                  obtain ⟨ua325_0, uc325_0, rfl, ul325_0, ge325_0⟩ := k36_openF hMe325
                                                  have hv325_0 := hcc325 0 _ rfl
                                                  rw [Nat.add_zero, show (k36).sz = 1 from rfl, Nat.mul_one] at hv325_0
                                                  replace hv325_0 := Option.some.inj (hv325_0.symm.trans hx325_0)
                                                  injection hv325_0 with hva_ hvn_ hvc_
                                                  rw [hva_] at ge325_0
                                                  rw [hvc_] at ul325_0
                                                  have HL325_0 := Aside0.mk (show Kd.V (Kd.int .i64) 3 _ w.heap.size _ _ ((rd_T36 t289 x13_4).f0) from Kd.V_mk ul325_0 ge325_0)
                                                  clear hva_ hvn_ hvc_ ge325_0 ul325_0
                                                  clear hcc325 hce325
                                                  have HR325_0 := Aside0.mk hi325_0
                                                  have HC325_0 := Aside0.mk hl325_0
                                                  clear hi325_0 hl325_0
                                                  replace p325 := eq_true p325
                                                  replace q325 := eq_true q325
                                                  go_wp2
                                                  repeat (go_quiet (fail); try go_wp2)
                                                  go_roundg k4
                                                  case measure => have := HJ12.out; have := HK2.out; have := HJ39.out; have := HK4.out; omega
                                                  case rel => exact ⟨(wrap64 (x13_4 + 1)), (by first | rfl | (simp; done) | (simp [*]; done)), H', ⟨by have := HJ12.out; have := HK2.out; have := HJ39.out; have := HK4.out; omega⟩, ⟨by (with_reducible repeat (first | apply Kd.N_alloc | apply Kd.N_drewN | apply Kd.N_drew)); exact HO_3.out⟩, ⟨by (with_reducible repeat (first | apply Kd.R_alloc | apply Kd.R_drewN | apply Kd.R_drew)); exact HO_6.out⟩, ⟨by repeat (first | (with_reducible first | exact HB.out | apply below_alloc | apply pw_below_drewN | apply below_drew1) | exact HB.out)⟩⟩
                                              · rw [if_neg c51] at H
                                                exact absurd H (by simp)
                                            · rw [if_neg c50] at H
                                              exact absurd H (by simp)
                                          · rw [if_neg c49] at H
                                            exact absurd H (by simp)
                                        · rw [if_neg c48] at H
                                          have c48b0 : decide ((rd t294 x13_4) < 0) = false := decide_eq_false c48
                                          clear c48
                                          by_cases c58 : 0 ≤ x12_2
                                          · rw [if_pos c58] at H
                                            have c58b0 : decide (0 ≤ x12_2) = true := decide_eq_true c58
                                            clear c58
                                            by_cases c59 : x12_2 < (t294.length : Int)
                                            · rw [if_pos c59] at H
                                              have c59b0 : decide (x12_2 < (t294.length : Int)) = true := decide_eq_true c59
                                              clear c59
                                              by_cases c60 : (rd t294 x13_4) ≥ (rd t294 x12_2)
                                              · rw [if_pos c60] at H
                                                have c60b0 : decide ((rd t294 x12_2) ≤ (rd t294 x13_4)) = true := decide_eq_true c60
                                                clear c60
                                                by_cases c61 : x13_4 < (t289.length : Int)
                                                · rw [if_pos c61] at H
                                                  have c61b0 : decide (x13_4 < (t289.length : Int)) = true := decide_eq_true c61
                                                  clear c61
                                                  by_cases c62 : (rd t294 x12_2) < (((rd_T36 t289 x13_4).f0).length : Int)
                                                  · rw [if_pos c62] at H
                                                    have c62b0 : decide ((rd t294 x12_2) < (((rd_T36 t289 x13_4).f0).length : Int)) = true := decide_eq_true c62
                                                    clear c62
                                                    by_cases c63 : 0 ≤ (rd t294 x12_2)
                                                    · rw [if_pos c63] at H
                                                      have c63b0 : decide (0 ≤ (rd t294 x12_2)) = true := decide_eq_true c63
                                                      clear c63
                                                      by_cases c64 : t290 = 0
                                                      · rw [if_pos c64] at H
                                                        exact absurd H (by simp)
                                                      · rw [if_neg c64] at H
                                                        have c64b0 : (t290 == 0) = false := beq_eq_false_iff_ne.mpr c64
                                                        have c64b1 : (t290 != 0) = true := bne_iff_ne.mpr c64
                                                        by_cases c65 : x12_2 < (t289.length : Int)
                                                        · rw [if_pos c65] at H
                                                          have c65b0 : decide (x12_2 < (t289.length : Int)) = true := decide_eq_true c65
                                                          clear c65
                                                          by_cases c66 : (rd t294 x12_2) < (((rd_T36 t289 x12_2).f0).length : Int)
                                                          · rw [if_pos c66] at H
                                                            have c66b0 : decide ((rd t294 x12_2) < (((rd_T36 t289 x12_2).f0).length : Int)) = true := decide_eq_true c66
                                                            clear c66
                                                            by_cases c67 : (Int.tmod (rd ((rd_T36 t289 x13_4).f0) (rd t294 x12_2)) t290) = (Int.tmod (rd ((rd_T36 t289 x12_2).f0) (rd t294 x12_2)) t290)
                                                            · rw [if_pos c67] at H
                                                              have c67b0 : ((Int.tmod (rd ((rd_T36 t289 x13_4).f0) (rd t294 x12_2)) t290) == (Int.tmod (rd ((rd_T36 t289 x12_2).f0) (rd t294 x12_2)) t290)) = true := beq_iff_eq.mpr c67
                                                              have c67b1 : ((Int.tmod (rd ((rd_T36 t289 x13_4).f0) (rd t294 x12_2)) t290) != (Int.tmod (rd ((rd_T36 t289 x12_2).f0) (rd t294 x12_2)) t290)) = false := bne_eq_false_iff_eq.mpr c67
                                                              clear c67
                                                              obtain rfl := Option.some.inj H
                                                              have p323 : 0 ≤ (x13_4 : Int) := of_decide_eq_true (by first | (with_reducible assumption) | assumption)
                                                              have q323 : x13_4 < (t294.length : Int) := of_decide_eq_true (by first | (with_reducible assumption) | assumption)
                                                              obtain ⟨ad323, e323, hx323_0⟩ := Kd.at_int (Kd.R_reads' HO_6.out).2.2 x13_4 p323 q323
                                                              obtain rfl : ad319 = ad323 := (by injection e323)
                                                              replace p323 := eq_true p323
                                                              replace q323 := eq_true q323
                                                              have p332 : 0 ≤ (x13_4 : Int) := of_decide_eq_true (by first | (with_reducible assumption) | assumption)
                                                              have q332 : x13_4 < (t294.length : Int) := of_decide_eq_true (by first | (with_reducible assumption) | assumption)
                                                              obtain ⟨ad332, e332, hx332_0⟩ := Kd.at_int (Kd.R_reads' HO_6.out).2.2 x13_4 p332 q332
                                                              obtain rfl : ad319 = ad332 := (by injection e332)
                                                              replace p332 := eq_true p332
                                                              replace q332 := eq_true q332
                                                              have p333 : 0 ≤ (x12_2 : Int) := of_decide_eq_true (by first | (with_reducible assumption) | assumption)
                                                              have q333 : x12_2 < (t294.length : Int) := of_decide_eq_true (by first | (with_reducible assumption) | assumption)
                                                              obtain ⟨ad333, e333, hx333_0⟩ := Kd.at_int (Kd.R_reads' HO_6.out).2.2 x12_2 p333 q333
                                                              obtain rfl : ad319 = ad333 := (by injection e333)
                                                              replace p333 := eq_true p333
                                                              replace q333 := eq_true q333
                                                              have p334 : 0 ≤ (x12_2 : Int) := of_decide_eq_true (by first | (with_reducible assumption) | assumption)
                                                              have q334 : x12_2 < (t294.length : Int) := of_decide_eq_true (by first | (with_reducible assumption) | assumption)
                                                              obtain ⟨ad334, e334, hx334_0⟩ := Kd.at_int (Kd.R_reads' HO_6.out).2.2 x12_2 p334 q334
                                                              obtain rfl : ad319 = ad334 := (by injection e334)
                                                              replace p334 := eq_true p334
                                                              replace q334 := eq_true q334
                                                              have p335 : 0 ≤ (x13_4 : Int) := of_decide_eq_true (by first | (with_reducible assumption) | assumption)
                                                              have q335 : x13_4 < (t289.length : Int) := of_decide_eq_true (by first | (with_reducible assumption) | assumption)
                                                              obtain ⟨ad335, A335_0, c335_0, e335, hx335_0, hl335_0, hi335_0⟩ := at_T36 (Kd.N_reads' HO_3.out).2.2 x13_4 p335 q335
                                                              cases e335
                                                              obtain ⟨ce335, hce335, hMe335, hcc335⟩ := Kd.N_get HO_3.out z36 x13_4 p335 (by first | exact q335 | exact of_decide_eq_true (by first | (with_reducible assumption) | assumption) | (have e_ := (Kd.N_reads' HO_3.out).1; omega))
                                                              obtain ⟨ua335_0, uc335_0, rfl, ul335_0, ge335_0⟩ := k36_openF hMe335
                                                              have hv335_0 := hcc335 0 _ rfl
                                                              rw [Nat.add_zero, show (k36).sz = 1 from rfl, Nat.mul_one] at hv335_0
                                                              replace hv335_0 := Option.some.inj (hv335_0.symm.trans hx335_0)
                                                              injection hv335_0 with hva_ hvn_ hvc_
                                                              rw [hva_] at ge335_0
                                                              rw [hvc_] at ul335_0
                                                              have HL335_0 := Aside0.mk (show Kd.V (Kd.int .i64) 3 _ w.heap.size _ _ ((rd_T36 t289 x13_4).f0) from Kd.V_mk ul335_0 ge335_0)
                                                              clear hva_ hvn_ hvc_ ge335_0 ul335_0
                                                              clear hcc335 hce335
                                                              have HR335_0 := Aside0.mk hi335_0
                                                              have HC335_0 := Aside0.mk hl335_0
                                                              clear hi335_0 hl335_0
                                                              replace p335 := eq_true p335
                                                              replace q335 := eq_true q335
                                                              have p336 : 0 ≤ (x13_4 : Int) := of_decide_eq_true (by first | (with_reducible assumption) | assumption)
                                                              have q336 : x13_4 < (t289.length : Int) := of_decide_eq_true (by first | (with_reducible assumption) | assumption)
                                                              obtain ⟨ad336, A336_0, c336_0, e336, hx336_0, hl336_0, hi336_0⟩ := at_T36 (Kd.N_reads' HO_3.out).2.2 x13_4 p336 q336
                                                              obtain rfl : ad335 = ad336 := (by injection e336)
                                                              obtain ⟨ce336, hce336, hMe336, hcc336⟩ := Kd.N_get HO_3.out z36 x13_4 p336 (by first | exact q336 | exact of_decide_eq_true (by first | (with_reducible assumption) | assumption) | (have e_ := (Kd.N_reads' HO_3.out).1; omega))
                                                              obtain ⟨ua336_0, uc336_0, rfl, ul336_0, ge336_0⟩ := k36_openF hMe336
                                                              have hv336_0 := hcc336 0 _ rfl
                                                              rw [Nat.add_zero, show (k36).sz = 1 from rfl, Nat.mul_one] at hv336_0
                                                              replace hv336_0 := Option.some.inj (hv336_0.symm.trans hx336_0)
                                                              injection hv336_0 with hva_ hvn_ hvc_
                                                              rw [hva_] at ge336_0
                                                              rw [hvc_] at ul336_0
                                                              have HL336_0 := Aside0.mk (show Kd.V (Kd.int .i64) 3 _ w.heap.size _ _ ((rd_T36 t289 x13_4).f0) from Kd.V_mk ul336_0 ge336_0)
                                                              clear hva_ hvn_ hvc_ ge336_0 ul336_0
                                                              clear hcc336 hce336
                                                              have HR336_0 := Aside0.mk hi336_0
                                                              have HC336_0 := Aside0.mk hl336_0
                                                              clear hi336_0 hl336_0
                                                              replace p336 := eq_true p336
                                                              replace q336 := eq_true q336
                                                              have ea_ := Option.some.inj (hx335_0.symm.trans hx336_0)
                                                              injection ea_ with ea_ en_ ec_
                                                              subst ea_
                                                              subst ec_
                                                              clear en_
                                                              have p337 : 0 ≤ (x12_2 : Int) := of_decide_eq_true (by first | (with_reducible assumption) | assumption)
                                                              have q337 : x12_2 < (t294.length : Int) := of_decide_eq_true (by first | (with_reducible assumption) | assumption)
                                                              obtain ⟨ad337, e337, hx337_0⟩ := Kd.at_int (Kd.R_reads' HO_6.out).2.2 x12_2 p337 q337
                                                              obtain rfl : ad319 = ad337 := (by injection e337)
                                                              replace p337 := eq_true p337
                                                              replace q337 := eq_true q337
                                                              have p338 : 0 ≤ ((rd t294 x12_2) : Int) := of_decide_eq_true (by first | (with_reducible assumption) | assumption)
                                                              have q338 : (rd t294 x12_2) < (((rd_T36 t289 x13_4).f0).length : Int) := of_decide_eq_true (by first | (with_reducible assumption) | assumption)
                                                              obtain ⟨ad338, e338, hx338_0⟩ := Kd.at_int (by repeat (first | (with_reducible exact HR336_0.out) | (with_reducible refine Kd.C_alloc ?_ _) | (with_reducible refine Kd.C_drewN ?_ _) | (with_reducible refine Kd.C_drew ?_) | exact HR336_0.out)) (rd t294 x12_2) p338 q338
                                                              cases e338
                                                              replace p338 := eq_true p338
                                                              replace q338 := eq_true q338
                                                              have p339 : 0 ≤ (x12_2 : Int) := of_decide_eq_true (by first | (with_reducible assumption) | assumption)
                                                              have q339 : x12_2 < (t289.length : Int) := of_decide_eq_true (by first | (with_reducible assumption) | assumption)
                                                              obtain ⟨ad339, A339_0, c339_0, e339, hx339_0, hl339_0, hi339_0⟩ := at_T36 (Kd.N_reads' HO_3.out).2.2 x12_2 p339 q339
                                                              obtain rfl : ad335 = ad339 := (by injection e339)
                                                              obtain ⟨ce339, hce339, hMe339, hcc339⟩ := Kd.N_get HO_3.out z36 x12_2 p339 (by first | exact q339 | exact of_decide_eq_true (by first | (with_reducible assumption) | assumption) | (have e_ := (Kd.N_reads' HO_3.out).1; omega))
                                                              obtain ⟨ua339_0, uc339_0, rfl, ul339_0, ge339_0⟩ := k36_openF hMe339
                                                              have hv339_0 := hcc339 0 _ rfl
                                                              rw [Nat.add_zero, show (k36).sz = 1 from rfl, Nat.mul_one] at hv339_0
                                                              replace hv339_0 := Option.some.inj (hv339_0.symm.trans hx339_0)
                                                              injection hv339_0 with hva_ hvn_ hvc_
                                                              rw [hva_] at ge339_0
                                                              rw [hvc_] at ul339_0
                                                              have HL339_0 := Aside0.mk (show Kd.V (Kd.int .i64) 3 _ w.heap.size _ _ ((rd_T36 t289 x12_2).f0) from Kd.V_mk ul339_0 ge339_0)
                                                              clear hva_ hvn_ hvc_ ge339_0 ul339_0
                                                              clear hcc339 hce339
                                                              have HR339_0 := Aside0.mk hi339_0
                                                              have HC339_0 := Aside0.mk hl339_0
                                                              clear hi339_0 hl339_0
                                                              replace p339 := eq_true p339
                                                              replace q339 := eq_true q339
                                                              have p340 : 0 ≤ (x12_2 : Int) := of_decide_eq_true (by first | (with_reducible assumption) | assumption)
                                                              have q340 : x12_2 < (t294.length : Int) := of_decide_eq_true (by first | (with_reducible assumption) | assumption)
                                                              obtain ⟨ad340, e340, hx340_0⟩ := Kd.at_int (Kd.R_reads' HO_6.out).2.2 x12_2 p340 q340
                                                              obtain rfl : ad319 = ad340 := (by injection e340)
                                                              replace p340 := eq_true p340
                                                              replace q340 := eq_true q340
                                                              have p341 : 0 ≤ ((rd t294 x12_2) : Int) := of_decide_eq_true (by first | (with_reducible assumption) | assumption)
                                                              have q341 : (rd t294 x12_2) < (((rd_T36 t289 x12_2).f0).length : Int) := of_decide_eq_true (by first | (with_reducible assumption) | assumption)
                                                              obtain ⟨ad341, e341, hx341_0⟩ := Kd.at_int (by repeat (first | (with_reducible exact HR339_0.out) | (with_reducible refine Kd.C_alloc ?_ _) | (with_reducible refine Kd.C_drewN ?_ _) | (with_reducible refine Kd.C_drew ?_) | exact HR339_0.out)) (rd t294 x12_2) p341 q341
                                                              cases e341
                                                              replace p341 := eq_true p341
                                                              replace q341 := eq_true q341
                                                              go_wp2
                                                              repeat (go_quiet (fail); try go_wp2)
                                                              go_ret
                                                              exact ⟨by first | rfl | (simp [errW_none, errW_some] <;> rfl) | (simp [*, errW_none, errW_some] <;> rfl), by repeat (first | (with_reducible first | exact HB.out | apply below_alloc | apply pw_below_drewN | apply below_drew1) | exact HB.out)⟩
                                                            · rw [if_neg c67] at H
                                                              have c67b0 : ((Int.tmod (rd ((rd_T36 t289 x13_4).f0) (rd t294 x12_2)) t290) == (Int.tmod (rd ((rd_T36 t289 x12_2).f0) (rd t294 x12_2)) t290)) = false := beq_eq_false_iff_ne.mpr c67
                                                              have c67b1 : ((Int.tmod (rd ((rd_T36 t289 x13_4).f0) (rd t294 x12_2)) t290) != (Int.tmod (rd ((rd_T36 t289 x12_2).f0) (rd t294 x12_2)) t290)) = true := bne_iff_ne.mpr c67
                                                              have H' := Aside0.mk H
                                                              clear H
                                                              have p323 : 0 ≤ (x13_4 : Int) := of_decide_eq_true (by first | (with_reducible assumption) | assumption)
                                                              have q323 : x13_4 < (t294.length : Int) := of_decide_eq_true (by first | (with_reducible assumption) | assumption)
                                                              obtain ⟨ad323, e323, hx323_0⟩ := Kd.at_int (Kd.R_reads' HO_6.out).2.2 x13_4 p323 q323
                                                              obtain rfl : ad319 = ad323 := (by injection e323)
                                                              replace p323 := eq_true p323
                                                              replace q323 := eq_true q323
                                                              have p332 : 0 ≤ (x13_4 : Int) := of_decide_eq_true (by first | (with_reducible assumption) | assumption)
                                                              have q332 : x13_4 < (t294.length : Int) := of_decide_eq_true (by first | (with_reducible assumption) | assumption)
                                                              obtain ⟨ad332, e332, hx332_0⟩ := Kd.at_int (Kd.R_reads' HO_6.out).2.2 x13_4 p332 q332
                                                              obtain rfl : ad319 = ad332 := (by injection e332)
                                                              replace p332 := eq_true p332
                                                              replace q332 := eq_true q332
                                                              have p333 : 0 ≤ (x12_2 : Int) := of_decide_eq_true (by first | (with_reducible assumption) | assumption)
                                                              have q333 : x12_2 < (t294.length : Int) := of_decide_eq_true (by first | (with_reducible assumption) | assumption)
                                                              obtain ⟨ad333, e333, hx333_0⟩ := Kd.at_int (Kd.R_reads' HO_6.out).2.2 x12_2 p333 q333
                                                              obtain rfl : ad319 = ad333 := (by injection e333)
                                                              replace p333 := eq_true p333
                                                              replace q333 := eq_true q333
                                                              have p334 : 0 ≤ (x12_2 : Int) := of_decide_eq_true (by first | (with_reducible assumption) | assumption)
                                                              have q334 : x12_2 < (t294.length : Int) := of_decide_eq_true (by first | (with_reducible assumption) | assumption)
                                                              obtain ⟨ad334, e334, hx334_0⟩ := Kd.at_int (Kd.R_reads' HO_6.out).2.2 x12_2 p334 q334
                                                              obtain rfl : ad319 = ad334 := (by injection e334)
                                                              replace p334 := eq_true p334
                                                              replace q334 := eq_true q334
                                                              have p335 : 0 ≤ (x13_4 : Int) := of_decide_eq_true (by first | (with_reducible assumption) | assumption)
                                                              have q335 : x13_4 < (t289.length : Int) := of_decide_eq_true (by first | (with_reducible assumption) | assumption)
                                                              obtain ⟨ad335, A335_0, c335_0, e335, hx335_0, hl335_0, hi335_0⟩ := at_T36 (Kd.N_reads' HO_3.out).2.2 x13_4 p335 q335
                                                              cases e335
                                                              obtain ⟨ce335, hce335, hMe335, hcc335⟩ := Kd.N_get HO_3.out z36 x13_4 p335 (by first | exact q335 | exact of_decide_eq_true (by first | (with_reducible assumption) | assumption) | (have e_ := (Kd.N_reads' HO_3.out).1; omega))
                                                              obtain ⟨ua335_0, uc335_0, rfl, ul335_0, ge335_0⟩ := k36_openF hMe335
                                                              have hv335_0 := hcc335 0 _ rfl
                                                              rw [Nat.add_zero, show (k36).sz = 1 from rfl, Nat.mul_one] at hv335_0
                                                              replace hv335_0 := Option.some.inj (hv335_0.symm.trans hx335_0)
                                                              injection hv335_0 with hva_ hvn_ hvc_
                                                              rw [hva_] at ge335_0
                                                              rw [hvc_] at ul335_0
                                                              have HL335_0 := Aside0.mk (show Kd.V (Kd.int .i64) 3 _ w.heap.size _ _ ((rd_T36 t289 x13_4).f0) from Kd.V_mk ul335_0 ge335_0)
                                                              clear hva_ hvn_ hvc_ ge335_0 ul335_0
                                                              clear hcc335 hce335
                                                              have HR335_0 := Aside0.mk hi335_0
                                                              have HC335_0 := Aside0.mk hl335_0
                                                              clear hi335_0 hl335_0
                                                              replace p335 := eq_true p335
                                                              replace q335 := eq_true q335
                                                              have p336 : 0 ≤ (x13_4 : Int) := of_decide_eq_true (by first | (with_reducible assumption) | assumption)
                                                              have q336 : x13_4 < (t289.length : Int) := of_decide_eq_true (by first | (with_reducible assumption) | assumption)
                                                              obtain ⟨ad336, A336_0, c336_0, e336, hx336_0, hl336_0, hi336_0⟩ := at_T36 (Kd.N_reads' HO_3.out).2.2 x13_4 p336 q336
                                                              obtain rfl : ad335 = ad336 := (by injection e336)
                                                              obtain ⟨ce336, hce336, hMe336, hcc336⟩ := Kd.N_get HO_3.out z36 x13_4 p336 (by first | exact q336 | exact of_decide_eq_true (by first | (with_reducible assumption) | assumption) | (have e_ := (Kd.N_reads' HO_3.out).1; omega))
                                                              obtain ⟨ua336_0, uc336_0, rfl, ul336_0, ge336_0⟩ := k36_openF hMe336
                                                              have hv336_0 := hcc336 0 _ rfl
                                                              rw [Nat.add_zero, show (k36).sz = 1 from rfl, Nat.mul_one] at hv336_0
                                                              replace hv336_0 := Option.some.inj (hv336_0.symm.trans hx336_0)
                                                              injection hv336_0 with hva_ hvn_ hvc_
                                                              rw [hva_] at ge336_0
                                                              rw [hvc_] at ul336_0
                                                              have HL336_0 := Aside0.mk (show Kd.V (Kd.int .i64) 3 _ w.heap.size _ _ ((rd_T36 t289 x13_4).f0) from Kd.V_mk ul336_0 ge336_0)
                                                              clear hva_ hvn_ hvc_ ge336_0 ul336_0
                                                              clear hcc336 hce336
                                                              have HR336_0 := Aside0.mk hi336_0
                                                              have HC336_0 := Aside0.mk hl336_0
                                                              clear hi336_0 hl336_0
                                                              replace p336 := eq_true p336
                                                              replace q336 := eq_true q336
                                                              have ea_ := Option.some.inj (hx335_0.symm.trans hx336_0)
                                                              injection ea_ with ea_ en_ ec_
                                                              subst ea_
                                                              subst ec_
                                                              clear en_
                                                              have p337 : 0 ≤ (x12_2 : Int) := of_decide_eq_true (by first | (with_reducible assumption) | assumption)
                                                              have q337 : x12_2 < (t294.length : Int) := of_decide_eq_true (by first | (with_reducible assumption) | assumption)
                                                              obtain ⟨ad337, e337, hx337_0⟩ := Kd.at_int (Kd.R_reads' HO_6.out).2.2 x12_2 p337 q337
                                                              obtain rfl : ad319 = ad337 := (by injection e337)
                                                              replace p337 := eq_true p337
                                                              replace q337 := eq_true q337
                                                              have p338 : 0 ≤ ((rd t294 x12_2) : Int) := of_decide_eq_true (by first | (with_reducible assumption) | assumption)
                                                              have q338 : (rd t294 x12_2) < (((rd_T36 t289 x13_4).f0).length : Int) := of_decide_eq_true (by first | (with_reducible assumption) | assumption)
                                                              obtain ⟨ad338, e338, hx338_0⟩ := Kd.at_int (by repeat (first | (with_reducible exact HR336_0.out) | (with_reducible refine Kd.C_alloc ?_ _) | (with_reducible refine Kd.C_drewN ?_ _) | (with_reducible refine Kd.C_drew ?_) | exact HR336_0.out)) (rd t294 x12_2) p338 q338
                                                              cases e338
                                                              replace p338 := eq_true p338
                                                              replace q338 := eq_true q338
                                                              have p339 : 0 ≤ (x12_2 : Int) := of_decide_eq_true (by first | (with_reducible assumption) | assumption)
                                                              have q339 : x12_2 < (t289.length : Int) := of_decide_eq_true (by first | (with_reducible assumption) | assumption)
                                                              obtain ⟨ad339, A339_0, c339_0, e339, hx339_0, hl339_0, hi339_0⟩ := at_T36 (Kd.N_reads' HO_3.out).2.2 x12_2 p339 q339
                                                              obtain rfl : ad335 = ad339 := (by injection e339)
                                                              obtain ⟨ce339, hce339, hMe339, hcc339⟩ := Kd.N_get HO_3.out z36 x12_2 p339 (by first | exact q339 | exact of_decide_eq_true (by first | (with_reducible assumption) | assumption) | (have e_ := (Kd.N_reads' HO_3.out).1; omega))
                                                              obtain ⟨ua339_0, uc339_0, rfl, ul339_0, ge339_0⟩ := k36_openF hMe339
                                                              have hv339_0 := hcc339 0 _ rfl
                                                              rw [Nat.add_zero, show (k36).sz = 1 from rfl, Nat.mul_one] at hv339_0
                                                              replace hv339_0 := Option.some.inj (hv339_0.symm.trans hx339_0)
                                                              injection hv339_0 with hva_ hvn_ hvc_
                                                              rw [hva_] at ge339_0
                                                              rw [hvc_] at ul339_0
                                                              have HL339_0 := Aside0.mk (show Kd.V (Kd.int .i64) 3 _ w.heap.size _ _ ((rd_T36 t289 x12_2).f0) from Kd.V_mk ul339_0 ge339_0)
                                                              clear hva_ hvn_ hvc_ ge339_0 ul339_0
                                                              clear hcc339 hce339
                                                              have HR339_0 := Aside0.mk hi339_0
                                                              have HC339_0 := Aside0.mk hl339_0
                                                              clear hi339_0 hl339_0
                                                              replace p339 := eq_true p339
                                                              replace q339 := eq_true q339
                                                              have p340 : 0 ≤ (x12_2 : Int) := of_decide_eq_true (by first | (with_reducible assumption) | assumption)
                                                              have q340 : x12_2 < (t294.length : Int) := of_decide_eq_true (by first | (with_reducible assumption) | assumption)
                                                              obtain ⟨ad340, e340, hx340_0⟩ := Kd.at_int (Kd.R_reads' HO_6.out).2.2 x12_2 p340 q340
                                                              obtain rfl : ad319 = ad340 := (by injection e340)
                                                              replace p340 := eq_true p340
                                                              replace q340 := eq_true q340
                                                              have p341 : 0 ≤ ((rd t294 x12_2) : Int) := of_decide_eq_true (by first | (with_reducible assumption) | assumption)
                                                              have q341 : (rd t294 x12_2) < (((rd_T36 t289 x12_2).f0).length : Int) := of_decide_eq_true (by first | (with_reducible assumption) | assumption)
                                                              obtain ⟨ad341, e341, hx341_0⟩ := Kd.at_int (by repeat (first | (with_reducible exact HR339_0.out) | (with_reducible refine Kd.C_alloc ?_ _) | (with_reducible refine Kd.C_drewN ?_ _) | (with_reducible refine Kd.C_drew ?_) | exact HR339_0.out)) (rd t294 x12_2) p341 q341
                                                              cases e341
                                                              replace p341 := eq_true p341
                                                              replace q341 := eq_true q341
                                                              go_wp2
                                                              repeat (go_quiet (fail); try go_wp2)
                                                              go_roundg k4
                                                              case measure => have := HJ12.out; have := HK2.out; have := HJ39.out; have := HK4.out; omega
                                                              case rel => exact ⟨(wrap64 (x13_4 + 1)), (by first | rfl | (simp; done) | (simp [*]; done)), H', ⟨by have := HJ12.out; have := HK2.out; have := HJ39.out; have := HK4.out; omega⟩, ⟨by (with_reducible repeat (first | apply Kd.N_alloc | apply Kd.N_drewN | apply Kd.N_drew)); exact HO_3.out⟩, ⟨by (with_reducible repeat (first | apply Kd.R_alloc | apply Kd.R_drewN | apply Kd.R_drew)); exact HO_6.out⟩, ⟨by repeat (first | (with_reducible first | exact HB.out | apply below_alloc | apply pw_below_drewN | apply below_drew1) | exact HB.out)⟩⟩
                                                          · rw [if_neg c66] at H
                                                            exact absurd H (by simp)
                                                        · rw [if_neg c65] at H
                                                          exact absurd H (by simp)
                                                    · rw [if_neg c63] at H
                                                      exact absurd H (by simp)
                                                  · rw [if_neg c62] at H
                                                    have c62b0 : decide ((rd t294 x12_2) < (((rd_T36 t289 x13_4).f0).length : Int)) = false := decide_eq_false c62
                                                    clear c62
                                                    have H' := Aside0.mk H
                                                    clear H
                                                    have p323 : 0 ≤ (x13_4 : Int) := of_decide_eq_true (by first | (with_reducible assumption) | assumption)
                                                    have q323 : x13_4 < (t294.length : Int) := of_decide_eq_true (by first | (with_reducible assumption) | assumption)
                                                    obtain ⟨ad323, e323, hx323_0⟩ := Kd.at_int (Kd.R_reads' HO_6.out).2.2 x13_4 p323 q323
                                                    obtain rfl : ad319 = ad323 := (by injection e323)
                                                    replace p323 := eq_true p323
                                                    replace q323 := eq_true q323
                                                    have p332 : 0 ≤ (x13_4 : Int) := of_decide_eq_true (by first | (with_reducible assumption) | assumption)
                                                    have q332 : x13_4 < (t294.length : Int) := of_decide_eq_true (by first | (with_reducible assumption) | assumption)
                                                    obtain ⟨ad332, e332, hx332_0⟩ := Kd.at_int (Kd.R_reads' HO_6.out).2.2 x13_4 p332 q332
                                                    obtain rfl : ad319 = ad332 := (by injection e332)
                                                    replace p332 := eq_true p332
                                                    replace q332 := eq_true q332
                                                    have p333 : 0 ≤ (x12_2 : Int) := of_decide_eq_true (by first | (with_reducible assumption) | assumption)
                                                    have q333 : x12_2 < (t294.length : Int) := of_decide_eq_true (by first | (with_reducible assumption) | assumption)
                                                    obtain ⟨ad333, e333, hx333_0⟩ := Kd.at_int (Kd.R_reads' HO_6.out).2.2 x12_2 p333 q333
                                                    obtain rfl : ad319 = ad333 := (by injection e333)
                                                    replace p333 := eq_true p333
                                                    replace q333 := eq_true q333
                                                    have p334 : 0 ≤ (x12_2 : Int) := of_decide_eq_true (by first | (with_reducible assumption) | assumption)
                                                    have q334 : x12_2 < (t294.length : Int) := of_decide_eq_true (by first | (with_reducible assumption) | assumption)
                                                    obtain ⟨ad334, e334, hx334_0⟩ := Kd.at_int (Kd.R_reads' HO_6.out).2.2 x12_2 p334 q334
                                                    obtain rfl : ad319 = ad334 := (by injection e334)
                                                    replace p334 := eq_true p334
                                                    replace q334 := eq_true q334
                                                    have p335 : 0 ≤ (x13_4 : Int) := of_decide_eq_true (by first | (with_reducible assumption) | assumption)
                                                    have q335 : x13_4 < (t289.length : Int) := of_decide_eq_true (by first | (with_reducible assumption) | assumption)
                                                    obtain ⟨ad335, A335_0, c335_0, e335, hx335_0, hl335_0, hi335_0⟩ := at_T36 (Kd.N_reads' HO_3.out).2.2 x13_4 p335 q335
                                                    cases e335
                                                    obtain ⟨ce335, hce335, hMe335, hcc335⟩ := Kd.N_get HO_3.out z36 x13_4 p335 (by first | exact q335 | exact of_decide_eq_true (by first | (with_reducible assumption) | assumption) | (have e_ := (Kd.N_reads' HO_3.out).1; omega))
                                                    obtain ⟨ua335_0, uc335_0, rfl, ul335_0, ge335_0⟩ := k36_openF hMe335
                                                    have hv335_0 := hcc335 0 _ rfl
                                                    rw [Nat.add_zero, show (k36).sz = 1 from rfl, Nat.mul_one] at hv335_0
                                                    replace hv335_0 := Option.some.inj (hv335_0.symm.trans hx335_0)
                                                    injection hv335_0 with hva_ hvn_ hvc_
                                                    rw [hva_] at ge335_0
                                                    rw [hvc_] at ul335_0
                                                    have HL335_0 := Aside0.mk (show Kd.V (Kd.int .i64) 3 _ w.heap.size _ _ ((rd_T36 t289 x13_4).f0) from Kd.V_mk ul335_0 ge335_0)
                                                    clear hva_ hvn_ hvc_ ge335_0 ul335_0
                                                    clear hcc335 hce335
                                                    have HR335_0 := Aside0.mk hi335_0
                                                    have HC335_0 := Aside0.mk hl335_0
                                                    clear hi335_0 hl335_0
                                                    replace p335 := eq_true p335
                                                    replace q335 := eq_true q335
                                                    go_wp2
                                                    repeat (go_quiet (fail); try go_wp2)
                                                    go_roundg k4
                                                    case measure => have := HJ12.out; have := HK2.out; have := HJ39.out; have := HK4.out; omega
                                                    case rel => exact ⟨(wrap64 (x13_4 + 1)), (by first | rfl | (simp; done) | (simp [*]; done)), H', ⟨by have := HJ12.out; have := HK2.out; have := HJ39.out; have := HK4.out; omega⟩, ⟨by (with_reducible repeat (first | apply Kd.N_alloc | apply Kd.N_drewN | apply Kd.N_drew)); exact HO_3.out⟩, ⟨by (with_reducible repeat (first | apply Kd.R_alloc | apply Kd.R_drewN | apply Kd.R_drew)); exact HO_6.out⟩, ⟨by repeat (first | (with_reducible first | exact HB.out | apply below_alloc | apply pw_below_drewN | apply below_drew1) | exact HB.out)⟩⟩
                                                · rw [if_neg c61] at H
                                                  exact absurd H (by simp)
                                              · rw [if_neg c60] at H
                                                have c60b0 : decide ((rd t294 x12_2) ≤ (rd t294 x13_4)) = false := decide_eq_false c60
                                                clear c60
                                                have H' := Aside0.mk H
                                                clear H
                                                have p323 : 0 ≤ (x13_4 : Int) := of_decide_eq_true (by first | (with_reducible assumption) | assumption)
                                                have q323 : x13_4 < (t294.length : Int) := of_decide_eq_true (by first | (with_reducible assumption) | assumption)
                                                obtain ⟨ad323, e323, hx323_0⟩ := Kd.at_int (Kd.R_reads' HO_6.out).2.2 x13_4 p323 q323
                                                obtain rfl : ad319 = ad323 := (by injection e323)
                                                replace p323 := eq_true p323
                                                replace q323 := eq_true q323
                                                have p332 : 0 ≤ (x13_4 : Int) := of_decide_eq_true (by first | (with_reducible assumption) | assumption)
                                                have q332 : x13_4 < (t294.length : Int) := of_decide_eq_true (by first | (with_reducible assumption) | assumption)
                                                obtain ⟨ad332, e332, hx332_0⟩ := Kd.at_int (Kd.R_reads' HO_6.out).2.2 x13_4 p332 q332
                                                obtain rfl : ad319 = ad332 := (by injection e332)
                                                replace p332 := eq_true p332
                                                replace q332 := eq_true q332
                                                have p333 : 0 ≤ (x12_2 : Int) := of_decide_eq_true (by first | (with_reducible assumption) | assumption)
                                                have q333 : x12_2 < (t294.length : Int) := of_decide_eq_true (by first | (with_reducible assumption) | assumption)
                                                obtain ⟨ad333, e333, hx333_0⟩ := Kd.at_int (Kd.R_reads' HO_6.out).2.2 x12_2 p333 q333
                                                obtain rfl : ad319 = ad333 := (by injection e333)
                                                replace p333 := eq_true p333
                                                replace q333 := eq_true q333
                                                go_wp2
                                                repeat (go_quiet (fail); try go_wp2)
                                                go_roundg k4
                                                case measure => have := HJ12.out; have := HK2.out; have := HJ39.out; have := HK4.out; omega
                                                case rel => exact ⟨(wrap64 (x13_4 + 1)), (by first | rfl | (simp; done) | (simp [*]; done)), H', ⟨by have := HJ12.out; have := HK2.out; have := HJ39.out; have := HK4.out; omega⟩, ⟨by (with_reducible repeat (first | apply Kd.N_alloc | apply Kd.N_drewN | apply Kd.N_drew)); exact HO_3.out⟩, ⟨by (with_reducible repeat (first | apply Kd.R_alloc | apply Kd.R_drewN | apply Kd.R_drew)); exact HO_6.out⟩, ⟨by repeat (first | (with_reducible first | exact HB.out | apply below_alloc | apply pw_below_drewN | apply below_drew1) | exact HB.out)⟩⟩
                                            · rw [if_neg c59] at H
                                              exact absurd H (by simp)
                                          · rw [if_neg c58] at H
                                            exact absurd H (by simp)
                                      · rw [if_neg c47] at H
                                        exact absurd H (by simp)
                                  · rw [if_neg c45] at H
                                    have c45b0 : decide (x13_4 < (t294.length : Int)) = false := decide_eq_false c45
                                    clear c45
                                    have H' := Aside0.mk H
                                    clear H
                                    go_wp2
                                    repeat (go_quiet (fail); try go_wp2)
                                    go_roundg k4
                                    case measure => have := HJ12.out; have := HK2.out; have := HJ39.out; have := HK4.out; omega
                                    case rel => exact ⟨(wrap64 (x12_2 + 1)), (by first | rfl | (simp; done) | (simp [*]; done)), H', ⟨by have := HJ12.out; have := HK2.out; have := HJ39.out; have := HK4.out; omega⟩, ⟨by (with_reducible repeat (first | apply Kd.N_alloc | apply Kd.N_drewN | apply Kd.N_drew)); exact HO_3.out⟩, ⟨by (with_reducible repeat (first | apply Kd.R_alloc | apply Kd.R_drewN | apply Kd.R_drew)); exact HO_6.out⟩, ⟨by repeat (first | (with_reducible first | exact HB.out | apply below_alloc | apply pw_below_drewN | apply below_drew1) | exact HB.out)⟩⟩
                    · rw [if_neg c37] at H
                      exact absurd H (by simp)
                  · rw [if_neg c36] at H
                    have c36b0 : decide (x12_2 < (t294.length : Int)) = false := decide_eq_false c36
                    clear c36
                    obtain rfl := Option.some.inj H
                    obtain ⟨Ao68, co68, eo68⟩ := Kd.R_slice HO_6.out
                    subst eo68
                    go_wp2
                    repeat (go_quiet (fail); try go_wp2)
                    go_ret
                    exact ⟨by first | rfl | (simp [errW_none, errW_some] <;> rfl) | (simp [*, errW_none, errW_some] <;> rfl), by repeat (first | (with_reducible first | exact HB.out | apply below_alloc | apply pw_below_drewN | apply below_drew1) | exact HB.out)⟩
            · replace c35 := Bool.eq_false_iff.mpr c35
              subst c35
              have H1 : (some ((t294.length : Int) == 0)) = some r := by rw [if_neg (show ¬ (false = true) by decide)] at H; exact H
              clear H
              have H := H1
              clear H1
              obtain rfl := Option.some.inj H
              obtain ⟨Ao69, co69, eo69⟩ := Kd.R_slice HO_6.out
              subst eo69
              go_wp2
              repeat (go_quiet (fail); try go_wp2)
              go_ret
              exact ⟨by first | rfl | (simp [errW_none, errW_some] <;> rfl) | (simp [*, errW_none, errW_some] <;> rfl), by repeat (first | (with_reducible first | exact HB.out | apply below_alloc | apply pw_below_drewN | apply below_drew1) | exact HB.out)⟩

/-- THE ONE PURE STATEMENT of laws_FnAlone: yours. -/
def laws_FnAlone.Pure : Prop := ∀ (l0 : List Int), l0.length ≤ maxLen → l0.length * 1 ≤ 140737488351232 → (∀ x ∈ l0, (Lit.int .u8 x).wf = true) → ∃ k, laws_FnAlone.f k l0 = some true
theorem laws_FnAlone.walk (P : laws_FnAlone.Pure) (a0 : Option Addr) (len0 cap0 : Nat) (z0 : List Int) (w : World) (w0 : (a0 = none ∧ len0 = 0 ∧ cap0 = 0 ∧ z0 = []) ∨ ∃ x, a0 = some x ∧ len0 ≤ cap0 ∧ cap0 ≤ maxLen ∧ z0.length = cap0 ∧ (∀ i, i < z0.length → w.cell? (x.add i) = some (.int .u8 (z0.getD i 0))) ∧ ∀ n ∈ z0, (Lit.int .u8 n).wf = true) (y0 : len0 * 1 ≤ 140737488351232) :
    Calls Try.prog 4 #[.slice a0 len0 cap0] w fun e w' => e = .returned (.bool true) ∧ Below w.heap.size w w' := by
  obtain ⟨l0, rfl, hr0, hm0, hw0, hc0⟩ := ReadsInt.ofRowC w0
  obtain ⟨k, h⟩ := P l0 hm0 y0 hw0
  refine (laws_FnAlone.calls k _ _ l0 true w (Kd.C_of_reads (d := (0 : Int)) (h1 := fun _ => rfl) hr0) hc0 h).mono ?_
  rintro e w' ⟨rfl, hd⟩
  exact ⟨rfl, hd⟩

end Go.Proofs.Ytheinelpeapleaa.MFnAlone
