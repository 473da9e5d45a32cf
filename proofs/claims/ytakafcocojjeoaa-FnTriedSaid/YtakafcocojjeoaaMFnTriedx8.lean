/- The functions that the law FnTried reaches, as plain functions, and that the code comes to them. Begun as a text of the print over stubs; turned by wip/handstub.py and wip/mend.py. -/
import Derived.Test.YtakafcocojjeoaaMFnTriedx0
import Derived.Test.YtakafcocojjeoaaMFnTriedx4
import Derived.Test.YtakafcocojjeoaaMFnTriedx6
import Derived.Test.YtakafcocojjeoaaMFnTriedx7
namespace Go.Proofs.Ytakafcocojjeoaa.MFnTried
open Go.RowKit Go.Proofs.YtakafcocojjeoaaW.PrintWords Go.Proofs.YtakafcocojjeoaaW.PrintLast Go.Proofs.YtakafcocojjeoaaW.PrintMore
attribute [local go_sem] max2_int min2_int max_two min_two max_three min_three max_four min_four   -- for this text's walks alone
set_option linter.unusedVariables false
set_option linter.unusedSimpArgs false

/-! ### laws_FnTried: function 4 -/
mutual
def laws_FnTried.j0 : Nat → Int → List Int → List (S43) → List Bool → List Int → Bool → Bool → Option (Bool)
 | 0, _, _, _, _, _, _, _ => none
 | k + 1, x3, x4, x5, x6, x7, x8, x100 => if x100 = true then (some false) else (laws_FnTried.l0 k x3 x4 x5 x6 x7 x8 0)
def laws_FnTried.l0 : Nat → Int → List Int → List (S43) → List Bool → List Int → Bool → Int → Option (Bool)
 | 0, _, _, _, _, _, _, _ => none
 | k + 1, x3, x4, x5, x6, x7, x8, x15 => if x15 < (x6.length : Int) then (if 0 ≤ x15 then (if x15 < (x5.length : Int) then (laws_FnTried.l1 k x3 x4 x5 x6 x7 x8 x15 0 0 ((rd_T43 x5 x15).f0) ((rd_T43 x5 x15).f1) ((rd_T43 x5 x15).f2)) else (none)) else (none)) else (if x8 = true then (if (x6.length : Int) = (x5.length : Int) then (some ((x7.length : Int) == (x5.length : Int))) else (some false)) else (some true))
def laws_FnTried.l1 : Nat → Int → List Int → List (S43) → List Bool → List Int → Bool → Int → Int → Int → Int → Int → Int → Option (Bool)
 | 0, _, _, _, _, _, _, _, _, _, _, _, _ => none
 | k + 1, x3, x4, x5, x6, x7, x8, x15, x17, x18, x400000, x400001, x400002 => if x18 < x15 then (if 0 ≤ x18 then (if x18 < (x6.length : Int) then (if rdOf false x6 x18 = true then (if x18 < (x5.length : Int) then (if (wrap64 (((rd_T43 x5 x18).f0) + ((rd_T43 x5 x18).f1))) > x400000 then (laws_FnTried.l1 k x3 x4 x5 x6 x7 x8 x15 (wrap64 (x17 + 1)) (wrap64 (x18 + 1)) x400000 x400001 x400002) else (laws_FnTried.l1 k x3 x4 x5 x6 x7 x8 x15 x17 (wrap64 (x18 + 1)) x400000 x400001 x400002)) else (none)) else (laws_FnTried.l1 k x3 x4 x5 x6 x7 x8 x15 x17 (wrap64 (x18 + 1)) x400000 x400001 x400002)) else (none)) else (none)) else (if 0 ≤ x15 then (if x15 < (x6.length : Int) then (if rdOf false x6 x15 = true then (if 0 ≤ x400002 then (if x400002 < (x4.length : Int) then (if ((rdOf false x6 x15) != (decide ((wrap64 (x3 - x17)) > (rd x4 x400002)))) = true then (some false) else (if x15 < (x7.length : Int) then (if (rd x7 x15) = (wrap64 (x17 + 1)) then (if (wrap64 (x17 + 1)) > x3 then (some false) else (laws_FnTried.l0 k x3 x4 x5 x6 x7 x8 (wrap64 (x15 + 1)))) else (some false)) else (none))) else (none)) else (none)) else (if 0 ≤ x400002 then (if x400002 < (x4.length : Int) then (if ((rdOf false x6 x15) != (decide ((wrap64 (x3 - x17)) > (rd x4 x400002)))) = true then (some false) else (if x15 < (x7.length : Int) then (if (rd x7 x15) = x17 then (if x17 > x3 then (some false) else (laws_FnTried.l0 k x3 x4 x5 x6 x7 x8 (wrap64 (x15 + 1)))) else (some false)) else (none))) else (none)) else (none))) else (none)) else (none))
end
def laws_FnTried.f (k : Nat) (l0 : List Int) : Option (Bool) := (laws_big.f l0).bind fun t356 => (if t356 = true then (some true) else ((spec_DrawTry.f k l0).bind fun bt357 => ((impl_Try.f k bt357.1 bt357.2.1 bt357.2.2).bind fun bt364 => ((spec_Try.f k bt357.1 bt357.2.1 bt357.2.2).bind fun bt371 => (if (bt364.2.2 != bt371.2.2) = true then (some false) else ((impl_Try.f k 1 (([0, 0, 0, 0] : List Int)) (([(⟨0, 5, 0⟩ : S43), (⟨4, 0, 0⟩ : S43), (⟨5, 0, 0⟩ : S43)] : List (S43)))).bind fun bt384 => (if bt384.2.2 = true then (if (bt384.1.length : Int) = 3 then (if 0 < (bt384.1.length : Int) then (if rdOf false bt384.1 0 = true then (if 1 < (bt384.1.length : Int) then (if rdOf false bt384.1 1 = true then (laws_FnTried.j0 k bt357.1 bt357.2.1 bt357.2.2 bt364.1 bt364.2.1 bt364.2.2 true) else (if 2 < (bt384.1.length : Int) then (if rdOf false bt384.1 2 = true then ((laws_sameInts.f k bt384.2.1 (([1, 1, 1] : List Int))).bind fun t397 => (if t397 = true then (if (bt364.1.length : Int) > (bt357.2.2.length : Int) then (laws_FnTried.j0 k bt357.1 bt357.2.1 bt357.2.2 bt364.1 bt364.2.1 bt364.2.2 true) else (laws_FnTried.j0 k bt357.1 bt357.2.1 bt357.2.2 bt364.1 bt364.2.1 bt364.2.2 ((bt364.2.1.length : Int) != (bt364.1.length : Int)))) else (laws_FnTried.j0 k bt357.1 bt357.2.1 bt357.2.2 bt364.1 bt364.2.1 bt364.2.2 true))) else (laws_FnTried.j0 k bt357.1 bt357.2.1 bt357.2.2 bt364.1 bt364.2.1 bt364.2.2 true)) else (none))) else (none)) else (laws_FnTried.j0 k bt357.1 bt357.2.1 bt357.2.2 bt364.1 bt364.2.1 bt364.2.2 true)) else (none)) else (laws_FnTried.j0 k bt357.1 bt357.2.1 bt357.2.2 bt364.1 bt364.2.1 bt364.2.2 true)) else (laws_FnTried.j0 k bt357.1 bt357.2.1 bt357.2.2 bt364.1 bt364.2.1 bt364.2.2 true))))))))
theorem laws_FnTried.mono_l : ∀ k, (∀ y0 y1 y2 y3 y4 y5 y6, LeO (laws_FnTried.j0 k y0 y1 y2 y3 y4 y5 y6) (laws_FnTried.j0 (k + 1) y0 y1 y2 y3 y4 y5 y6)) ∧ (∀ y0 y1 y2 y3 y4 y5 y6, LeO (laws_FnTried.l0 k y0 y1 y2 y3 y4 y5 y6) (laws_FnTried.l0 (k + 1) y0 y1 y2 y3 y4 y5 y6)) ∧ (∀ y0 y1 y2 y3 y4 y5 y6 y7 y8 y9 y10 y11, LeO (laws_FnTried.l1 k y0 y1 y2 y3 y4 y5 y6 y7 y8 y9 y10 y11) (laws_FnTried.l1 (k + 1) y0 y1 y2 y3 y4 y5 y6 y7 y8 y9 y10 y11))
 | 0 => ⟨fun _ _ _ _ _ _ _ r h => by simp [laws_FnTried.j0] at h, fun _ _ _ _ _ _ _ r h => by simp [laws_FnTried.l0] at h, fun _ _ _ _ _ _ _ _ _ _ _ _ r h => by simp [laws_FnTried.l1] at h⟩
 | k + 1 => by
  obtain ⟨ih0, ih1, ih2⟩ := laws_FnTried.mono_l k
  refine ⟨?_, ?_, ?_⟩
  ·intro y0 y1 y2 y3 y4 y5 y6
   unfold laws_FnTried.j0
   repeat' first
   | (with_reducible exact ih0 _ _ _ _ _ _ _)
   | (with_reducible exact ih1 _ _ _ _ _ _ _)
   | (with_reducible exact ih2 _ _ _ _ _ _ _ _ _ _ _ _)
   | (with_reducible exact impl_Try.mono _ _ _ _)
   | (with_reducible exact laws_sameInts.mono _ _ _)
   | (with_reducible exact spec_DrawTry.mono _ _)
   | (with_reducible exact spec_Try.mono _ _ _ _)
   | (with_reducible exact LeO.refl _)
   | (with_reducible exact LeO.none _)
   | (with_reducible refine LeO.ite ?_ ?_)
   | (with_reducible refine LeO.bind ?_ (fun _ => ?_))
   | exact ih0 _ _ _ _ _ _ _
   | exact ih1 _ _ _ _ _ _ _
   | exact ih2 _ _ _ _ _ _ _ _ _ _ _ _
   | exact impl_Try.mono _ _ _ _
   | exact laws_sameInts.mono _ _ _
   | exact spec_DrawTry.mono _ _
   | exact spec_Try.mono _ _ _ _
   | exact LeO.none _
   | refine LeO.ite ?_ ?_
   | refine LeO.bind ?_ (fun _ => ?_)
  ·intro y0 y1 y2 y3 y4 y5 y6
   unfold laws_FnTried.l0
   repeat' first
   | (with_reducible exact ih0 _ _ _ _ _ _ _)
   | (with_reducible exact ih1 _ _ _ _ _ _ _)
   | (with_reducible exact ih2 _ _ _ _ _ _ _ _ _ _ _ _)
   | (with_reducible exact impl_Try.mono _ _ _ _)
   | (with_reducible exact laws_sameInts.mono _ _ _)
   | (with_reducible exact spec_DrawTry.mono _ _)
   | (with_reducible exact spec_Try.mono _ _ _ _)
   | (with_reducible exact LeO.refl _)
   | (with_reducible exact LeO.none _)
   | (with_reducible refine LeO.ite ?_ ?_)
   | (with_reducible refine LeO.bind ?_ (fun _ => ?_))
   | exact ih0 _ _ _ _ _ _ _
   | exact ih1 _ _ _ _ _ _ _
   | exact ih2 _ _ _ _ _ _ _ _ _ _ _ _
   | exact impl_Try.mono _ _ _ _
   | exact laws_sameInts.mono _ _ _
   | exact spec_DrawTry.mono _ _
   | exact spec_Try.mono _ _ _ _
   | exact LeO.none _
   | refine LeO.ite ?_ ?_
   | refine LeO.bind ?_ (fun _ => ?_)
  ·intro y0 y1 y2 y3 y4 y5 y6 y7 y8 y9 y10 y11
   unfold laws_FnTried.l1
   repeat' first
   | (with_reducible exact ih0 _ _ _ _ _ _ _)
   | (with_reducible exact ih1 _ _ _ _ _ _ _)
   | (with_reducible exact ih2 _ _ _ _ _ _ _ _ _ _ _ _)
   | (with_reducible exact impl_Try.mono _ _ _ _)
   | (with_reducible exact laws_sameInts.mono _ _ _)
   | (with_reducible exact spec_DrawTry.mono _ _)
   | (with_reducible exact spec_Try.mono _ _ _ _)
   | (with_reducible exact LeO.refl _)
   | (with_reducible exact LeO.none _)
   | (with_reducible refine LeO.ite ?_ ?_)
   | (with_reducible refine LeO.bind ?_ (fun _ => ?_))
   | exact ih0 _ _ _ _ _ _ _
   | exact ih1 _ _ _ _ _ _ _
   | exact ih2 _ _ _ _ _ _ _ _ _ _ _ _
   | exact impl_Try.mono _ _ _ _
   | exact laws_sameInts.mono _ _ _
   | exact spec_DrawTry.mono _ _
   | exact spec_Try.mono _ _ _ _
   | exact LeO.none _
   | refine LeO.ite ?_ ?_
   | refine LeO.bind ?_ (fun _ => ?_)
theorem laws_FnTried.mono : ∀ a0 k, LeO (laws_FnTried.f k a0) (laws_FnTried.f (k + 1) a0) := by
 intro a0 k
 obtain ⟨ih0, ih1, ih2⟩ := laws_FnTried.mono_l k
 unfold laws_FnTried.f
 repeat' first
   | (with_reducible exact ih0 _ _ _ _ _ _ _)
   | (with_reducible exact ih1 _ _ _ _ _ _ _)
   | (with_reducible exact ih2 _ _ _ _ _ _ _ _ _ _ _ _)
   | (with_reducible exact impl_Try.mono _ _ _ _)
   | (with_reducible exact laws_sameInts.mono _ _ _)
   | (with_reducible exact spec_DrawTry.mono _ _)
   | (with_reducible exact spec_Try.mono _ _ _ _)
   | (with_reducible exact LeO.refl _)
   | (with_reducible exact LeO.none _)
   | (with_reducible refine LeO.ite ?_ ?_)
   | (with_reducible refine LeO.bind ?_ (fun _ => ?_))
   | exact ih0 _ _ _ _ _ _ _
   | exact ih1 _ _ _ _ _ _ _
   | exact ih2 _ _ _ _ _ _ _ _ _ _ _ _
   | exact impl_Try.mono _ _ _ _
   | exact laws_sameInts.mono _ _ _
   | exact spec_DrawTry.mono _ _
   | exact spec_Try.mono _ _ _ _
   | exact LeO.none _
   | refine LeO.ite ?_ ?_
   | refine LeO.bind ?_ (fun _ => ?_)
set_option maxHeartbeats 8000000 in
set_option maxRecDepth 100000 in
theorem laws_FnTried.calls (k : Nat) (A0 : Option Addr) (c0 : Nat) (l0 : List Int) (r : Bool) (w : World) (hr0 : Kd.C (Kd.int .u8) w A0 l0.length l0) (hc0 : l0.length ≤ c0) (h : laws_FnTried.f k l0 = some r) :
  Calls Try.prog 4 #[.slice A0 l0.length c0] w fun e w' => e = .returned (.bool r) ∧ Below w.heap.size w w' := by
 have hu43 := Try.underlying43
 have HR0 := Aside0.mk hr0
 have HC0 := Aside0.mk hc0
 clear hr0 hc0
 have HB := Aside0.mk (Below.refl w.heap.size w)
 have H : ((laws_big.f l0).bind fun t356 => (if t356 = true then (some true) else ((spec_DrawTry.f k l0).bind fun bt357 => ((impl_Try.f k bt357.1 bt357.2.1 bt357.2.2).bind fun bt364 => ((spec_Try.f k bt357.1 bt357.2.1 bt357.2.2).bind fun bt371 => (if (bt364.2.2 != bt371.2.2) = true then (some false) else ((impl_Try.f k 1 (([0, 0, 0, 0] : List Int)) (([(⟨0, 5, 0⟩ : S43), (⟨4, 0, 0⟩ : S43), (⟨5, 0, 0⟩ : S43)] : List (S43)))).bind fun bt384 => (if bt384.2.2 = true then (if (bt384.1.length : Int) = 3 then (if 0 < (bt384.1.length : Int) then (if rdOf false bt384.1 0 = true then (if 1 < (bt384.1.length : Int) then (if rdOf false bt384.1 1 = true then (laws_FnTried.j0 k bt357.1 bt357.2.1 bt357.2.2 bt364.1 bt364.2.1 bt364.2.2 true) else (if 2 < (bt384.1.length : Int) then (if rdOf false bt384.1 2 = true then ((laws_sameInts.f k bt384.2.1 (([1, 1, 1] : List Int))).bind fun t397 => (if t397 = true then (if (bt364.1.length : Int) > (bt357.2.2.length : Int) then (laws_FnTried.j0 k bt357.1 bt357.2.1 bt357.2.2 bt364.1 bt364.2.1 bt364.2.2 true) else (laws_FnTried.j0 k bt357.1 bt357.2.1 bt357.2.2 bt364.1 bt364.2.1 bt364.2.2 ((bt364.2.1.length : Int) != (bt364.1.length : Int)))) else (laws_FnTried.j0 k bt357.1 bt357.2.1 bt357.2.2 bt364.1 bt364.2.1 bt364.2.2 true))) else (laws_FnTried.j0 k bt357.1 bt357.2.1 bt357.2.2 bt364.1 bt364.2.1 bt364.2.2 true)) else (none))) else (none)) else (laws_FnTried.j0 k bt357.1 bt357.2.1 bt357.2.2 bt364.1 bt364.2.1 bt364.2.2 true)) else (none)) else (laws_FnTried.j0 k bt357.1 bt357.2.1 bt357.2.2 bt364.1 bt364.2.1 bt364.2.2 true)) else (laws_FnTried.j0 k bt357.1 bt357.2.1 bt357.2.2 bt364.1 bt364.2.1 bt364.2.2 true))))))))) = some r := h
 clear h
 replace H := Option.bind_eq_some_iff.mp H
 obtain ⟨t356, A20, H⟩ := H
 replace H : (if t356 = true then (some true) else ((spec_DrawTry.f k l0).bind fun bt357 => ((impl_Try.f k bt357.1 bt357.2.1 bt357.2.2).bind fun bt364 => ((spec_Try.f k bt357.1 bt357.2.1 bt357.2.2).bind fun bt371 => (if (bt364.2.2 != bt371.2.2) = true then (some false) else ((impl_Try.f k 1 (([0, 0, 0, 0] : List Int)) (([(⟨0, 5, 0⟩ : S43), (⟨4, 0, 0⟩ : S43), (⟨5, 0, 0⟩ : S43)] : List (S43)))).bind fun bt384 => (if bt384.2.2 = true then (if (bt384.1.length : Int) = 3 then (if 0 < (bt384.1.length : Int) then (if rdOf false bt384.1 0 = true then (if 1 < (bt384.1.length : Int) then (if rdOf false bt384.1 1 = true then (laws_FnTried.j0 k bt357.1 bt357.2.1 bt357.2.2 bt364.1 bt364.2.1 bt364.2.2 true) else (if 2 < (bt384.1.length : Int) then (if rdOf false bt384.1 2 = true then ((laws_sameInts.f k bt384.2.1 (([1, 1, 1] : List Int))).bind fun t397 => (if t397 = true then (if (bt364.1.length : Int) > (bt357.2.2.length : Int) then (laws_FnTried.j0 k bt357.1 bt357.2.1 bt357.2.2 bt364.1 bt364.2.1 bt364.2.2 true) else (laws_FnTried.j0 k bt357.1 bt357.2.1 bt357.2.2 bt364.1 bt364.2.1 bt364.2.2 ((bt364.2.1.length : Int) != (bt364.1.length : Int)))) else (laws_FnTried.j0 k bt357.1 bt357.2.1 bt357.2.2 bt364.1 bt364.2.1 bt364.2.2 true))) else (laws_FnTried.j0 k bt357.1 bt357.2.1 bt357.2.2 bt364.1 bt364.2.1 bt364.2.2 true)) else (none))) else (none)) else (laws_FnTried.j0 k bt357.1 bt357.2.1 bt357.2.2 bt364.1 bt364.2.1 bt364.2.2 true)) else (none)) else (laws_FnTried.j0 k bt357.1 bt357.2.1 bt357.2.2 bt364.1 bt364.2.1 bt364.2.2 true)) else (laws_FnTried.j0 k bt357.1 bt357.2.1 bt357.2.2 bt364.1 bt364.2.1 bt364.2.2 true)))))))) = some r := H
 have A2 := Aside0.mk A20
 clear A20
 by_cases c3 : t356 = true
 ·subst c3
  have H1 : (some true) = some r := by rw [if_pos rfl] at H; exact H
  clear H
  have H := H1
  clear H1
  obtain rfl := Option.some.inj H
  go_enter Try.func4, Try.ntmps4
  go_wp2_with (first | (go_at_call 20; (with_reducible refine (laws_big.calls _ _ l0 true _ ?side1 ?side2 A2.out).mono ?_); (case side1 => repeat (first | exact HR0.out | (with_reducible refine Kd.C_alloc ?_ _) | (with_reducible refine Kd.C_drewN ?_ _) | (with_reducible refine Kd.C_drew ?_))); (case side2 => exact HC0.out); rintro e w' ⟨rfl, ⟨nd, rfl⟩⟩; (try first | exact ⟨rfl, _, World.drewN_drewN _ _ _⟩ | exact ⟨rfl, _, Eq.trans (World.drewN_drewN _ _ _) (congrArg (World.drewN _) (Nat.add_assoc _ _ _))⟩)))
  repeat (go_quiet (first | (go_at_call 20; (with_reducible refine (laws_big.calls _ _ l0 true _ ?side1 ?side2 A2.out).mono ?_); (case side1 => repeat (first | exact HR0.out | (with_reducible refine Kd.C_alloc ?_ _) | (with_reducible refine Kd.C_drewN ?_ _) | (with_reducible refine Kd.C_drew ?_))); (case side2 => exact HC0.out); rintro e w' ⟨rfl, ⟨nd, rfl⟩⟩; (try first | exact ⟨rfl, _, World.drewN_drewN _ _ _⟩ | exact ⟨rfl, _, Eq.trans (World.drewN_drewN _ _ _) (congrArg (World.drewN _) (Nat.add_assoc _ _ _))⟩))); try go_wp2_with (first | (go_at_call 20; (with_reducible refine (laws_big.calls _ _ l0 true _ ?side1 ?side2 A2.out).mono ?_); (case side1 => repeat (first | exact HR0.out | (with_reducible refine Kd.C_alloc ?_ _) | (with_reducible refine Kd.C_drewN ?_ _) | (with_reducible refine Kd.C_drew ?_))); (case side2 => exact HC0.out); rintro e w' ⟨rfl, ⟨nd, rfl⟩⟩; (try first | exact ⟨rfl, _, World.drewN_drewN _ _ _⟩ | exact ⟨rfl, _, Eq.trans (World.drewN_drewN _ _ _) (congrArg (World.drewN _) (Nat.add_assoc _ _ _))⟩))))
  go_ret
  exact ⟨by first | rfl | (simp [errW_none, errW_some] <;> rfl) | (simp [*, errW_none, errW_some] <;> rfl), by repeat (first | (with_reducible first | exact HB.out | apply below_alloc | apply pw_below_drewN | apply below_drew1) | exact HB.out)⟩
 ·replace c3 := Bool.eq_false_iff.mpr c3
  subst c3
  have H1 : ((spec_DrawTry.f k l0).bind fun bt357 => ((impl_Try.f k bt357.1 bt357.2.1 bt357.2.2).bind fun bt364 => ((spec_Try.f k bt357.1 bt357.2.1 bt357.2.2).bind fun bt371 => (if (bt364.2.2 != bt371.2.2) = true then (some false) else ((impl_Try.f k 1 (([0, 0, 0, 0] : List Int)) (([(⟨0, 5, 0⟩ : S43), (⟨4, 0, 0⟩ : S43), (⟨5, 0, 0⟩ : S43)] : List (S43)))).bind fun bt384 => (if bt384.2.2 = true then (if (bt384.1.length : Int) = 3 then (if 0 < (bt384.1.length : Int) then (if rdOf false bt384.1 0 = true then (if 1 < (bt384.1.length : Int) then (if rdOf false bt384.1 1 = true then (laws_FnTried.j0 k bt357.1 bt357.2.1 bt357.2.2 bt364.1 bt364.2.1 bt364.2.2 true) else (if 2 < (bt384.1.length : Int) then (if rdOf false bt384.1 2 = true then ((laws_sameInts.f k bt384.2.1 (([1, 1, 1] : List Int))).bind fun t397 => (if t397 = true then (if (bt364.1.length : Int) > (bt357.2.2.length : Int) then (laws_FnTried.j0 k bt357.1 bt357.2.1 bt357.2.2 bt364.1 bt364.2.1 bt364.2.2 true) else (laws_FnTried.j0 k bt357.1 bt357.2.1 bt357.2.2 bt364.1 bt364.2.1 bt364.2.2 ((bt364.2.1.length : Int) != (bt364.1.length : Int)))) else (laws_FnTried.j0 k bt357.1 bt357.2.1 bt357.2.2 bt364.1 bt364.2.1 bt364.2.2 true))) else (laws_FnTried.j0 k bt357.1 bt357.2.1 bt357.2.2 bt364.1 bt364.2.1 bt364.2.2 true)) else (none))) else (none)) else (laws_FnTried.j0 k bt357.1 bt357.2.1 bt357.2.2 bt364.1 bt364.2.1 bt364.2.2 true)) else (none)) else (laws_FnTried.j0 k bt357.1 bt357.2.1 bt357.2.2 bt364.1 bt364.2.1 bt364.2.2 true)) else (laws_FnTried.j0 k bt357.1 bt357.2.1 bt357.2.2 bt364.1 bt364.2.1 bt364.2.2 true))))))) = some r := by rw [if_neg (show ¬ (false = true) by decide)] at H; exact H
  clear H
  have H := H1
  clear H1
  replace H := Option.bind_eq_some_iff.mp H
  obtain ⟨⟨t357, t358, t359⟩, A40, H⟩ := H
  replace H : ((impl_Try.f k t357 t358 t359).bind fun bt364 => ((spec_Try.f k t357 t358 t359).bind fun bt371 => (if (bt364.2.2 != bt371.2.2) = true then (some false) else ((impl_Try.f k 1 (([0, 0, 0, 0] : List Int)) (([(⟨0, 5, 0⟩ : S43), (⟨4, 0, 0⟩ : S43), (⟨5, 0, 0⟩ : S43)] : List (S43)))).bind fun bt384 => (if bt384.2.2 = true then (if (bt384.1.length : Int) = 3 then (if 0 < (bt384.1.length : Int) then (if rdOf false bt384.1 0 = true then (if 1 < (bt384.1.length : Int) then (if rdOf false bt384.1 1 = true then (laws_FnTried.j0 k t357 t358 t359 bt364.1 bt364.2.1 bt364.2.2 true) else (if 2 < (bt384.1.length : Int) then (if rdOf false bt384.1 2 = true then ((laws_sameInts.f k bt384.2.1 (([1, 1, 1] : List Int))).bind fun t397 => (if t397 = true then (if (bt364.1.length : Int) > (t359.length : Int) then (laws_FnTried.j0 k t357 t358 t359 bt364.1 bt364.2.1 bt364.2.2 true) else (laws_FnTried.j0 k t357 t358 t359 bt364.1 bt364.2.1 bt364.2.2 ((bt364.2.1.length : Int) != (bt364.1.length : Int)))) else (laws_FnTried.j0 k t357 t358 t359 bt364.1 bt364.2.1 bt364.2.2 true))) else (laws_FnTried.j0 k t357 t358 t359 bt364.1 bt364.2.1 bt364.2.2 true)) else (none))) else (none)) else (laws_FnTried.j0 k t357 t358 t359 bt364.1 bt364.2.1 bt364.2.2 true)) else (none)) else (laws_FnTried.j0 k t357 t358 t359 bt364.1 bt364.2.1 bt364.2.2 true)) else (laws_FnTried.j0 k t357 t358 t359 bt364.1 bt364.2.1 bt364.2.2 true)))))) = some r := H
  have A4 := Aside0.mk A40
  clear A40
  replace H := Option.bind_eq_some_iff.mp H
  obtain ⟨⟨t364, t365, t366⟩, A50, H⟩ := H
  replace H : ((spec_Try.f k t357 t358 t359).bind fun bt371 => (if (t366 != bt371.2.2) = true then (some false) else ((impl_Try.f k 1 (([0, 0, 0, 0] : List Int)) (([(⟨0, 5, 0⟩ : S43), (⟨4, 0, 0⟩ : S43), (⟨5, 0, 0⟩ : S43)] : List (S43)))).bind fun bt384 => (if bt384.2.2 = true then (if (bt384.1.length : Int) = 3 then (if 0 < (bt384.1.length : Int) then (if rdOf false bt384.1 0 = true then (if 1 < (bt384.1.length : Int) then (if rdOf false bt384.1 1 = true then (laws_FnTried.j0 k t357 t358 t359 t364 t365 t366 true) else (if 2 < (bt384.1.length : Int) then (if rdOf false bt384.1 2 = true then ((laws_sameInts.f k bt384.2.1 (([1, 1, 1] : List Int))).bind fun t397 => (if t397 = true then (if (t364.length : Int) > (t359.length : Int) then (laws_FnTried.j0 k t357 t358 t359 t364 t365 t366 true) else (laws_FnTried.j0 k t357 t358 t359 t364 t365 t366 ((t365.length : Int) != (t364.length : Int)))) else (laws_FnTried.j0 k t357 t358 t359 t364 t365 t366 true))) else (laws_FnTried.j0 k t357 t358 t359 t364 t365 t366 true)) else (none))) else (none)) else (laws_FnTried.j0 k t357 t358 t359 t364 t365 t366 true)) else (none)) else (laws_FnTried.j0 k t357 t358 t359 t364 t365 t366 true)) else (laws_FnTried.j0 k t357 t358 t359 t364 t365 t366 true))))) = some r := H
  have A5 := Aside0.mk A50
  clear A50
  replace H := Option.bind_eq_some_iff.mp H
  obtain ⟨⟨t371, t372, t373⟩, A60, H⟩ := H
  replace H : (if (t366 != t373) = true then (some false) else ((impl_Try.f k 1 (([0, 0, 0, 0] : List Int)) (([(⟨0, 5, 0⟩ : S43), (⟨4, 0, 0⟩ : S43), (⟨5, 0, 0⟩ : S43)] : List (S43)))).bind fun bt384 => (if bt384.2.2 = true then (if (bt384.1.length : Int) = 3 then (if 0 < (bt384.1.length : Int) then (if rdOf false bt384.1 0 = true then (if 1 < (bt384.1.length : Int) then (if rdOf false bt384.1 1 = true then (laws_FnTried.j0 k t357 t358 t359 t364 t365 t366 true) else (if 2 < (bt384.1.length : Int) then (if rdOf false bt384.1 2 = true then ((laws_sameInts.f k bt384.2.1 (([1, 1, 1] : List Int))).bind fun t397 => (if t397 = true then (if (t364.length : Int) > (t359.length : Int) then (laws_FnTried.j0 k t357 t358 t359 t364 t365 t366 true) else (laws_FnTried.j0 k t357 t358 t359 t364 t365 t366 ((t365.length : Int) != (t364.length : Int)))) else (laws_FnTried.j0 k t357 t358 t359 t364 t365 t366 true))) else (laws_FnTried.j0 k t357 t358 t359 t364 t365 t366 true)) else (none))) else (none)) else (laws_FnTried.j0 k t357 t358 t359 t364 t365 t366 true)) else (none)) else (laws_FnTried.j0 k t357 t358 t359 t364 t365 t366 true)) else (laws_FnTried.j0 k t357 t358 t359 t364 t365 t366 true)))) = some r := H
  have A6 := Aside0.mk A60
  clear A60
  by_cases c7 : (t366 != t373) = true
  ·rw [if_pos c7] at H
   have c7b0 : (t366 != t373) = true := c7
   (try (have c7b1 : decide (t366 = t373) = false := by simpa using c7))
   (try (have c7b2 : (t366 == t373) = false := by simpa using c7))
   (try (have c7b3 : ¬ (t366 = t373) := by simpa using c7))
   clear c7
   obtain rfl := Option.some.inj H
   go_enter Try.func4, Try.ntmps4
   go_wp2_with (first | (go_at_call 20; (with_reducible refine (laws_big.calls _ _ l0 false _ ?side1 ?side2 A2.out).mono ?_); (case side1 => repeat (first | exact HR0.out | (with_reducible refine Kd.C_alloc ?_ _) | (with_reducible refine Kd.C_drewN ?_ _) | (with_reducible refine Kd.C_drew ?_))); (case side2 => exact HC0.out); rintro e w' ⟨rfl, ⟨nd, rfl⟩⟩; (try first | exact ⟨rfl, _, World.drewN_drewN _ _ _⟩ | exact ⟨rfl, _, Eq.trans (World.drewN_drewN _ _ _) (congrArg (World.drewN _) (Nat.add_assoc _ _ _))⟩)) | (go_at_call 21; (with_reducible refine (spec_DrawTry.calls k _ _ l0 t357 t358 t359 _ ?side1 ?side2 A4.out).mono ?_); (case side1 => repeat (first | exact HR0.out | (with_reducible refine Kd.C_alloc ?_ _) | (with_reducible refine Kd.C_drewN ?_ _) | (with_reducible refine Kd.C_drew ?_))); (case side2 => exact HC0.out); rintro e w8 ⟨v360, v362, rfl, ho0, ho1, hb⟩; have n0_ := Aside0.mk (Kd.R_lower ho0 (below_size (by repeat (first | (with_reducible first | exact HB.out | apply below_alloc | apply pw_below_drewN | apply below_drew1) | exact HB.out)))); have n1_ := Aside0.mk (Kd.R_lower ho1 (below_size (by repeat (first | (with_reducible first | exact HB.out | apply below_alloc | apply pw_below_drewN | apply below_drew1) | exact HB.out)))); have n2_ := Aside0.mk (below_step (by repeat (first | (with_reducible first | exact HB.out | apply below_alloc | apply pw_below_drewN | apply below_drew1) | exact HB.out)) hb); clear HB; have HO361 := n0_; have HO363 := n1_; have HB := n2_; clear n0_ n1_ n2_; (try clear hb); (try clear hb2); (try clear hk); (try clear hi); (try clear ho0); (try clear ho1); obtain ⟨Ao9, co9, eo9⟩ := Kd.R_slice HO361.out; subst eo9; obtain ⟨Ao10, co10, eo10⟩ := Kd.R_slice HO363.out; subst eo10) | (go_at_call 11; (with_reducible refine (impl_Try.calls k t357 _ _ t358 _ _ t359 t364 t365 t366 _ ?side1 ?side2 ?side3 ?side4 A5.out).mono ?_); (case side1 => repeat (first | exact (Kd.R_reads' HO361.out).2.2 | (with_reducible refine Kd.C_alloc ?_ _) | (with_reducible refine Kd.C_drewN ?_ _) | (with_reducible refine Kd.C_drew ?_))); (case side2 => exact (Kd.R_reads' HO361.out).2.1); (case side3 => repeat (first | exact (Kd.R_reads' HO363.out).2.2 | (with_reducible refine Kd.C_alloc ?_ _) | (with_reducible refine Kd.C_drewN ?_ _) | (with_reducible refine Kd.C_drew ?_))); (case side4 => exact (Kd.R_reads' HO363.out).2.1); rintro e w11 ⟨v367, v369, rfl, ho0, ho1, hb⟩; have n0_ := Aside0.mk (Kd.R_elder' (by (with_reducible repeat (first | apply Kd.R_alloc | apply Kd.R_drewN | apply Kd.R_drew)); exact HO361.out) (Kd.R_base ho1) hb); have n1_ := Aside0.mk (Kd.R_below (by (with_reducible repeat (first | apply Kd.R_alloc | apply Kd.R_drewN | apply Kd.R_drew)); exact HO363.out) hb); have n2_ := Aside0.mk (Kd.R_lower ho0 (below_size (by repeat (first | (with_reducible first | exact HB.out | apply below_alloc | apply pw_below_drewN | apply below_drew1) | exact HB.out)))); have n3_ := Aside0.mk (Kd.R_lower (Kd.R_new' ho1 (Kd.R_lt (by (with_reducible repeat (first | apply Kd.R_alloc | apply Kd.R_drewN | apply Kd.R_drew)); exact HO361.out))) (below_size (by repeat (first | (with_reducible first | exact HB.out | apply below_alloc | apply pw_below_drewN | apply below_drew1) | exact HB.out)))); have n4_ := Aside0.mk (below_step (by repeat (first | (with_reducible first | exact HB.out | apply below_alloc | apply pw_below_drewN | apply below_drew1) | exact HB.out)) hb); clear HO361; clear HO363; clear HB; have HO361 := n0_; have HO363 := n1_; have HO368 := n2_; have HO370 := n3_; have HB := n4_; clear n0_ n1_ n2_ n3_ n4_; (try clear hb); (try clear hb2); (try clear hk); (try clear hi); (try clear ho0); (try clear ho1)) | (go_at_call 8; (with_reducible refine (spec_Try.calls k t357 _ _ t358 _ _ t359 t371 t372 t373 _ ?side1 ?side2 ?side3 ?side4 A6.out).mono ?_); (case side1 => repeat (first | exact (Kd.R_reads' HO361.out).2.2 | (with_reducible refine Kd.C_alloc ?_ _) | (with_reducible refine Kd.C_drewN ?_ _) | (with_reducible refine Kd.C_drew ?_))); (case side2 => exact (Kd.R_reads' HO361.out).2.1); (case side3 => repeat (first | exact (Kd.R_reads' HO363.out).2.2 | (with_reducible refine Kd.C_alloc ?_ _) | (with_reducible refine Kd.C_drewN ?_ _) | (with_reducible refine Kd.C_drew ?_))); (case side4 => exact (Kd.R_reads' HO363.out).2.1); rintro e w12 ⟨v374, v376, rfl, ho0, ho1, hb⟩; have n0_ := Aside0.mk (Kd.R_elder' (by (with_reducible repeat (first | apply Kd.R_alloc | apply Kd.R_drewN | apply Kd.R_drew)); exact HO361.out) (Kd.R_base ho1) hb); have n1_ := Aside0.mk (Kd.R_below (by (with_reducible repeat (first | apply Kd.R_alloc | apply Kd.R_drewN | apply Kd.R_drew)); exact HO363.out) hb); have n2_ := Aside0.mk (Kd.R_elder' (by (with_reducible repeat (first | apply Kd.R_alloc | apply Kd.R_drewN | apply Kd.R_drew)); exact HO368.out) (Kd.R_base ho0) hb); have n3_ := Aside0.mk (Kd.R_elder' (by (with_reducible repeat (first | apply Kd.R_alloc | apply Kd.R_drewN | apply Kd.R_drew)); exact HO370.out) (Kd.R_base ho1) hb); have n4_ := Aside0.mk (Kd.R_lower (Kd.R_new' ho0 (Kd.R_lt (by (with_reducible repeat (first | apply Kd.R_alloc | apply Kd.R_drewN | apply Kd.R_drew)); exact HO368.out))) (below_size (by repeat (first | (with_reducible first | exact HB.out | apply below_alloc | apply pw_below_drewN | apply below_drew1) | exact HB.out)))); have n5_ := Aside0.mk (Kd.R_lower (Kd.R_new' (Kd.R_new' ho1 (Kd.R_lt (by (with_reducible repeat (first | apply Kd.R_alloc | apply Kd.R_drewN | apply Kd.R_drew)); exact HO361.out))) (Kd.R_lt (by (with_reducible repeat (first | apply Kd.R_alloc | apply Kd.R_drewN | apply Kd.R_drew)); exact HO370.out))) (below_size (by repeat (first | (with_reducible first | exact HB.out | apply below_alloc | apply pw_below_drewN | apply below_drew1) | exact HB.out)))); have n6_ := Aside0.mk (below_step (by repeat (first | (with_reducible first | exact HB.out | apply below_alloc | apply pw_below_drewN | apply below_drew1) | exact HB.out)) hb); clear HO361; clear HO363; clear HO368; clear HO370; clear HB; have HO361 := n0_; have HO363 := n1_; have HO368 := n2_; have HO370 := n3_; have HO375 := n4_; have HO377 := n5_; have HB := n6_; clear n0_ n1_ n2_ n3_ n4_ n5_ n6_; (try clear hb); (try clear hb2); (try clear hk); (try clear hi); (try clear ho0); (try clear ho1)))
   repeat (go_quiet (first | (go_at_call 20; (with_reducible refine (laws_big.calls _ _ l0 false _ ?side1 ?side2 A2.out).mono ?_); (case side1 => repeat (first | exact HR0.out | (with_reducible refine Kd.C_alloc ?_ _) | (with_reducible refine Kd.C_drewN ?_ _) | (with_reducible refine Kd.C_drew ?_))); (case side2 => exact HC0.out); rintro e w' ⟨rfl, ⟨nd, rfl⟩⟩; (try first | exact ⟨rfl, _, World.drewN_drewN _ _ _⟩ | exact ⟨rfl, _, Eq.trans (World.drewN_drewN _ _ _) (congrArg (World.drewN _) (Nat.add_assoc _ _ _))⟩)) | (go_at_call 21; (with_reducible refine (spec_DrawTry.calls k _ _ l0 t357 t358 t359 _ ?side1 ?side2 A4.out).mono ?_); (case side1 => repeat (first | exact HR0.out | (with_reducible refine Kd.C_alloc ?_ _) | (with_reducible refine Kd.C_drewN ?_ _) | (with_reducible refine Kd.C_drew ?_))); (case side2 => exact HC0.out); rintro e w8 ⟨v360, v362, rfl, ho0, ho1, hb⟩; have n0_ := Aside0.mk (Kd.R_lower ho0 (below_size (by repeat (first | (with_reducible first | exact HB.out | apply below_alloc | apply pw_below_drewN | apply below_drew1) | exact HB.out)))); have n1_ := Aside0.mk (Kd.R_lower ho1 (below_size (by repeat (first | (with_reducible first | exact HB.out | apply below_alloc | apply pw_below_drewN | apply below_drew1) | exact HB.out)))); have n2_ := Aside0.mk (below_step (by repeat (first | (with_reducible first | exact HB.out | apply below_alloc | apply pw_below_drewN | apply below_drew1) | exact HB.out)) hb); clear HB; have HO361 := n0_; have HO363 := n1_; have HB := n2_; clear n0_ n1_ n2_; (try clear hb); (try clear hb2); (try clear hk); (try clear hi); (try clear ho0); (try clear ho1); obtain ⟨Ao9, co9, eo9⟩ := Kd.R_slice HO361.out; subst eo9; obtain ⟨Ao10, co10, eo10⟩ := Kd.R_slice HO363.out; subst eo10) | (go_at_call 11; (with_reducible refine (impl_Try.calls k t357 _ _ t358 _ _ t359 t364 t365 t366 _ ?side1 ?side2 ?side3 ?side4 A5.out).mono ?_); (case side1 => repeat (first | exact (Kd.R_reads' HO361.out).2.2 | (with_reducible refine Kd.C_alloc ?_ _) | (with_reducible refine Kd.C_drewN ?_ _) | (with_reducible refine Kd.C_drew ?_))); (case side2 => exact (Kd.R_reads' HO361.out).2.1); (case side3 => repeat (first | exact (Kd.R_reads' HO363.out).2.2 | (with_reducible refine Kd.C_alloc ?_ _) | (with_reducible refine Kd.C_drewN ?_ _) | (with_reducible refine Kd.C_drew ?_))); (case side4 => exact (Kd.R_reads' HO363.out).2.1); rintro e w11 ⟨v367, v369, rfl, ho0, ho1, hb⟩; have n0_ := Aside0.mk (Kd.R_elder' (by (with_reducible repeat (first | apply Kd.R_alloc | apply Kd.R_drewN | apply Kd.R_drew)); exact HO361.out) (Kd.R_base ho1) hb); have n1_ := Aside0.mk (Kd.R_below (by (with_reducible repeat (first | apply Kd.R_alloc | apply Kd.R_drewN | apply Kd.R_drew)); exact HO363.out) hb); have n2_ := Aside0.mk (Kd.R_lower ho0 (below_size (by repeat (first | (with_reducible first | exact HB.out | apply below_alloc | apply pw_below_drewN | apply below_drew1) | exact HB.out)))); have n3_ := Aside0.mk (Kd.R_lower (Kd.R_new' ho1 (Kd.R_lt (by (with_reducible repeat (first | apply Kd.R_alloc | apply Kd.R_drewN | apply Kd.R_drew)); exact HO361.out))) (below_size (by repeat (first | (with_reducible first | exact HB.out | apply below_alloc | apply pw_below_drewN | apply below_drew1) | exact HB.out)))); have n4_ := Aside0.mk (below_step (by repeat (first | (with_reducible first | exact HB.out | apply below_alloc | apply pw_below_drewN | apply below_drew1) | exact HB.out)) hb); clear HO361; clear HO363; clear HB; have HO361 := n0_; have HO363 := n1_; have HO368 := n2_; have HO370 := n3_; have HB := n4_; clear n0_ n1_ n2_ n3_ n4_; (try clear hb); (try clear hb2); (try clear hk); (try clear hi); (try clear ho0); (try clear ho1)) | (go_at_call 8; (with_reducible refine (spec_Try.calls k t357 _ _ t358 _ _ t359 t371 t372 t373 _ ?side1 ?side2 ?side3 ?side4 A6.out).mono ?_); (case side1 => repeat (first | exact (Kd.R_reads' HO361.out).2.2 | (with_reducible refine Kd.C_alloc ?_ _) | (with_reducible refine Kd.C_drewN ?_ _) | (with_reducible refine Kd.C_drew ?_))); (case side2 => exact (Kd.R_reads' HO361.out).2.1); (case side3 => repeat (first | exact (Kd.R_reads' HO363.out).2.2 | (with_reducible refine Kd.C_alloc ?_ _) | (with_reducible refine Kd.C_drewN ?_ _) | (with_reducible refine Kd.C_drew ?_))); (case side4 => exact (Kd.R_reads' HO363.out).2.1); rintro e w12 ⟨v374, v376, rfl, ho0, ho1, hb⟩; have n0_ := Aside0.mk (Kd.R_elder' (by (with_reducible repeat (first | apply Kd.R_alloc | apply Kd.R_drewN | apply Kd.R_drew)); exact HO361.out) (Kd.R_base ho1) hb); have n1_ := Aside0.mk (Kd.R_below (by (with_reducible repeat (first | apply Kd.R_alloc | apply Kd.R_drewN | apply Kd.R_drew)); exact HO363.out) hb); have n2_ := Aside0.mk (Kd.R_elder' (by (with_reducible repeat (first | apply Kd.R_alloc | apply Kd.R_drewN | apply Kd.R_drew)); exact HO368.out) (Kd.R_base ho0) hb); have n3_ := Aside0.mk (Kd.R_elder' (by (with_reducible repeat (first | apply Kd.R_alloc | apply Kd.R_drewN | apply Kd.R_drew)); exact HO370.out) (Kd.R_base ho1) hb); have n4_ := Aside0.mk (Kd.R_lower (Kd.R_new' ho0 (Kd.R_lt (by (with_reducible repeat (first | apply Kd.R_alloc | apply Kd.R_drewN | apply Kd.R_drew)); exact HO368.out))) (below_size (by repeat (first | (with_reducible first | exact HB.out | apply below_alloc | apply pw_below_drewN | apply below_drew1) | exact HB.out)))); have n5_ := Aside0.mk (Kd.R_lower (Kd.R_new' (Kd.R_new' ho1 (Kd.R_lt (by (with_reducible repeat (first | apply Kd.R_alloc | apply Kd.R_drewN | apply Kd.R_drew)); exact HO361.out))) (Kd.R_lt (by (with_reducible repeat (first | apply Kd.R_alloc | apply Kd.R_drewN | apply Kd.R_drew)); exact HO370.out))) (below_size (by repeat (first | (with_reducible first | exact HB.out | apply below_alloc | apply pw_below_drewN | apply below_drew1) | exact HB.out)))); have n6_ := Aside0.mk (below_step (by repeat (first | (with_reducible first | exact HB.out | apply below_alloc | apply pw_below_drewN | apply below_drew1) | exact HB.out)) hb); clear HO361; clear HO363; clear HO368; clear HO370; clear HB; have HO361 := n0_; have HO363 := n1_; have HO368 := n2_; have HO370 := n3_; have HO375 := n4_; have HO377 := n5_; have HB := n6_; clear n0_ n1_ n2_ n3_ n4_ n5_ n6_; (try clear hb); (try clear hb2); (try clear hk); (try clear hi); (try clear ho0); (try clear ho1))); try go_wp2_with (first | (go_at_call 20; (with_reducible refine (laws_big.calls _ _ l0 false _ ?side1 ?side2 A2.out).mono ?_); (case side1 => repeat (first | exact HR0.out | (with_reducible refine Kd.C_alloc ?_ _) | (with_reducible refine Kd.C_drewN ?_ _) | (with_reducible refine Kd.C_drew ?_))); (case side2 => exact HC0.out); rintro e w' ⟨rfl, ⟨nd, rfl⟩⟩; (try first | exact ⟨rfl, _, World.drewN_drewN _ _ _⟩ | exact ⟨rfl, _, Eq.trans (World.drewN_drewN _ _ _) (congrArg (World.drewN _) (Nat.add_assoc _ _ _))⟩)) | (go_at_call 21; (with_reducible refine (spec_DrawTry.calls k _ _ l0 t357 t358 t359 _ ?side1 ?side2 A4.out).mono ?_); (case side1 => repeat (first | exact HR0.out | (with_reducible refine Kd.C_alloc ?_ _) | (with_reducible refine Kd.C_drewN ?_ _) | (with_reducible refine Kd.C_drew ?_))); (case side2 => exact HC0.out); rintro e w8 ⟨v360, v362, rfl, ho0, ho1, hb⟩; have n0_ := Aside0.mk (Kd.R_lower ho0 (below_size (by repeat (first | (with_reducible first | exact HB.out | apply below_alloc | apply pw_below_drewN | apply below_drew1) | exact HB.out)))); have n1_ := Aside0.mk (Kd.R_lower ho1 (below_size (by repeat (first | (with_reducible first | exact HB.out | apply below_alloc | apply pw_below_drewN | apply below_drew1) | exact HB.out)))); have n2_ := Aside0.mk (below_step (by repeat (first | (with_reducible first | exact HB.out | apply below_alloc | apply pw_below_drewN | apply below_drew1) | exact HB.out)) hb); clear HB; have HO361 := n0_; have HO363 := n1_; have HB := n2_; clear n0_ n1_ n2_; (try clear hb); (try clear hb2); (try clear hk); (try clear hi); (try clear ho0); (try clear ho1); obtain ⟨Ao9, co9, eo9⟩ := Kd.R_slice HO361.out; subst eo9; obtain ⟨Ao10, co10, eo10⟩ := Kd.R_slice HO363.out; subst eo10) | (go_at_call 11; (with_reducible refine (impl_Try.calls k t357 _ _ t358 _ _ t359 t364 t365 t366 _ ?side1 ?side2 ?side3 ?side4 A5.out).mono ?_); (case side1 => repeat (first | exact (Kd.R_reads' HO361.out).2.2 | (with_reducible refine Kd.C_alloc ?_ _) | (with_reducible refine Kd.C_drewN ?_ _) | (with_reducible refine Kd.C_drew ?_))); (case side2 => exact (Kd.R_reads' HO361.out).2.1); (case side3 => repeat (first | exact (Kd.R_reads' HO363.out).2.2 | (with_reducible refine Kd.C_alloc ?_ _) | (with_reducible refine Kd.C_drewN ?_ _) | (with_reducible refine Kd.C_drew ?_))); (case side4 => exact (Kd.R_reads' HO363.out).2.1); rintro e w11 ⟨v367, v369, rfl, ho0, ho1, hb⟩; have n0_ := Aside0.mk (Kd.R_elder' (by (with_reducible repeat (first | apply Kd.R_alloc | apply Kd.R_drewN | apply Kd.R_drew)); exact HO361.out) (Kd.R_base ho1) hb); have n1_ := Aside0.mk (Kd.R_below (by (with_reducible repeat (first | apply Kd.R_alloc | apply Kd.R_drewN | apply Kd.R_drew)); exact HO363.out) hb); have n2_ := Aside0.mk (Kd.R_lower ho0 (below_size (by repeat (first | (with_reducible first | exact HB.out | apply below_alloc | apply pw_below_drewN | apply below_drew1) | exact HB.out)))); have n3_ := Aside0.mk (Kd.R_lower (Kd.R_new' ho1 (Kd.R_lt (by (with_reducible repeat (first | apply Kd.R_alloc | apply Kd.R_drewN | apply Kd.R_drew)); exact HO361.out))) (below_size (by repeat (first | (with_reducible first | exact HB.out | apply below_alloc | apply pw_below_drewN | apply below_drew1) | exact HB.out)))); have n4_ := Aside0.mk (below_step (by repeat (first | (with_reducible first | exact HB.out | apply below_alloc | apply pw_below_drewN | apply below_drew1) | exact HB.out)) hb); clear HO361; clear HO363; clear HB; have HO361 := n0_; have HO363 := n1_; have HO368 := n2_; have HO370 := n3_; have HB := n4_; clear n0_ n1_ n2_ n3_ n4_; (try clear hb); (try clear hb2); (try clear hk); (try clear hi); (try clear ho0); (try clear ho1)) | (go_at_call 8; (with_reducible refine (spec_Try.calls k t357 _ _ t358 _ _ t359 t371 t372 t373 _ ?side1 ?side2 ?side3 ?side4 A6.out).mono ?_); (case side1 => repeat (first | exact (Kd.R_reads' HO361.out).2.2 | (with_reducible refine Kd.C_alloc ?_ _) | (with_reducible refine Kd.C_drewN ?_ _) | (with_reducible refine Kd.C_drew ?_))); (case side2 => exact (Kd.R_reads' HO361.out).2.1); (case side3 => repeat (first | exact (Kd.R_reads' HO363.out).2.2 | (with_reducible refine Kd.C_alloc ?_ _) | (with_reducible refine Kd.C_drewN ?_ _) | (with_reducible refine Kd.C_drew ?_))); (case side4 => exact (Kd.R_reads' HO363.out).2.1); rintro e w12 ⟨v374, v376, rfl, ho0, ho1, hb⟩; have n0_ := Aside0.mk (Kd.R_elder' (by (with_reducible repeat (first | apply Kd.R_alloc | apply Kd.R_drewN | apply Kd.R_drew)); exact HO361.out) (Kd.R_base ho1) hb); have n1_ := Aside0.mk (Kd.R_below (by (with_reducible repeat (first | apply Kd.R_alloc | apply Kd.R_drewN | apply Kd.R_drew)); exact HO363.out) hb); have n2_ := Aside0.mk (Kd.R_elder' (by (with_reducible repeat (first | apply Kd.R_alloc | apply Kd.R_drewN | apply Kd.R_drew)); exact HO368.out) (Kd.R_base ho0) hb); have n3_ := Aside0.mk (Kd.R_elder' (by (with_reducible repeat (first | apply Kd.R_alloc | apply Kd.R_drewN | apply Kd.R_drew)); exact HO370.out) (Kd.R_base ho1) hb); have n4_ := Aside0.mk (Kd.R_lower (Kd.R_new' ho0 (Kd.R_lt (by (with_reducible repeat (first | apply Kd.R_alloc | apply Kd.R_drewN | apply Kd.R_drew)); exact HO368.out))) (below_size (by repeat (first | (with_reducible first | exact HB.out | apply below_alloc | apply pw_below_drewN | apply below_drew1) | exact HB.out)))); have n5_ := Aside0.mk (Kd.R_lower (Kd.R_new' (Kd.R_new' ho1 (Kd.R_lt (by (with_reducible repeat (first | apply Kd.R_alloc | apply Kd.R_drewN | apply Kd.R_drew)); exact HO361.out))) (Kd.R_lt (by (with_reducible repeat (first | apply Kd.R_alloc | apply Kd.R_drewN | apply Kd.R_drew)); exact HO370.out))) (below_size (by repeat (first | (with_reducible first | exact HB.out | apply below_alloc | apply pw_below_drewN | apply below_drew1) | exact HB.out)))); have n6_ := Aside0.mk (below_step (by repeat (first | (with_reducible first | exact HB.out | apply below_alloc | apply pw_below_drewN | apply below_drew1) | exact HB.out)) hb); clear HO361; clear HO363; clear HO368; clear HO370; clear HB; have HO361 := n0_; have HO363 := n1_; have HO368 := n2_; have HO370 := n3_; have HO375 := n4_; have HO377 := n5_; have HB := n6_; clear n0_ n1_ n2_ n3_ n4_ n5_ n6_; (try clear hb); (try clear hb2); (try clear hk); (try clear hi); (try clear ho0); (try clear ho1))))
   go_ret
   exact ⟨by first | rfl | (simp [errW_none, errW_some] <;> rfl) | (simp [*, errW_none, errW_some] <;> rfl), by repeat (first | (with_reducible first | exact HB.out | apply below_alloc | apply pw_below_drewN | apply below_drew1) | exact HB.out)⟩
  ·rw [if_neg c7] at H
   have c7b0 : (t366 != t373) = false := by simpa using c7
   (try (have c7b1 : decide (t366 = t373) = true := by simpa using c7))
   (try (have c7b2 : (t366 == t373) = true := by simpa using c7))
   clear c7
   obtain ⟨y378, hy378⟩ : ∃ y_ : List Int, y_ = (([0, 0, 0, 0] : List Int)) := ⟨_, rfl⟩
   replace H : ((impl_Try.f k 1 y378 (([(⟨0, 5, 0⟩ : S43), (⟨4, 0, 0⟩ : S43), (⟨5, 0, 0⟩ : S43)] : List (S43)))).bind fun bt384 => (if bt384.2.2 = true then (if (bt384.1.length : Int) = 3 then (if 0 < (bt384.1.length : Int) then (if rdOf false bt384.1 0 = true then (if 1 < (bt384.1.length : Int) then (if rdOf false bt384.1 1 = true then (laws_FnTried.j0 k t357 t358 t359 t364 t365 t366 true) else (if 2 < (bt384.1.length : Int) then (if rdOf false bt384.1 2 = true then ((laws_sameInts.f k bt384.2.1 (([1, 1, 1] : List Int))).bind fun t397 => (if t397 = true then (if (t364.length : Int) > (t359.length : Int) then (laws_FnTried.j0 k t357 t358 t359 t364 t365 t366 true) else (laws_FnTried.j0 k t357 t358 t359 t364 t365 t366 ((t365.length : Int) != (t364.length : Int)))) else (laws_FnTried.j0 k t357 t358 t359 t364 t365 t366 true))) else (laws_FnTried.j0 k t357 t358 t359 t364 t365 t366 true)) else (none))) else (none)) else (laws_FnTried.j0 k t357 t358 t359 t364 t365 t366 true)) else (none)) else (laws_FnTried.j0 k t357 t358 t359 t364 t365 t366 true)) else (laws_FnTried.j0 k t357 t358 t359 t364 t365 t366 true))) = some r := by first | (rw [hy378]; with_reducible exact H) | (have H2_ := (Option.bind_some _ _).symm.trans H; rw [hy378]; with_reducible exact H2_) | (have H2_ := (Option.bind_some _ _).symm.trans H; with_reducible exact H2_) | with_reducible exact H | (rw [hy378]; exact H) | exact H
   have Ny378 := Aside0.mk hy378
   clear hy378
   obtain ⟨y381, hy381⟩ : ∃ y_ : List (S43), y_ = (([(⟨0, 5, 0⟩ : S43), (⟨4, 0, 0⟩ : S43), (⟨5, 0, 0⟩ : S43)] : List (S43))) := ⟨_, rfl⟩
   replace H : ((impl_Try.f k 1 y378 y381).bind fun bt384 => (if bt384.2.2 = true then (if (bt384.1.length : Int) = 3 then (if 0 < (bt384.1.length : Int) then (if rdOf false bt384.1 0 = true then (if 1 < (bt384.1.length : Int) then (if rdOf false bt384.1 1 = true then (laws_FnTried.j0 k t357 t358 t359 t364 t365 t366 true) else (if 2 < (bt384.1.length : Int) then (if rdOf false bt384.1 2 = true then ((laws_sameInts.f k bt384.2.1 (([1, 1, 1] : List Int))).bind fun t397 => (if t397 = true then (if (t364.length : Int) > (t359.length : Int) then (laws_FnTried.j0 k t357 t358 t359 t364 t365 t366 true) else (laws_FnTried.j0 k t357 t358 t359 t364 t365 t366 ((t365.length : Int) != (t364.length : Int)))) else (laws_FnTried.j0 k t357 t358 t359 t364 t365 t366 true))) else (laws_FnTried.j0 k t357 t358 t359 t364 t365 t366 true)) else (none))) else (none)) else (laws_FnTried.j0 k t357 t358 t359 t364 t365 t366 true)) else (none)) else (laws_FnTried.j0 k t357 t358 t359 t364 t365 t366 true)) else (laws_FnTried.j0 k t357 t358 t359 t364 t365 t366 true))) = some r := by first | (rw [hy381]; with_reducible exact H) | (have H2_ := (Option.bind_some _ _).symm.trans H; rw [hy381]; with_reducible exact H2_) | (have H2_ := (Option.bind_some _ _).symm.trans H; with_reducible exact H2_) | with_reducible exact H | (rw [hy381]; exact H) | exact H
   have Ny381 := Aside0.mk hy381
   clear hy381
   replace H := Option.bind_eq_some_iff.mp H
   obtain ⟨⟨t384, t385, t386⟩, A130, H⟩ := H
   replace H : (if t386 = true then (if (t384.length : Int) = 3 then (if 0 < (t384.length : Int) then (if rdOf false t384 0 = true then (if 1 < (t384.length : Int) then (if rdOf false t384 1 = true then (laws_FnTried.j0 k t357 t358 t359 t364 t365 t366 true) else (if 2 < (t384.length : Int) then (if rdOf false t384 2 = true then ((laws_sameInts.f k t385 (([1, 1, 1] : List Int))).bind fun t397 => (if t397 = true then (if (t364.length : Int) > (t359.length : Int) then (laws_FnTried.j0 k t357 t358 t359 t364 t365 t366 true) else (laws_FnTried.j0 k t357 t358 t359 t364 t365 t366 ((t365.length : Int) != (t364.length : Int)))) else (laws_FnTried.j0 k t357 t358 t359 t364 t365 t366 true))) else (laws_FnTried.j0 k t357 t358 t359 t364 t365 t366 true)) else (none))) else (none)) else (laws_FnTried.j0 k t357 t358 t359 t364 t365 t366 true)) else (none)) else (laws_FnTried.j0 k t357 t358 t359 t364 t365 t366 true)) else (laws_FnTried.j0 k t357 t358 t359 t364 t365 t366 true)) = some r := H
   have A13 := Aside0.mk A130
   clear A130
   have HC14 := Aside0.mk H
   clear H
   go_enter Try.func4, Try.ntmps4
   go_upto_region 9 with (first | (go_at_call 20; (with_reducible refine (laws_big.calls _ _ l0 false _ ?side1 ?side2 A2.out).mono ?_); (case side1 => repeat (first | exact HR0.out | (with_reducible refine Kd.C_alloc ?_ _) | (with_reducible refine Kd.C_drewN ?_ _) | (with_reducible refine Kd.C_drew ?_))); (case side2 => exact HC0.out); rintro e w' ⟨rfl, ⟨nd, rfl⟩⟩; (try first | exact ⟨rfl, _, World.drewN_drewN _ _ _⟩ | exact ⟨rfl, _, Eq.trans (World.drewN_drewN _ _ _) (congrArg (World.drewN _) (Nat.add_assoc _ _ _))⟩)) | (go_at_call 21; (with_reducible refine (spec_DrawTry.calls k _ _ l0 t357 t358 t359 _ ?side1 ?side2 A4.out).mono ?_); (case side1 => repeat (first | exact HR0.out | (with_reducible refine Kd.C_alloc ?_ _) | (with_reducible refine Kd.C_drewN ?_ _) | (with_reducible refine Kd.C_drew ?_))); (case side2 => exact HC0.out); rintro e w15 ⟨v360, v362, rfl, ho0, ho1, hb⟩; have n0_ := Aside0.mk (Kd.R_lower ho0 (below_size (by repeat (first | (with_reducible first | exact HB.out | apply below_alloc | apply pw_below_drewN | apply below_drew1) | exact HB.out)))); have n1_ := Aside0.mk (Kd.R_lower ho1 (below_size (by repeat (first | (with_reducible first | exact HB.out | apply below_alloc | apply pw_below_drewN | apply below_drew1) | exact HB.out)))); have n2_ := Aside0.mk (below_step (by repeat (first | (with_reducible first | exact HB.out | apply below_alloc | apply pw_below_drewN | apply below_drew1) | exact HB.out)) hb); clear HB; have HO361 := n0_; have HO363 := n1_; have HB := n2_; clear n0_ n1_ n2_; (try clear hb); (try clear hb2); (try clear hk); (try clear hi); (try clear ho0); (try clear ho1); obtain ⟨Ao16, co16, eo16⟩ := Kd.R_slice HO361.out; subst eo16; obtain ⟨Ao17, co17, eo17⟩ := Kd.R_slice HO363.out; subst eo17) | (go_at_call 11; (with_reducible refine (impl_Try.calls k t357 _ _ t358 _ _ t359 t364 t365 t366 _ ?side1 ?side2 ?side3 ?side4 A5.out).mono ?_); (case side1 => repeat (first | exact (Kd.R_reads' HO361.out).2.2 | (with_reducible refine Kd.C_alloc ?_ _) | (with_reducible refine Kd.C_drewN ?_ _) | (with_reducible refine Kd.C_drew ?_))); (case side2 => exact (Kd.R_reads' HO361.out).2.1); (case side3 => repeat (first | exact (Kd.R_reads' HO363.out).2.2 | (with_reducible refine Kd.C_alloc ?_ _) | (with_reducible refine Kd.C_drewN ?_ _) | (with_reducible refine Kd.C_drew ?_))); (case side4 => exact (Kd.R_reads' HO363.out).2.1); rintro e w18 ⟨v367, v369, rfl, ho0, ho1, hb⟩; have n0_ := Aside0.mk (Kd.R_elder' (by (with_reducible repeat (first | apply Kd.R_alloc | apply Kd.R_drewN | apply Kd.R_drew)); exact HO361.out) (Kd.R_base ho1) hb); have n1_ := Aside0.mk (Kd.R_below (by (with_reducible repeat (first | apply Kd.R_alloc | apply Kd.R_drewN | apply Kd.R_drew)); exact HO363.out) hb); have n2_ := Aside0.mk (Kd.R_lower ho0 (below_size (by repeat (first | (with_reducible first | exact HB.out | apply below_alloc | apply pw_below_drewN | apply below_drew1) | exact HB.out)))); have n3_ := Aside0.mk (Kd.R_lower (Kd.R_new' ho1 (Kd.R_lt (by (with_reducible repeat (first | apply Kd.R_alloc | apply Kd.R_drewN | apply Kd.R_drew)); exact HO361.out))) (below_size (by repeat (first | (with_reducible first | exact HB.out | apply below_alloc | apply pw_below_drewN | apply below_drew1) | exact HB.out)))); have n4_ := Aside0.mk (below_step (by repeat (first | (with_reducible first | exact HB.out | apply below_alloc | apply pw_below_drewN | apply below_drew1) | exact HB.out)) hb); clear HO361; clear HO363; clear HB; have HO361 := n0_; have HO363 := n1_; have HO368 := n2_; have HO370 := n3_; have HB := n4_; clear n0_ n1_ n2_ n3_ n4_; (try clear hb); (try clear hb2); (try clear hk); (try clear hi); (try clear ho0); (try clear ho1)) | (go_at_call 8; (with_reducible refine (spec_Try.calls k t357 _ _ t358 _ _ t359 t371 t372 t373 _ ?side1 ?side2 ?side3 ?side4 A6.out).mono ?_); (case side1 => repeat (first | exact (Kd.R_reads' HO361.out).2.2 | (with_reducible refine Kd.C_alloc ?_ _) | (with_reducible refine Kd.C_drewN ?_ _) | (with_reducible refine Kd.C_drew ?_))); (case side2 => exact (Kd.R_reads' HO361.out).2.1); (case side3 => repeat (first | exact (Kd.R_reads' HO363.out).2.2 | (with_reducible refine Kd.C_alloc ?_ _) | (with_reducible refine Kd.C_drewN ?_ _) | (with_reducible refine Kd.C_drew ?_))); (case side4 => exact (Kd.R_reads' HO363.out).2.1); rintro e w19 ⟨v374, v376, rfl, ho0, ho1, hb⟩; have n0_ := Aside0.mk (Kd.R_elder' (by (with_reducible repeat (first | apply Kd.R_alloc | apply Kd.R_drewN | apply Kd.R_drew)); exact HO361.out) (Kd.R_base ho1) hb); have n1_ := Aside0.mk (Kd.R_below (by (with_reducible repeat (first | apply Kd.R_alloc | apply Kd.R_drewN | apply Kd.R_drew)); exact HO363.out) hb); have n2_ := Aside0.mk (Kd.R_elder' (by (with_reducible repeat (first | apply Kd.R_alloc | apply Kd.R_drewN | apply Kd.R_drew)); exact HO368.out) (Kd.R_base ho0) hb); have n3_ := Aside0.mk (Kd.R_elder' (by (with_reducible repeat (first | apply Kd.R_alloc | apply Kd.R_drewN | apply Kd.R_drew)); exact HO370.out) (Kd.R_base ho1) hb); have n4_ := Aside0.mk (Kd.R_lower (Kd.R_new' ho0 (Kd.R_lt (by (with_reducible repeat (first | apply Kd.R_alloc | apply Kd.R_drewN | apply Kd.R_drew)); exact HO368.out))) (below_size (by repeat (first | (with_reducible first | exact HB.out | apply below_alloc | apply pw_below_drewN | apply below_drew1) | exact HB.out)))); have n5_ := Aside0.mk (Kd.R_lower (Kd.R_new' (Kd.R_new' ho1 (Kd.R_lt (by (with_reducible repeat (first | apply Kd.R_alloc | apply Kd.R_drewN | apply Kd.R_drew)); exact HO361.out))) (Kd.R_lt (by (with_reducible repeat (first | apply Kd.R_alloc | apply Kd.R_drewN | apply Kd.R_drew)); exact HO370.out))) (below_size (by repeat (first | (with_reducible first | exact HB.out | apply below_alloc | apply pw_below_drewN | apply below_drew1) | exact HB.out)))); have n6_ := Aside0.mk (below_step (by repeat (first | (with_reducible first | exact HB.out | apply below_alloc | apply pw_below_drewN | apply below_drew1) | exact HB.out)) hb); clear HO361; clear HO363; clear HO368; clear HO370; clear HB; have HO361 := n0_; have HO363 := n1_; have HO368 := n2_; have HO370 := n3_; have HO375 := n4_; have HO377 := n5_; have HB := n6_; clear n0_ n1_ n2_ n3_ n4_ n5_ n6_; (try clear hb); (try clear hb2); (try clear hk); (try clear hi); (try clear ho0); (try clear ho1)) | ((with_reducible refine gate_dst (N := 48) rfl ?_); (try (refine gate_guard (by rfl) ?_; dsimp only)); refine Kd.R_lit (Kd.int .i64) _ 3 ?hg (N := 48) ?hd (xs := ([0, 0, 0, 0] : List Int)) (inner := [.int .i64 0, .int .i64 0, .int .i64 0, .int .i64 0]) (ok := fun _ => True) (okp := fun _ => True) ?hr ?hp (fun _ hk => hk) trivial (Below.refl _ _) (Nat.le_refl _) (by simp) ?_; (case hd => rfl); (case hg => rfl); (case hr => first | (go_simp; done) | (go_simp; rfl)); (case hp => exact (Reps.one (show Kd.M (Kd.int .i64) _ _ _ 0 [.int .i64 0] from rfl) (Reps.one (show Kd.M (Kd.int .i64) _ _ _ 0 [.int .i64 0] from rfl) (Reps.one (show Kd.M (Kd.int .i64) _ _ _ 0 [.int .i64 0] from rfl) (Reps.one (show Kd.M (Kd.int .i64) _ _ _ 0 [.int .i64 0] from rfl) (Reps.none _ _)))))); intro v379 w20 ho21 hb hg_ hnew_; clear hg_ hnew_; (first | rw [← Ny378.out] at ho21 | (simp only [Int.reduceToNat] at ho21; rw [← Ny378.out] at ho21)); have n0_ := Aside0.mk (Kd.R_elder' (by (with_reducible repeat (first | apply Kd.R_alloc | apply Kd.R_drewN | apply Kd.R_drew)); exact HO361.out) (Kd.R_base ho21) hb); have n1_ := Aside0.mk (Kd.R_below (by (with_reducible repeat (first | apply Kd.R_alloc | apply Kd.R_drewN | apply Kd.R_drew)); exact HO363.out) hb); have n2_ := Aside0.mk (Kd.R_below (by (with_reducible repeat (first | apply Kd.R_alloc | apply Kd.R_drewN | apply Kd.R_drew)); exact HO368.out) hb); have n3_ := Aside0.mk (Kd.R_elder' (by (with_reducible repeat (first | apply Kd.R_alloc | apply Kd.R_drewN | apply Kd.R_drew)); exact HO370.out) (Kd.R_base ho21) hb); have n4_ := Aside0.mk (Kd.R_below (by (with_reducible repeat (first | apply Kd.R_alloc | apply Kd.R_drewN | apply Kd.R_drew)); exact HO375.out) hb); have n5_ := Aside0.mk (Kd.R_elder' (by (with_reducible repeat (first | apply Kd.R_alloc | apply Kd.R_drewN | apply Kd.R_drew)); exact HO377.out) (Kd.R_base ho21) hb); have n6_ := Aside0.mk (Kd.R_lower (Kd.R_new' (Kd.R_new' (Kd.R_new' ho21 (Kd.R_lt (by (with_reducible repeat (first | apply Kd.R_alloc | apply Kd.R_drewN | apply Kd.R_drew)); exact HO361.out))) (Kd.R_lt (by (with_reducible repeat (first | apply Kd.R_alloc | apply Kd.R_drewN | apply Kd.R_drew)); exact HO370.out))) (Kd.R_lt (by (with_reducible repeat (first | apply Kd.R_alloc | apply Kd.R_drewN | apply Kd.R_drew)); exact HO377.out))) (below_size (by repeat (first | (with_reducible first | exact HB.out | apply below_alloc | apply pw_below_drewN | apply below_drew1) | exact HB.out)))); have n7_ := Aside0.mk (below_step (by repeat (first | (with_reducible first | exact HB.out | apply below_alloc | apply pw_below_drewN | apply below_drew1) | exact HB.out)) hb); clear HO361; clear HO363; clear HO368; clear HO370; clear HO375; clear HO377; clear HB; have HO361 := n0_; have HO363 := n1_; have HO368 := n2_; have HO370 := n3_; have HO375 := n4_; have HO377 := n5_; have HO380 := n6_; have HB := n7_; clear n0_ n1_ n2_ n3_ n4_ n5_ n6_ n7_; clear hb ho21) | ((with_reducible refine gate_dst (N := 52) rfl ?_); (try (refine gate_guard (by rfl) ?_; dsimp only)); refine Kd.R_lit k43 _ 43 ?hg (N := 52) ?hd (xs := ([(⟨0, 5, 0⟩ : S43), (⟨4, 0, 0⟩ : S43), (⟨5, 0, 0⟩ : S43)] : List (S43))) (inner := [.int .i64 0, .int .i64 5, .int .i64 0, .int .i64 4, .int .i64 0, .int .i64 0, .int .i64 5, .int .i64 0, .int .i64 0]) (ok := fun _ => True) (okp := fun _ => True) ?hr ?hp (fun _ hk => hk) trivial (Below.refl _ _) (Nat.le_refl _) (by simp) ?_; (case hd => rfl); (case hg => rfl); (case hr => first | (go_simp; done) | (go_simp; rfl)); (case hp => exact (Reps.c3 (show Kd.M k43 _ _ _ (⟨0, 5, 0⟩ : S43) [.int .i64 0, .int .i64 5, .int .i64 0] from (k43_mkM _ _ _ (⟨0, 5, 0⟩ : S43) )) (Reps.c3 (show Kd.M k43 _ _ _ (⟨4, 0, 0⟩ : S43) [.int .i64 4, .int .i64 0, .int .i64 0] from (k43_mkM _ _ _ (⟨4, 0, 0⟩ : S43) )) (Reps.c3 (show Kd.M k43 _ _ _ (⟨5, 0, 0⟩ : S43) [.int .i64 5, .int .i64 0, .int .i64 0] from (k43_mkM _ _ _ (⟨5, 0, 0⟩ : S43) )) (Reps.none _ _))))); intro v382 w22 ho23 hb hg_ hnew_; clear hg_ hnew_; (first | rw [← Ny381.out] at ho23 | (simp only [Int.reduceToNat] at ho23; rw [← Ny381.out] at ho23)); have n0_ := Aside0.mk (Kd.R_below (by (with_reducible repeat (first | apply Kd.R_alloc | apply Kd.R_drewN | apply Kd.R_drew)); exact HO361.out) hb); have n1_ := Aside0.mk (Kd.R_elder' (by (with_reducible repeat (first | apply Kd.R_alloc | apply Kd.R_drewN | apply Kd.R_drew)); exact HO363.out) (Kd.R_base ho23) hb); have n2_ := Aside0.mk (Kd.R_below (by (with_reducible repeat (first | apply Kd.R_alloc | apply Kd.R_drewN | apply Kd.R_drew)); exact HO368.out) hb); have n3_ := Aside0.mk (Kd.R_below (by (with_reducible repeat (first | apply Kd.R_alloc | apply Kd.R_drewN | apply Kd.R_drew)); exact HO370.out) hb); have n4_ := Aside0.mk (Kd.R_below (by (with_reducible repeat (first | apply Kd.R_alloc | apply Kd.R_drewN | apply Kd.R_drew)); exact HO375.out) hb); have n5_ := Aside0.mk (Kd.R_below (by (with_reducible repeat (first | apply Kd.R_alloc | apply Kd.R_drewN | apply Kd.R_drew)); exact HO377.out) hb); have n6_ := Aside0.mk (Kd.R_below (by (with_reducible repeat (first | apply Kd.R_alloc | apply Kd.R_drewN | apply Kd.R_drew)); exact HO380.out) hb); have n7_ := Aside0.mk (Kd.R_lower (Kd.R_new' ho23 (Kd.R_lt (by (with_reducible repeat (first | apply Kd.R_alloc | apply Kd.R_drewN | apply Kd.R_drew)); exact HO363.out))) (below_size (by repeat (first | (with_reducible first | exact HB.out | apply below_alloc | apply pw_below_drewN | apply below_drew1) | exact HB.out)))); have n8_ := Aside0.mk (below_step (by repeat (first | (with_reducible first | exact HB.out | apply below_alloc | apply pw_below_drewN | apply below_drew1) | exact HB.out)) hb); clear HO361; clear HO363; clear HO368; clear HO370; clear HO375; clear HO377; clear HO380; clear HB; have HO361 := n0_; have HO363 := n1_; have HO368 := n2_; have HO370 := n3_; have HO375 := n4_; have HO377 := n5_; have HO380 := n6_; have HO383 := n7_; have HB := n8_; clear n0_ n1_ n2_ n3_ n4_ n5_ n6_ n7_ n8_; clear hb ho23; obtain ⟨Ao24, co24, eo24⟩ := Kd.R_slice HO380.out; subst eo24; obtain ⟨Ao25, co25, eo25⟩ := Kd.R_slice HO383.out; subst eo25) | (go_at_call 11; (with_reducible refine (impl_Try.calls k 1 _ _ y378 _ _ y381 t384 t385 t386 _ ?side1 ?side2 ?side3 ?side4 A13.out).mono ?_); (case side1 => repeat (first | exact (Kd.R_reads' HO380.out).2.2 | (with_reducible refine Kd.C_alloc ?_ _) | (with_reducible refine Kd.C_drewN ?_ _) | (with_reducible refine Kd.C_drew ?_))); (case side2 => exact (Kd.R_reads' HO380.out).2.1); (case side3 => repeat (first | exact (Kd.R_reads' HO383.out).2.2 | (with_reducible refine Kd.C_alloc ?_ _) | (with_reducible refine Kd.C_drewN ?_ _) | (with_reducible refine Kd.C_drew ?_))); (case side4 => exact (Kd.R_reads' HO383.out).2.1); rintro e w26 ⟨v387, v389, rfl, ho0, ho1, hb⟩; have n0_ := Aside0.mk (Kd.R_elder' (by (with_reducible repeat (first | apply Kd.R_alloc | apply Kd.R_drewN | apply Kd.R_drew)); exact HO361.out) (Kd.R_base ho1) hb); have n1_ := Aside0.mk (Kd.R_below (by (with_reducible repeat (first | apply Kd.R_alloc | apply Kd.R_drewN | apply Kd.R_drew)); exact HO363.out) hb); have n2_ := Aside0.mk (Kd.R_elder' (by (with_reducible repeat (first | apply Kd.R_alloc | apply Kd.R_drewN | apply Kd.R_drew)); exact HO368.out) (Kd.R_base ho0) hb); have n3_ := Aside0.mk (Kd.R_elder' (by (with_reducible repeat (first | apply Kd.R_alloc | apply Kd.R_drewN | apply Kd.R_drew)); exact HO370.out) (Kd.R_base ho1) hb); have n4_ := Aside0.mk (Kd.R_elder' (by (with_reducible repeat (first | apply Kd.R_alloc | apply Kd.R_drewN | apply Kd.R_drew)); exact HO375.out) (Kd.R_base ho0) hb); have n5_ := Aside0.mk (Kd.R_elder' (by (with_reducible repeat (first | apply Kd.R_alloc | apply Kd.R_drewN | apply Kd.R_drew)); exact HO377.out) (Kd.R_base ho1) hb); have n6_ := Aside0.mk (Kd.R_elder' (by (with_reducible repeat (first | apply Kd.R_alloc | apply Kd.R_drewN | apply Kd.R_drew)); exact HO380.out) (Kd.R_base ho1) hb); have n7_ := Aside0.mk (Kd.R_below (by (with_reducible repeat (first | apply Kd.R_alloc | apply Kd.R_drewN | apply Kd.R_drew)); exact HO383.out) hb); have n8_ := Aside0.mk (Kd.R_lower (Kd.R_new' (Kd.R_new' ho0 (Kd.R_lt (by (with_reducible repeat (first | apply Kd.R_alloc | apply Kd.R_drewN | apply Kd.R_drew)); exact HO368.out))) (Kd.R_lt (by (with_reducible repeat (first | apply Kd.R_alloc | apply Kd.R_drewN | apply Kd.R_drew)); exact HO375.out))) (below_size (by repeat (first | (with_reducible first | exact HB.out | apply below_alloc | apply pw_below_drewN | apply below_drew1) | exact HB.out)))); have n9_ := Aside0.mk (Kd.R_lower (Kd.R_new' (Kd.R_new' (Kd.R_new' (Kd.R_new' ho1 (Kd.R_lt (by (with_reducible repeat (first | apply Kd.R_alloc | apply Kd.R_drewN | apply Kd.R_drew)); exact HO361.out))) (Kd.R_lt (by (with_reducible repeat (first | apply Kd.R_alloc | apply Kd.R_drewN | apply Kd.R_drew)); exact HO370.out))) (Kd.R_lt (by (with_reducible repeat (first | apply Kd.R_alloc | apply Kd.R_drewN | apply Kd.R_drew)); exact HO377.out))) (Kd.R_lt (by (with_reducible repeat (first | apply Kd.R_alloc | apply Kd.R_drewN | apply Kd.R_drew)); exact HO380.out))) (below_size (by repeat (first | (with_reducible first | exact HB.out | apply below_alloc | apply pw_below_drewN | apply below_drew1) | exact HB.out)))); have n10_ := Aside0.mk (below_step (by repeat (first | (with_reducible first | exact HB.out | apply below_alloc | apply pw_below_drewN | apply below_drew1) | exact HB.out)) hb); clear HO361; clear HO363; clear HO368; clear HO370; clear HO375; clear HO377; clear HO380; clear HO383; clear HB; have HO361 := n0_; have HO363 := n1_; have HO368 := n2_; have HO370 := n3_; have HO375 := n4_; have HO377 := n5_; have HO380 := n6_; have HO383 := n7_; have HO388 := n8_; have HO390 := n9_; have HB := n10_; clear n0_ n1_ n2_ n3_ n4_ n5_ n6_ n7_ n8_ n9_ n10_; (try clear hb); (try clear hb2); (try clear hk); (try clear hi); (try clear ho0); (try clear ho1)))
   repeat (go_quiet (first | (go_at_call 20; (with_reducible refine (laws_big.calls _ _ l0 false _ ?side1 ?side2 A2.out).mono ?_); (case side1 => repeat (first | exact HR0.out | (with_reducible refine Kd.C_alloc ?_ _) | (with_reducible refine Kd.C_drewN ?_ _) | (with_reducible refine Kd.C_drew ?_))); (case side2 => exact HC0.out); rintro e w' ⟨rfl, ⟨nd, rfl⟩⟩; (try first | exact ⟨rfl, _, World.drewN_drewN _ _ _⟩ | exact ⟨rfl, _, Eq.trans (World.drewN_drewN _ _ _) (congrArg (World.drewN _) (Nat.add_assoc _ _ _))⟩)) | (go_at_call 21; (with_reducible refine (spec_DrawTry.calls k _ _ l0 t357 t358 t359 _ ?side1 ?side2 A4.out).mono ?_); (case side1 => repeat (first | exact HR0.out | (with_reducible refine Kd.C_alloc ?_ _) | (with_reducible refine Kd.C_drewN ?_ _) | (with_reducible refine Kd.C_drew ?_))); (case side2 => exact HC0.out); rintro e w15 ⟨v360, v362, rfl, ho0, ho1, hb⟩; have n0_ := Aside0.mk (Kd.R_lower ho0 (below_size (by repeat (first | (with_reducible first | exact HB.out | apply below_alloc | apply pw_below_drewN | apply below_drew1) | exact HB.out)))); have n1_ := Aside0.mk (Kd.R_lower ho1 (below_size (by repeat (first | (with_reducible first | exact HB.out | apply below_alloc | apply pw_below_drewN | apply below_drew1) | exact HB.out)))); have n2_ := Aside0.mk (below_step (by repeat (first | (with_reducible first | exact HB.out | apply below_alloc | apply pw_below_drewN | apply below_drew1) | exact HB.out)) hb); clear HB; have HO361 := n0_; have HO363 := n1_; have HB := n2_; clear n0_ n1_ n2_; (try clear hb); (try clear hb2); (try clear hk); (try clear hi); (try clear ho0); (try clear ho1); obtain ⟨Ao16, co16, eo16⟩ := Kd.R_slice HO361.out; subst eo16; obtain ⟨Ao17, co17, eo17⟩ := Kd.R_slice HO363.out; subst eo17) | (go_at_call 11; (with_reducible refine (impl_Try.calls k t357 _ _ t358 _ _ t359 t364 t365 t366 _ ?side1 ?side2 ?side3 ?side4 A5.out).mono ?_); (case side1 => repeat (first | exact (Kd.R_reads' HO361.out).2.2 | (with_reducible refine Kd.C_alloc ?_ _) | (with_reducible refine Kd.C_drewN ?_ _) | (with_reducible refine Kd.C_drew ?_))); (case side2 => exact (Kd.R_reads' HO361.out).2.1); (case side3 => repeat (first | exact (Kd.R_reads' HO363.out).2.2 | (with_reducible refine Kd.C_alloc ?_ _) | (with_reducible refine Kd.C_drewN ?_ _) | (with_reducible refine Kd.C_drew ?_))); (case side4 => exact (Kd.R_reads' HO363.out).2.1); rintro e w18 ⟨v367, v369, rfl, ho0, ho1, hb⟩; have n0_ := Aside0.mk (Kd.R_elder' (by (with_reducible repeat (first | apply Kd.R_alloc | apply Kd.R_drewN | apply Kd.R_drew)); exact HO361.out) (Kd.R_base ho1) hb); have n1_ := Aside0.mk (Kd.R_below (by (with_reducible repeat (first | apply Kd.R_alloc | apply Kd.R_drewN | apply Kd.R_drew)); exact HO363.out) hb); have n2_ := Aside0.mk (Kd.R_lower ho0 (below_size (by repeat (first | (with_reducible first | exact HB.out | apply below_alloc | apply pw_below_drewN | apply below_drew1) | exact HB.out)))); have n3_ := Aside0.mk (Kd.R_lower (Kd.R_new' ho1 (Kd.R_lt (by (with_reducible repeat (first | apply Kd.R_alloc | apply Kd.R_drewN | apply Kd.R_drew)); exact HO361.out))) (below_size (by repeat (first | (with_reducible first | exact HB.out | apply below_alloc | apply pw_below_drewN | apply below_drew1) | exact HB.out)))); have n4_ := Aside0.mk (below_step (by repeat (first | (with_reducible first | exact HB.out | apply below_alloc | apply pw_below_drewN | apply below_drew1) | exact HB.out)) hb); clear HO361; clear HO363; clear HB; have HO361 := n0_; have HO363 := n1_; have HO368 := n2_; have HO370 := n3_; have HB := n4_; clear n0_ n1_ n2_ n3_ n4_; (try clear hb); (try clear hb2); (try clear hk); (try clear hi); (try clear ho0); (try clear ho1)) | (go_at_call 8; (with_reducible refine (spec_Try.calls k t357 _ _ t358 _ _ t359 t371 t372 t373 _ ?side1 ?side2 ?side3 ?side4 A6.out).mono ?_); (case side1 => repeat (first | exact (Kd.R_reads' HO361.out).2.2 | (with_reducible refine Kd.C_alloc ?_ _) | (with_reducible refine Kd.C_drewN ?_ _) | (with_reducible refine Kd.C_drew ?_))); (case side2 => exact (Kd.R_reads' HO361.out).2.1); (case side3 => repeat (first | exact (Kd.R_reads' HO363.out).2.2 | (with_reducible refine Kd.C_alloc ?_ _) | (with_reducible refine Kd.C_drewN ?_ _) | (with_reducible refine Kd.C_drew ?_))); (case side4 => exact (Kd.R_reads' HO363.out).2.1); rintro e w19 ⟨v374, v376, rfl, ho0, ho1, hb⟩; have n0_ := Aside0.mk (Kd.R_elder' (by (with_reducible repeat (first | apply Kd.R_alloc | apply Kd.R_drewN | apply Kd.R_drew)); exact HO361.out) (Kd.R_base ho1) hb); have n1_ := Aside0.mk (Kd.R_below (by (with_reducible repeat (first | apply Kd.R_alloc | apply Kd.R_drewN | apply Kd.R_drew)); exact HO363.out) hb); have n2_ := Aside0.mk (Kd.R_elder' (by (with_reducible repeat (first | apply Kd.R_alloc | apply Kd.R_drewN | apply Kd.R_drew)); exact HO368.out) (Kd.R_base ho0) hb); have n3_ := Aside0.mk (Kd.R_elder' (by (with_reducible repeat (first | apply Kd.R_alloc | apply Kd.R_drewN | apply Kd.R_drew)); exact HO370.out) (Kd.R_base ho1) hb); have n4_ := Aside0.mk (Kd.R_lower (Kd.R_new' ho0 (Kd.R_lt (by (with_reducible repeat (first | apply Kd.R_alloc | apply Kd.R_drewN | apply Kd.R_drew)); exact HO368.out))) (below_size (by repeat (first | (with_reducible first | exact HB.out | apply below_alloc | apply pw_below_drewN | apply below_drew1) | exact HB.out)))); have n5_ := Aside0.mk (Kd.R_lower (Kd.R_new' (Kd.R_new' ho1 (Kd.R_lt (by (with_reducible repeat (first | apply Kd.R_alloc | apply Kd.R_drewN | apply Kd.R_drew)); exact HO361.out))) (Kd.R_lt (by (with_reducible repeat (first | apply Kd.R_alloc | apply Kd.R_drewN | apply Kd.R_drew)); exact HO370.out))) (below_size (by repeat (first | (with_reducible first | exact HB.out | apply below_alloc | apply pw_below_drewN | apply below_drew1) | exact HB.out)))); have n6_ := Aside0.mk (below_step (by repeat (first | (with_reducible first | exact HB.out | apply below_alloc | apply pw_below_drewN | apply below_drew1) | exact HB.out)) hb); clear HO361; clear HO363; clear HO368; clear HO370; clear HB; have HO361 := n0_; have HO363 := n1_; have HO368 := n2_; have HO370 := n3_; have HO375 := n4_; have HO377 := n5_; have HB := n6_; clear n0_ n1_ n2_ n3_ n4_ n5_ n6_; (try clear hb); (try clear hb2); (try clear hk); (try clear hi); (try clear ho0); (try clear ho1)) | ((with_reducible refine gate_dst (N := 48) rfl ?_); (try (refine gate_guard (by rfl) ?_; dsimp only)); refine Kd.R_lit (Kd.int .i64) _ 3 ?hg (N := 48) ?hd (xs := ([0, 0, 0, 0] : List Int)) (inner := [.int .i64 0, .int .i64 0, .int .i64 0, .int .i64 0]) (ok := fun _ => True) (okp := fun _ => True) ?hr ?hp (fun _ hk => hk) trivial (Below.refl _ _) (Nat.le_refl _) (by simp) ?_; (case hd => rfl); (case hg => rfl); (case hr => first | (go_simp; done) | (go_simp; rfl)); (case hp => exact (Reps.one (show Kd.M (Kd.int .i64) _ _ _ 0 [.int .i64 0] from rfl) (Reps.one (show Kd.M (Kd.int .i64) _ _ _ 0 [.int .i64 0] from rfl) (Reps.one (show Kd.M (Kd.int .i64) _ _ _ 0 [.int .i64 0] from rfl) (Reps.one (show Kd.M (Kd.int .i64) _ _ _ 0 [.int .i64 0] from rfl) (Reps.none _ _)))))); intro v379 w20 ho21 hb hg_ hnew_; clear hg_ hnew_; (first | rw [← Ny378.out] at ho21 | (simp only [Int.reduceToNat] at ho21; rw [← Ny378.out] at ho21)); have n0_ := Aside0.mk (Kd.R_elder' (by (with_reducible repeat (first | apply Kd.R_alloc | apply Kd.R_drewN | apply Kd.R_drew)); exact HO361.out) (Kd.R_base ho21) hb); have n1_ := Aside0.mk (Kd.R_below (by (with_reducible repeat (first | apply Kd.R_alloc | apply Kd.R_drewN | apply Kd.R_drew)); exact HO363.out) hb); have n2_ := Aside0.mk (Kd.R_below (by (with_reducible repeat (first | apply Kd.R_alloc | apply Kd.R_drewN | apply Kd.R_drew)); exact HO368.out) hb); have n3_ := Aside0.mk (Kd.R_elder' (by (with_reducible repeat (first | apply Kd.R_alloc | apply Kd.R_drewN | apply Kd.R_drew)); exact HO370.out) (Kd.R_base ho21) hb); have n4_ := Aside0.mk (Kd.R_below (by (with_reducible repeat (first | apply Kd.R_alloc | apply Kd.R_drewN | apply Kd.R_drew)); exact HO375.out) hb); have n5_ := Aside0.mk (Kd.R_elder' (by (with_reducible repeat (first | apply Kd.R_alloc | apply Kd.R_drewN | apply Kd.R_drew)); exact HO377.out) (Kd.R_base ho21) hb); have n6_ := Aside0.mk (Kd.R_lower (Kd.R_new' (Kd.R_new' (Kd.R_new' ho21 (Kd.R_lt (by (with_reducible repeat (first | apply Kd.R_alloc | apply Kd.R_drewN | apply Kd.R_drew)); exact HO361.out))) (Kd.R_lt (by (with_reducible repeat (first | apply Kd.R_alloc | apply Kd.R_drewN | apply Kd.R_drew)); exact HO370.out))) (Kd.R_lt (by (with_reducible repeat (first | apply Kd.R_alloc | apply Kd.R_drewN | apply Kd.R_drew)); exact HO377.out))) (below_size (by repeat (first | (with_reducible first | exact HB.out | apply below_alloc | apply pw_below_drewN | apply below_drew1) | exact HB.out)))); have n7_ := Aside0.mk (below_step (by repeat (first | (with_reducible first | exact HB.out | apply below_alloc | apply pw_below_drewN | apply below_drew1) | exact HB.out)) hb); clear HO361; clear HO363; clear HO368; clear HO370; clear HO375; clear HO377; clear HB; have HO361 := n0_; have HO363 := n1_; have HO368 := n2_; have HO370 := n3_; have HO375 := n4_; have HO377 := n5_; have HO380 := n6_; have HB := n7_; clear n0_ n1_ n2_ n3_ n4_ n5_ n6_ n7_; clear hb ho21) | ((with_reducible refine gate_dst (N := 52) rfl ?_); (try (refine gate_guard (by rfl) ?_; dsimp only)); refine Kd.R_lit k43 _ 43 ?hg (N := 52) ?hd (xs := ([(⟨0, 5, 0⟩ : S43), (⟨4, 0, 0⟩ : S43), (⟨5, 0, 0⟩ : S43)] : List (S43))) (inner := [.int .i64 0, .int .i64 5, .int .i64 0, .int .i64 4, .int .i64 0, .int .i64 0, .int .i64 5, .int .i64 0, .int .i64 0]) (ok := fun _ => True) (okp := fun _ => True) ?hr ?hp (fun _ hk => hk) trivial (Below.refl _ _) (Nat.le_refl _) (by simp) ?_; (case hd => rfl); (case hg => rfl); (case hr => first | (go_simp; done) | (go_simp; rfl)); (case hp => exact (Reps.c3 (show Kd.M k43 _ _ _ (⟨0, 5, 0⟩ : S43) [.int .i64 0, .int .i64 5, .int .i64 0] from (k43_mkM _ _ _ (⟨0, 5, 0⟩ : S43) )) (Reps.c3 (show Kd.M k43 _ _ _ (⟨4, 0, 0⟩ : S43) [.int .i64 4, .int .i64 0, .int .i64 0] from (k43_mkM _ _ _ (⟨4, 0, 0⟩ : S43) )) (Reps.c3 (show Kd.M k43 _ _ _ (⟨5, 0, 0⟩ : S43) [.int .i64 5, .int .i64 0, .int .i64 0] from (k43_mkM _ _ _ (⟨5, 0, 0⟩ : S43) )) (Reps.none _ _))))); intro v382 w22 ho23 hb hg_ hnew_; clear hg_ hnew_; (first | rw [← Ny381.out] at ho23 | (simp only [Int.reduceToNat] at ho23; rw [← Ny381.out] at ho23)); have n0_ := Aside0.mk (Kd.R_below (by (with_reducible repeat (first | apply Kd.R_alloc | apply Kd.R_drewN | apply Kd.R_drew)); exact HO361.out) hb); have n1_ := Aside0.mk (Kd.R_elder' (by (with_reducible repeat (first | apply Kd.R_alloc | apply Kd.R_drewN | apply Kd.R_drew)); exact HO363.out) (Kd.R_base ho23) hb); have n2_ := Aside0.mk (Kd.R_below (by (with_reducible repeat (first | apply Kd.R_alloc | apply Kd.R_drewN | apply Kd.R_drew)); exact HO368.out) hb); have n3_ := Aside0.mk (Kd.R_below (by (with_reducible repeat (first | apply Kd.R_alloc | apply Kd.R_drewN | apply Kd.R_drew)); exact HO370.out) hb); have n4_ := Aside0.mk (Kd.R_below (by (with_reducible repeat (first | apply Kd.R_alloc | apply Kd.R_drewN | apply Kd.R_drew)); exact HO375.out) hb); have n5_ := Aside0.mk (Kd.R_below (by (with_reducible repeat (first | apply Kd.R_alloc | apply Kd.R_drewN | apply Kd.R_drew)); exact HO377.out) hb); have n6_ := Aside0.mk (Kd.R_below (by (with_reducible repeat (first | apply Kd.R_alloc | apply Kd.R_drewN | apply Kd.R_drew)); exact HO380.out) hb); have n7_ := Aside0.mk (Kd.R_lower (Kd.R_new' ho23 (Kd.R_lt (by (with_reducible repeat (first | apply Kd.R_alloc | apply Kd.R_drewN | apply Kd.R_drew)); exact HO363.out))) (below_size (by repeat (first | (with_reducible first | exact HB.out | apply below_alloc | apply pw_below_drewN | apply below_drew1) | exact HB.out)))); have n8_ := Aside0.mk (below_step (by repeat (first | (with_reducible first | exact HB.out | apply below_alloc | apply pw_below_drewN | apply below_drew1) | exact HB.out)) hb); clear HO361; clear HO363; clear HO368; clear HO370; clear HO375; clear HO377; clear HO380; clear HB; have HO361 := n0_; have HO363 := n1_; have HO368 := n2_; have HO370 := n3_; have HO375 := n4_; have HO377 := n5_; have HO380 := n6_; have HO383 := n7_; have HB := n8_; clear n0_ n1_ n2_ n3_ n4_ n5_ n6_ n7_ n8_; clear hb ho23; obtain ⟨Ao24, co24, eo24⟩ := Kd.R_slice HO380.out; subst eo24; obtain ⟨Ao25, co25, eo25⟩ := Kd.R_slice HO383.out; subst eo25) | (go_at_call 11; (with_reducible refine (impl_Try.calls k 1 _ _ y378 _ _ y381 t384 t385 t386 _ ?side1 ?side2 ?side3 ?side4 A13.out).mono ?_); (case side1 => repeat (first | exact (Kd.R_reads' HO380.out).2.2 | (with_reducible refine Kd.C_alloc ?_ _) | (with_reducible refine Kd.C_drewN ?_ _) | (with_reducible refine Kd.C_drew ?_))); (case side2 => exact (Kd.R_reads' HO380.out).2.1); (case side3 => repeat (first | exact (Kd.R_reads' HO383.out).2.2 | (with_reducible refine Kd.C_alloc ?_ _) | (with_reducible refine Kd.C_drewN ?_ _) | (with_reducible refine Kd.C_drew ?_))); (case side4 => exact (Kd.R_reads' HO383.out).2.1); rintro e w26 ⟨v387, v389, rfl, ho0, ho1, hb⟩; have n0_ := Aside0.mk (Kd.R_elder' (by (with_reducible repeat (first | apply Kd.R_alloc | apply Kd.R_drewN | apply Kd.R_drew)); exact HO361.out) (Kd.R_base ho1) hb); have n1_ := Aside0.mk (Kd.R_below (by (with_reducible repeat (first | apply Kd.R_alloc | apply Kd.R_drewN | apply Kd.R_drew)); exact HO363.out) hb); have n2_ := Aside0.mk (Kd.R_elder' (by (with_reducible repeat (first | apply Kd.R_alloc | apply Kd.R_drewN | apply Kd.R_drew)); exact HO368.out) (Kd.R_base ho0) hb); have n3_ := Aside0.mk (Kd.R_elder' (by (with_reducible repeat (first | apply Kd.R_alloc | apply Kd.R_drewN | apply Kd.R_drew)); exact HO370.out) (Kd.R_base ho1) hb); have n4_ := Aside0.mk (Kd.R_elder' (by (with_reducible repeat (first | apply Kd.R_alloc | apply Kd.R_drewN | apply Kd.R_drew)); exact HO375.out) (Kd.R_base ho0) hb); have n5_ := Aside0.mk (Kd.R_elder' (by (with_reducible repeat (first | apply Kd.R_alloc | apply Kd.R_drewN | apply Kd.R_drew)); exact HO377.out) (Kd.R_base ho1) hb); have n6_ := Aside0.mk (Kd.R_elder' (by (with_reducible repeat (first | apply Kd.R_alloc | apply Kd.R_drewN | apply Kd.R_drew)); exact HO380.out) (Kd.R_base ho1) hb); have n7_ := Aside0.mk (Kd.R_below (by (with_reducible repeat (first | apply Kd.R_alloc | apply Kd.R_drewN | apply Kd.R_drew)); exact HO383.out) hb); have n8_ := Aside0.mk (Kd.R_lower (Kd.R_new' (Kd.R_new' ho0 (Kd.R_lt (by (with_reducible repeat (first | apply Kd.R_alloc | apply Kd.R_drewN | apply Kd.R_drew)); exact HO368.out))) (Kd.R_lt (by (with_reducible repeat (first | apply Kd.R_alloc | apply Kd.R_drewN | apply Kd.R_drew)); exact HO375.out))) (below_size (by repeat (first | (with_reducible first | exact HB.out | apply below_alloc | apply pw_below_drewN | apply below_drew1) | exact HB.out)))); have n9_ := Aside0.mk (Kd.R_lower (Kd.R_new' (Kd.R_new' (Kd.R_new' (Kd.R_new' ho1 (Kd.R_lt (by (with_reducible repeat (first | apply Kd.R_alloc | apply Kd.R_drewN | apply Kd.R_drew)); exact HO361.out))) (Kd.R_lt (by (with_reducible repeat (first | apply Kd.R_alloc | apply Kd.R_drewN | apply Kd.R_drew)); exact HO370.out))) (Kd.R_lt (by (with_reducible repeat (first | apply Kd.R_alloc | apply Kd.R_drewN | apply Kd.R_drew)); exact HO377.out))) (Kd.R_lt (by (with_reducible repeat (first | apply Kd.R_alloc | apply Kd.R_drewN | apply Kd.R_drew)); exact HO380.out))) (below_size (by repeat (first | (with_reducible first | exact HB.out | apply below_alloc | apply pw_below_drewN | apply below_drew1) | exact HB.out)))); have n10_ := Aside0.mk (below_step (by repeat (first | (with_reducible first | exact HB.out | apply below_alloc | apply pw_below_drewN | apply below_drew1) | exact HB.out)) hb); clear HO361; clear HO363; clear HO368; clear HO370; clear HO375; clear HO377; clear HO380; clear HO383; clear HB; have HO361 := n0_; have HO363 := n1_; have HO368 := n2_; have HO370 := n3_; have HO375 := n4_; have HO377 := n5_; have HO380 := n6_; have HO383 := n7_; have HO388 := n8_; have HO390 := n9_; have HB := n10_; clear n0_ n1_ n2_ n3_ n4_ n5_ n6_ n7_ n8_ n9_ n10_; (try clear hb); (try clear hb2); (try clear hk); (try clear hi); (try clear ho0); (try clear ho1))); go_upto_region 9 with (first | (go_at_call 20; (with_reducible refine (laws_big.calls _ _ l0 false _ ?side1 ?side2 A2.out).mono ?_); (case side1 => repeat (first | exact HR0.out | (with_reducible refine Kd.C_alloc ?_ _) | (with_reducible refine Kd.C_drewN ?_ _) | (with_reducible refine Kd.C_drew ?_))); (case side2 => exact HC0.out); rintro e w' ⟨rfl, ⟨nd, rfl⟩⟩; (try first | exact ⟨rfl, _, World.drewN_drewN _ _ _⟩ | exact ⟨rfl, _, Eq.trans (World.drewN_drewN _ _ _) (congrArg (World.drewN _) (Nat.add_assoc _ _ _))⟩)) | (go_at_call 21; (with_reducible refine (spec_DrawTry.calls k _ _ l0 t357 t358 t359 _ ?side1 ?side2 A4.out).mono ?_); (case side1 => repeat (first | exact HR0.out | (with_reducible refine Kd.C_alloc ?_ _) | (with_reducible refine Kd.C_drewN ?_ _) | (with_reducible refine Kd.C_drew ?_))); (case side2 => exact HC0.out); rintro e w15 ⟨v360, v362, rfl, ho0, ho1, hb⟩; have n0_ := Aside0.mk (Kd.R_lower ho0 (below_size (by repeat (first | (with_reducible first | exact HB.out | apply below_alloc | apply pw_below_drewN | apply below_drew1) | exact HB.out)))); have n1_ := Aside0.mk (Kd.R_lower ho1 (below_size (by repeat (first | (with_reducible first | exact HB.out | apply below_alloc | apply pw_below_drewN | apply below_drew1) | exact HB.out)))); have n2_ := Aside0.mk (below_step (by repeat (first | (with_reducible first | exact HB.out | apply below_alloc | apply pw_below_drewN | apply below_drew1) | exact HB.out)) hb); clear HB; have HO361 := n0_; have HO363 := n1_; have HB := n2_; clear n0_ n1_ n2_; (try clear hb); (try clear hb2); (try clear hk); (try clear hi); (try clear ho0); (try clear ho1); obtain ⟨Ao16, co16, eo16⟩ := Kd.R_slice HO361.out; subst eo16; obtain ⟨Ao17, co17, eo17⟩ := Kd.R_slice HO363.out; subst eo17) | (go_at_call 11; (with_reducible refine (impl_Try.calls k t357 _ _ t358 _ _ t359 t364 t365 t366 _ ?side1 ?side2 ?side3 ?side4 A5.out).mono ?_); (case side1 => repeat (first | exact (Kd.R_reads' HO361.out).2.2 | (with_reducible refine Kd.C_alloc ?_ _) | (with_reducible refine Kd.C_drewN ?_ _) | (with_reducible refine Kd.C_drew ?_))); (case side2 => exact (Kd.R_reads' HO361.out).2.1); (case side3 => repeat (first | exact (Kd.R_reads' HO363.out).2.2 | (with_reducible refine Kd.C_alloc ?_ _) | (with_reducible refine Kd.C_drewN ?_ _) | (with_reducible refine Kd.C_drew ?_))); (case side4 => exact (Kd.R_reads' HO363.out).2.1); rintro e w18 ⟨v367, v369, rfl, ho0, ho1, hb⟩; have n0_ := Aside0.mk (Kd.R_elder' (by (with_reducible repeat (first | apply Kd.R_alloc | apply Kd.R_drewN | apply Kd.R_drew)); exact HO361.out) (Kd.R_base ho1) hb); have n1_ := Aside0.mk (Kd.R_below (by (with_reducible repeat (first | apply Kd.R_alloc | apply Kd.R_drewN | apply Kd.R_drew)); exact HO363.out) hb); have n2_ := Aside0.mk (Kd.R_lower ho0 (below_size (by repeat (first | (with_reducible first | exact HB.out | apply below_alloc | apply pw_below_drewN | apply below_drew1) | exact HB.out)))); have n3_ := Aside0.mk (Kd.R_lower (Kd.R_new' ho1 (Kd.R_lt (by (with_reducible repeat (first | apply Kd.R_alloc | apply Kd.R_drewN | apply Kd.R_drew)); exact HO361.out))) (below_size (by repeat (first | (with_reducible first | exact HB.out | apply below_alloc | apply pw_below_drewN | apply below_drew1) | exact HB.out)))); have n4_ := Aside0.mk (below_step (by repeat (first | (with_reducible first | exact HB.out | apply below_alloc | apply pw_below_drewN | apply below_drew1) | exact HB.out)) hb); clear HO361; clear HO363; clear HB; have HO361 := n0_; have HO363 := n1_; have HO368 := n2_; have HO370 := n3_; have HB := n4_; clear n0_ n1_ n2_ n3_ n4_; (try clear hb); (try clear hb2); (try clear hk); (try clear hi); (try clear ho0); (try clear ho1)) | (go_at_call 8; (with_reducible refine (spec_Try.calls k t357 _ _ t358 _ _ t359 t371 t372 t373 _ ?side1 ?side2 ?side3 ?side4 A6.out).mono ?_); (case side1 => repeat (first | exact (Kd.R_reads' HO361.out).2.2 | (with_reducible refine Kd.C_alloc ?_ _) | (with_reducible refine Kd.C_drewN ?_ _) | (with_reducible refine Kd.C_drew ?_))); (case side2 => exact (Kd.R_reads' HO361.out).2.1); (case side3 => repeat (first | exact (Kd.R_reads' HO363.out).2.2 | (with_reducible refine Kd.C_alloc ?_ _) | (with_reducible refine Kd.C_drewN ?_ _) | (with_reducible refine Kd.C_drew ?_))); (case side4 => exact (Kd.R_reads' HO363.out).2.1); rintro e w19 ⟨v374, v376, rfl, ho0, ho1, hb⟩; have n0_ := Aside0.mk (Kd.R_elder' (by (with_reducible repeat (first | apply Kd.R_alloc | apply Kd.R_drewN | apply Kd.R_drew)); exact HO361.out) (Kd.R_base ho1) hb); have n1_ := Aside0.mk (Kd.R_below (by (with_reducible repeat (first | apply Kd.R_alloc | apply Kd.R_drewN | apply Kd.R_drew)); exact HO363.out) hb); have n2_ := Aside0.mk (Kd.R_elder' (by (with_reducible repeat (first | apply Kd.R_alloc | apply Kd.R_drewN | apply Kd.R_drew)); exact HO368.out) (Kd.R_base ho0) hb); have n3_ := Aside0.mk (Kd.R_elder' (by (with_reducible repeat (first | apply Kd.R_alloc | apply Kd.R_drewN | apply Kd.R_drew)); exact HO370.out) (Kd.R_base ho1) hb); have n4_ := Aside0.mk (Kd.R_lower (Kd.R_new' ho0 (Kd.R_lt (by (with_reducible repeat (first | apply Kd.R_alloc | apply Kd.R_drewN | apply Kd.R_drew)); exact HO368.out))) (below_size (by repeat (first | (with_reducible first | exact HB.out | apply below_alloc | apply pw_below_drewN | apply below_drew1) | exact HB.out)))); have n5_ := Aside0.mk (Kd.R_lower (Kd.R_new' (Kd.R_new' ho1 (Kd.R_lt (by (with_reducible repeat (first | apply Kd.R_alloc | apply Kd.R_drewN | apply Kd.R_drew)); exact HO361.out))) (Kd.R_lt (by (with_reducible repeat (first | apply Kd.R_alloc | apply Kd.R_drewN | apply Kd.R_drew)); exact HO370.out))) (below_size (by repeat (first | (with_reducible first | exact HB.out | apply below_alloc | apply pw_below_drewN | apply below_drew1) | exact HB.out)))); have n6_ := Aside0.mk (below_step (by repeat (first | (with_reducible first | exact HB.out | apply below_alloc | apply pw_below_drewN | apply below_drew1) | exact HB.out)) hb); clear HO361; clear HO363; clear HO368; clear HO370; clear HB; have HO361 := n0_; have HO363 := n1_; have HO368 := n2_; have HO370 := n3_; have HO375 := n4_; have HO377 := n5_; have HB := n6_; clear n0_ n1_ n2_ n3_ n4_ n5_ n6_; (try clear hb); (try clear hb2); (try clear hk); (try clear hi); (try clear ho0); (try clear ho1)) | ((with_reducible refine gate_dst (N := 48) rfl ?_); (try (refine gate_guard (by rfl) ?_; dsimp only)); refine Kd.R_lit (Kd.int .i64) _ 3 ?hg (N := 48) ?hd (xs := ([0, 0, 0, 0] : List Int)) (inner := [.int .i64 0, .int .i64 0, .int .i64 0, .int .i64 0]) (ok := fun _ => True) (okp := fun _ => True) ?hr ?hp (fun _ hk => hk) trivial (Below.refl _ _) (Nat.le_refl _) (by simp) ?_; (case hd => rfl); (case hg => rfl); (case hr => first | (go_simp; done) | (go_simp; rfl)); (case hp => exact (Reps.one (show Kd.M (Kd.int .i64) _ _ _ 0 [.int .i64 0] from rfl) (Reps.one (show Kd.M (Kd.int .i64) _ _ _ 0 [.int .i64 0] from rfl) (Reps.one (show Kd.M (Kd.int .i64) _ _ _ 0 [.int .i64 0] from rfl) (Reps.one (show Kd.M (Kd.int .i64) _ _ _ 0 [.int .i64 0] from rfl) (Reps.none _ _)))))); intro v379 w20 ho21 hb hg_ hnew_; clear hg_ hnew_; (first | rw [← Ny378.out] at ho21 | (simp only [Int.reduceToNat] at ho21; rw [← Ny378.out] at ho21)); have n0_ := Aside0.mk (Kd.R_elder' (by (with_reducible repeat (first | apply Kd.R_alloc | apply Kd.R_drewN | apply Kd.R_drew)); exact HO361.out) (Kd.R_base ho21) hb); have n1_ := Aside0.mk (Kd.R_below (by (with_reducible repeat (first | apply Kd.R_alloc | apply Kd.R_drewN | apply Kd.R_drew)); exact HO363.out) hb); have n2_ := Aside0.mk (Kd.R_below (by (with_reducible repeat (first | apply Kd.R_alloc | apply Kd.R_drewN | apply Kd.R_drew)); exact HO368.out) hb); have n3_ := Aside0.mk (Kd.R_elder' (by (with_reducible repeat (first | apply Kd.R_alloc | apply Kd.R_drewN | apply Kd.R_drew)); exact HO370.out) (Kd.R_base ho21) hb); have n4_ := Aside0.mk (Kd.R_below (by (with_reducible repeat (first | apply Kd.R_alloc | apply Kd.R_drewN | apply Kd.R_drew)); exact HO375.out) hb); have n5_ := Aside0.mk (Kd.R_elder' (by (with_reducible repeat (first | apply Kd.R_alloc | apply Kd.R_drewN | apply Kd.R_drew)); exact HO377.out) (Kd.R_base ho21) hb); have n6_ := Aside0.mk (Kd.R_lower (Kd.R_new' (Kd.R_new' (Kd.R_new' ho21 (Kd.R_lt (by (with_reducible repeat (first | apply Kd.R_alloc | apply Kd.R_drewN | apply Kd.R_drew)); exact HO361.out))) (Kd.R_lt (by (with_reducible repeat (first | apply Kd.R_alloc | apply Kd.R_drewN | apply Kd.R_drew)); exact HO370.out))) (Kd.R_lt (by (with_reducible repeat (first | apply Kd.R_alloc | apply Kd.R_drewN | apply Kd.R_drew)); exact HO377.out))) (below_size (by repeat (first | (with_reducible first | exact HB.out | apply below_alloc | apply pw_below_drewN | apply below_drew1) | exact HB.out)))); have n7_ := Aside0.mk (below_step (by repeat (first | (with_reducible first | exact HB.out | apply below_alloc | apply pw_below_drewN | apply below_drew1) | exact HB.out)) hb); clear HO361; clear HO363; clear HO368; clear HO370; clear HO375; clear HO377; clear HB; have HO361 := n0_; have HO363 := n1_; have HO368 := n2_; have HO370 := n3_; have HO375 := n4_; have HO377 := n5_; have HO380 := n6_; have HB := n7_; clear n0_ n1_ n2_ n3_ n4_ n5_ n6_ n7_; clear hb ho21) | ((with_reducible refine gate_dst (N := 52) rfl ?_); (try (refine gate_guard (by rfl) ?_; dsimp only)); refine Kd.R_lit k43 _ 43 ?hg (N := 52) ?hd (xs := ([(⟨0, 5, 0⟩ : S43), (⟨4, 0, 0⟩ : S43), (⟨5, 0, 0⟩ : S43)] : List (S43))) (inner := [.int .i64 0, .int .i64 5, .int .i64 0, .int .i64 4, .int .i64 0, .int .i64 0, .int .i64 5, .int .i64 0, .int .i64 0]) (ok := fun _ => True) (okp := fun _ => True) ?hr ?hp (fun _ hk => hk) trivial (Below.refl _ _) (Nat.le_refl _) (by simp) ?_; (case hd => rfl); (case hg => rfl); (case hr => first | (go_simp; done) | (go_simp; rfl)); (case hp => exact (Reps.c3 (show Kd.M k43 _ _ _ (⟨0, 5, 0⟩ : S43) [.int .i64 0, .int .i64 5, .int .i64 0] from (k43_mkM _ _ _ (⟨0, 5, 0⟩ : S43) )) (Reps.c3 (show Kd.M k43 _ _ _ (⟨4, 0, 0⟩ : S43) [.int .i64 4, .int .i64 0, .int .i64 0] from (k43_mkM _ _ _ (⟨4, 0, 0⟩ : S43) )) (Reps.c3 (show Kd.M k43 _ _ _ (⟨5, 0, 0⟩ : S43) [.int .i64 5, .int .i64 0, .int .i64 0] from (k43_mkM _ _ _ (⟨5, 0, 0⟩ : S43) )) (Reps.none _ _))))); intro v382 w22 ho23 hb hg_ hnew_; clear hg_ hnew_; (first | rw [← Ny381.out] at ho23 | (simp only [Int.reduceToNat] at ho23; rw [← Ny381.out] at ho23)); have n0_ := Aside0.mk (Kd.R_below (by (with_reducible repeat (first | apply Kd.R_alloc | apply Kd.R_drewN | apply Kd.R_drew)); exact HO361.out) hb); have n1_ := Aside0.mk (Kd.R_elder' (by (with_reducible repeat (first | apply Kd.R_alloc | apply Kd.R_drewN | apply Kd.R_drew)); exact HO363.out) (Kd.R_base ho23) hb); have n2_ := Aside0.mk (Kd.R_below (by (with_reducible repeat (first | apply Kd.R_alloc | apply Kd.R_drewN | apply Kd.R_drew)); exact HO368.out) hb); have n3_ := Aside0.mk (Kd.R_below (by (with_reducible repeat (first | apply Kd.R_alloc | apply Kd.R_drewN | apply Kd.R_drew)); exact HO370.out) hb); have n4_ := Aside0.mk (Kd.R_below (by (with_reducible repeat (first | apply Kd.R_alloc | apply Kd.R_drewN | apply Kd.R_drew)); exact HO375.out) hb); have n5_ := Aside0.mk (Kd.R_below (by (with_reducible repeat (first | apply Kd.R_alloc | apply Kd.R_drewN | apply Kd.R_drew)); exact HO377.out) hb); have n6_ := Aside0.mk (Kd.R_below (by (with_reducible repeat (first | apply Kd.R_alloc | apply Kd.R_drewN | apply Kd.R_drew)); exact HO380.out) hb); have n7_ := Aside0.mk (Kd.R_lower (Kd.R_new' ho23 (Kd.R_lt (by (with_reducible repeat (first | apply Kd.R_alloc | apply Kd.R_drewN | apply Kd.R_drew)); exact HO363.out))) (below_size (by repeat (first | (with_reducible first | exact HB.out | apply below_alloc | apply pw_below_drewN | apply below_drew1) | exact HB.out)))); have n8_ := Aside0.mk (below_step (by repeat (first | (with_reducible first | exact HB.out | apply below_alloc | apply pw_below_drewN | apply below_drew1) | exact HB.out)) hb); clear HO361; clear HO363; clear HO368; clear HO370; clear HO375; clear HO377; clear HO380; clear HB; have HO361 := n0_; have HO363 := n1_; have HO368 := n2_; have HO370 := n3_; have HO375 := n4_; have HO377 := n5_; have HO380 := n6_; have HO383 := n7_; have HB := n8_; clear n0_ n1_ n2_ n3_ n4_ n5_ n6_ n7_ n8_; clear hb ho23; obtain ⟨Ao24, co24, eo24⟩ := Kd.R_slice HO380.out; subst eo24; obtain ⟨Ao25, co25, eo25⟩ := Kd.R_slice HO383.out; subst eo25) | (go_at_call 11; (with_reducible refine (impl_Try.calls k 1 _ _ y378 _ _ y381 t384 t385 t386 _ ?side1 ?side2 ?side3 ?side4 A13.out).mono ?_); (case side1 => repeat (first | exact (Kd.R_reads' HO380.out).2.2 | (with_reducible refine Kd.C_alloc ?_ _) | (with_reducible refine Kd.C_drewN ?_ _) | (with_reducible refine Kd.C_drew ?_))); (case side2 => exact (Kd.R_reads' HO380.out).2.1); (case side3 => repeat (first | exact (Kd.R_reads' HO383.out).2.2 | (with_reducible refine Kd.C_alloc ?_ _) | (with_reducible refine Kd.C_drewN ?_ _) | (with_reducible refine Kd.C_drew ?_))); (case side4 => exact (Kd.R_reads' HO383.out).2.1); rintro e w26 ⟨v387, v389, rfl, ho0, ho1, hb⟩; have n0_ := Aside0.mk (Kd.R_elder' (by (with_reducible repeat (first | apply Kd.R_alloc | apply Kd.R_drewN | apply Kd.R_drew)); exact HO361.out) (Kd.R_base ho1) hb); have n1_ := Aside0.mk (Kd.R_below (by (with_reducible repeat (first | apply Kd.R_alloc | apply Kd.R_drewN | apply Kd.R_drew)); exact HO363.out) hb); have n2_ := Aside0.mk (Kd.R_elder' (by (with_reducible repeat (first | apply Kd.R_alloc | apply Kd.R_drewN | apply Kd.R_drew)); exact HO368.out) (Kd.R_base ho0) hb); have n3_ := Aside0.mk (Kd.R_elder' (by (with_reducible repeat (first | apply Kd.R_alloc | apply Kd.R_drewN | apply Kd.R_drew)); exact HO370.out) (Kd.R_base ho1) hb); have n4_ := Aside0.mk (Kd.R_elder' (by (with_reducible repeat (first | apply Kd.R_alloc | apply Kd.R_drewN | apply Kd.R_drew)); exact HO375.out) (Kd.R_base ho0) hb); have n5_ := Aside0.mk (Kd.R_elder' (by (with_reducible repeat (first | apply Kd.R_alloc | apply Kd.R_drewN | apply Kd.R_drew)); exact HO377.out) (Kd.R_base ho1) hb); have n6_ := Aside0.mk (Kd.R_elder' (by (with_reducible repeat (first | apply Kd.R_alloc | apply Kd.R_drewN | apply Kd.R_drew)); exact HO380.out) (Kd.R_base ho1) hb); have n7_ := Aside0.mk (Kd.R_below (by (with_reducible repeat (first | apply Kd.R_alloc | apply Kd.R_drewN | apply Kd.R_drew)); exact HO383.out) hb); have n8_ := Aside0.mk (Kd.R_lower (Kd.R_new' (Kd.R_new' ho0 (Kd.R_lt (by (with_reducible repeat (first | apply Kd.R_alloc | apply Kd.R_drewN | apply Kd.R_drew)); exact HO368.out))) (Kd.R_lt (by (with_reducible repeat (first | apply Kd.R_alloc | apply Kd.R_drewN | apply Kd.R_drew)); exact HO375.out))) (below_size (by repeat (first | (with_reducible first | exact HB.out | apply below_alloc | apply pw_below_drewN | apply below_drew1) | exact HB.out)))); have n9_ := Aside0.mk (Kd.R_lower (Kd.R_new' (Kd.R_new' (Kd.R_new' (Kd.R_new' ho1 (Kd.R_lt (by (with_reducible repeat (first | apply Kd.R_alloc | apply Kd.R_drewN | apply Kd.R_drew)); exact HO361.out))) (Kd.R_lt (by (with_reducible repeat (first | apply Kd.R_alloc | apply Kd.R_drewN | apply Kd.R_drew)); exact HO370.out))) (Kd.R_lt (by (with_reducible repeat (first | apply Kd.R_alloc | apply Kd.R_drewN | apply Kd.R_drew)); exact HO377.out))) (Kd.R_lt (by (with_reducible repeat (first | apply Kd.R_alloc | apply Kd.R_drewN | apply Kd.R_drew)); exact HO380.out))) (below_size (by repeat (first | (with_reducible first | exact HB.out | apply below_alloc | apply pw_below_drewN | apply below_drew1) | exact HB.out)))); have n10_ := Aside0.mk (below_step (by repeat (first | (with_reducible first | exact HB.out | apply below_alloc | apply pw_below_drewN | apply below_drew1) | exact HB.out)) hb); clear HO361; clear HO363; clear HO368; clear HO370; clear HO375; clear HO377; clear HO380; clear HO383; clear HB; have HO361 := n0_; have HO363 := n1_; have HO368 := n2_; have HO370 := n3_; have HO375 := n4_; have HO377 := n5_; have HO380 := n6_; have HO383 := n7_; have HO388 := n8_; have HO390 := n9_; have HB := n10_; clear n0_ n1_ n2_ n3_ n4_ n5_ n6_ n7_ n8_ n9_ n10_; (try clear hb); (try clear hb2); (try clear hk); (try clear hi); (try clear ho0); (try clear ho1))))
   (try simp only [Act.put, List.setIfInBounds_toArray, List.set_cons_zero, List.set_cons_succ])
   go_cut [100] (fun v100 wc => ∃ (kq : Nat) (x100_13 : Bool), v100 = .bool x100_13 ∧ Aside0 (laws_FnTried.j0 kq t357 t358 t359 t364 t365 t366 x100_13 = some r) ∧ Aside0 (kq ≤ k) ∧ Aside0 (Kd.R (Kd.int .i64) 3 wc w.heap.size (fun k_ => some k_ ≠ (v369 : Value).ownBlock) (.slice Ao16 t358.length co16) t358) ∧ Aside0 (Kd.R k43 43 wc w.heap.size (fun _ => True) (.slice Ao17 t359.length co17) t359) ∧ Aside0 (Kd.R Kd.bool 4 wc w.heap.size (fun _ => True) v367 t364) ∧ Aside0 (Kd.R (Kd.int .i64) 3 wc w.heap.size (fun k_ => some k_ ≠ ((.slice Ao16 t358.length co16) : Value).ownBlock) v369 t365) ∧ Aside0 (Below w.heap.size w wc))
   case first =>
    have H := HC14.out
    clear HC14
    by_cases c27 : t386 = true
    ·subst c27
     have H1 : (if (t384.length : Int) = 3 then (if 0 < (t384.length : Int) then (if rdOf false t384 0 = true then (if 1 < (t384.length : Int) then (if rdOf false t384 1 = true then (laws_FnTried.j0 k t357 t358 t359 t364 t365 t366 true) else (if 2 < (t384.length : Int) then (if rdOf false t384 2 = true then ((laws_sameInts.f k t385 (([1, 1, 1] : List Int))).bind fun t397 => (if t397 = true then (if (t364.length : Int) > (t359.length : Int) then (laws_FnTried.j0 k t357 t358 t359 t364 t365 t366 true) else (laws_FnTried.j0 k t357 t358 t359 t364 t365 t366 ((t365.length : Int) != (t364.length : Int)))) else (laws_FnTried.j0 k t357 t358 t359 t364 t365 t366 true))) else (laws_FnTried.j0 k t357 t358 t359 t364 t365 t366 true)) else (none))) else (none)) else (laws_FnTried.j0 k t357 t358 t359 t364 t365 t366 true)) else (none)) else (laws_FnTried.j0 k t357 t358 t359 t364 t365 t366 true)) = some r := by rw [if_pos rfl] at H; exact H
     clear H
     have H := H1
     clear H1
     by_cases c28 : (t384.length : Int) = 3
     ·rw [if_pos c28] at H
      have c28b0 : ((t384.length : Int) == 3) = true := beq_iff_eq.mpr c28
      have c28b1 : ((t384.length : Int) != 3) = false := bne_eq_false_iff_eq.mpr c28
      clear c28
      (first | rw [c28b0] | (simp only [i64_w, i32_w]; rw [c28b0]) | skip)
      by_cases c29 : 0 < (t384.length : Int)
      ·rw [if_pos c29] at H
       have c29b0 : decide (0 < (t384.length : Int)) = true := decide_eq_true c29
       have c29b1 : decide (0 < t384.length) = true := decide_eq_true (by omega)
       clear c29
       obtain ⟨bq30, hbq30⟩ : ∃ b_ : Bool, b_ = (rdOf false t384 0) := ⟨_, rfl⟩
       replace H : (if bq30 = true then (if 1 < (t384.length : Int) then (if rdOf false t384 1 = true then (laws_FnTried.j0 k t357 t358 t359 t364 t365 t366 true) else (if 2 < (t384.length : Int) then (if rdOf false t384 2 = true then ((laws_sameInts.f k t385 (([1, 1, 1] : List Int))).bind fun t397 => (if t397 = true then (if (t364.length : Int) > (t359.length : Int) then (laws_FnTried.j0 k t357 t358 t359 t364 t365 t366 true) else (laws_FnTried.j0 k t357 t358 t359 t364 t365 t366 ((t365.length : Int) != (t364.length : Int)))) else (laws_FnTried.j0 k t357 t358 t359 t364 t365 t366 true))) else (laws_FnTried.j0 k t357 t358 t359 t364 t365 t366 true)) else (none))) else (none)) else (laws_FnTried.j0 k t357 t358 t359 t364 t365 t366 true)) = some r := by rw [← hbq30] at H; exact H
       have Nbq30 := Aside0.mk hbq30
       clear hbq30
       by_cases c31 : bq30 = true
       ·subst c31
        have H1 : (if 1 < (t384.length : Int) then (if rdOf false t384 1 = true then (laws_FnTried.j0 k t357 t358 t359 t364 t365 t366 true) else (if 2 < (t384.length : Int) then (if rdOf false t384 2 = true then ((laws_sameInts.f k t385 (([1, 1, 1] : List Int))).bind fun t397 => (if t397 = true then (if (t364.length : Int) > (t359.length : Int) then (laws_FnTried.j0 k t357 t358 t359 t364 t365 t366 true) else (laws_FnTried.j0 k t357 t358 t359 t364 t365 t366 ((t365.length : Int) != (t364.length : Int)))) else (laws_FnTried.j0 k t357 t358 t359 t364 t365 t366 true))) else (laws_FnTried.j0 k t357 t358 t359 t364 t365 t366 true)) else (none))) else (none)) = some r := by rw [if_pos rfl] at H; exact H
        clear H
        have H := H1
        clear H1
        by_cases c32 : 1 < (t384.length : Int)
        ·rw [if_pos c32] at H
         have c32b0 : decide (1 < (t384.length : Int)) = true := decide_eq_true c32
         have c32b1 : decide (1 < t384.length) = true := decide_eq_true (by omega)
         clear c32
         obtain ⟨bq33, hbq33⟩ : ∃ b_ : Bool, b_ = (rdOf false t384 1) := ⟨_, rfl⟩
         replace H : (if bq33 = true then (laws_FnTried.j0 k t357 t358 t359 t364 t365 t366 true) else (if 2 < (t384.length : Int) then (if rdOf false t384 2 = true then ((laws_sameInts.f k t385 (([1, 1, 1] : List Int))).bind fun t397 => (if t397 = true then (if (t364.length : Int) > (t359.length : Int) then (laws_FnTried.j0 k t357 t358 t359 t364 t365 t366 true) else (laws_FnTried.j0 k t357 t358 t359 t364 t365 t366 ((t365.length : Int) != (t364.length : Int)))) else (laws_FnTried.j0 k t357 t358 t359 t364 t365 t366 true))) else (laws_FnTried.j0 k t357 t358 t359 t364 t365 t366 true)) else (none))) = some r := by rw [← hbq33] at H; exact H
         have Nbq33 := Aside0.mk hbq33
         clear hbq33
         by_cases c34 : bq33 = true
         ·subst c34
          have H1 : (laws_FnTried.j0 k t357 t358 t359 t364 t365 t366 true) = some r := by rw [if_pos rfl] at H; exact H
          clear H
          have H := H1
          clear H1
          have H' := Aside0.mk H
          clear H
          obtain ⟨Ao35, co35, eo35⟩ := Kd.R_slice HO388.out
          subst eo35
          have p391 : 0 ≤ (0 : Int) := (by omega)
          have q391 : 0 < (t384.length : Int) := of_decide_eq_true (by first | (with_reducible assumption) | assumption)
          obtain ⟨ad391, e391, hx391_0⟩ := Kd.at_bool (Kd.R_reads' HO388.out).2.2 0 p391 q391
          (try rw [← Nbq30.out] at hx391_0)
          (try rw [← Nbq33.out] at hx391_0)
          cases e391
          have qi391 : (0 < t384.length) = True := eq_true (by omega)
          (try rw [show ((0 : Int)).toNat = 0 from rfl] at hx391_0)
          (try rw [Addr.add_zero'] at hx391_0)
          replace p391 := eq_true p391
          replace q391 := eq_true q391
          have p392 : 0 ≤ (1 : Int) := (by omega)
          have q392 : 1 < (t384.length : Int) := of_decide_eq_true (by first | (with_reducible assumption) | assumption)
          obtain ⟨ad392, e392, hx392_0⟩ := Kd.at_bool (Kd.R_reads' HO388.out).2.2 1 p392 q392
          (try rw [← Nbq30.out] at hx392_0)
          (try rw [← Nbq33.out] at hx392_0)
          obtain rfl : ad391 = ad392 := (by injection e392)
          (try simp only [show (1 : Int).toNat = 1 from rfl, Nat.reduceMul, Nat.reduceEqDiff, Go.Addr.add, ↓reduceIte] at hx392_0)
          have qi392 : (1 < t384.length) = True := eq_true (by omega)
          (try rw [show ((1 : Int)).toNat = 1 from rfl] at hx392_0)
          replace p392 := eq_true p392
          replace q392 := eq_true q392
          go_wp2
          repeat (go_quiet (fail); try go_wp2)
          go_meet
          case rel => exact ⟨_, (true), (by first | rfl | (simp; done) | (simp [*]; done)), H', ⟨by first | omega | exact Nat.le_refl _⟩, ⟨by (with_reducible repeat (first | apply Kd.R_alloc | apply Kd.R_drewN | apply Kd.R_drew)); exact Kd.R_mono HO361.out (fun _ hk => hk.1.1.1.2)⟩, ⟨by (with_reducible repeat (first | apply Kd.R_alloc | apply Kd.R_drewN | apply Kd.R_drew)); exact Kd.R_mono HO363.out (fun _ hk => trivial)⟩, ⟨by (with_reducible repeat (first | apply Kd.R_alloc | apply Kd.R_drewN | apply Kd.R_drew)); exact Kd.R_mono HO368.out (fun _ hk => trivial)⟩, ⟨by (with_reducible repeat (first | apply Kd.R_alloc | apply Kd.R_drewN | apply Kd.R_drew)); exact Kd.R_mono HO370.out (fun _ hk => hk.1.1.1.2)⟩, ⟨by repeat (first | (with_reducible first | exact HB.out | apply below_alloc | apply pw_below_drewN | apply below_drew1) | exact HB.out)⟩⟩
         ·replace c34 := Bool.eq_false_iff.mpr c34
          subst c34
          have H1 : (if 2 < (t384.length : Int) then (if rdOf false t384 2 = true then ((laws_sameInts.f k t385 (([1, 1, 1] : List Int))).bind fun t397 => (if t397 = true then (if (t364.length : Int) > (t359.length : Int) then (laws_FnTried.j0 k t357 t358 t359 t364 t365 t366 true) else (laws_FnTried.j0 k t357 t358 t359 t364 t365 t366 ((t365.length : Int) != (t364.length : Int)))) else (laws_FnTried.j0 k t357 t358 t359 t364 t365 t366 true))) else (laws_FnTried.j0 k t357 t358 t359 t364 t365 t366 true)) else (none)) = some r := by rw [if_neg (show ¬ (false = true) by decide)] at H; exact H
          clear H
          have H := H1
          clear H1
          by_cases c36 : 2 < (t384.length : Int)
          ·rw [if_pos c36] at H
           have c36b0 : decide (2 < (t384.length : Int)) = true := decide_eq_true c36
           have c36b1 : decide (2 < t384.length) = true := decide_eq_true (by omega)
           clear c36
           obtain ⟨bq37, hbq37⟩ : ∃ b_ : Bool, b_ = (rdOf false t384 2) := ⟨_, rfl⟩
           replace H : (if bq37 = true then ((laws_sameInts.f k t385 (([1, 1, 1] : List Int))).bind fun t397 => (if t397 = true then (if (t364.length : Int) > (t359.length : Int) then (laws_FnTried.j0 k t357 t358 t359 t364 t365 t366 true) else (laws_FnTried.j0 k t357 t358 t359 t364 t365 t366 ((t365.length : Int) != (t364.length : Int)))) else (laws_FnTried.j0 k t357 t358 t359 t364 t365 t366 true))) else (laws_FnTried.j0 k t357 t358 t359 t364 t365 t366 true)) = some r := by rw [← hbq37] at H; exact H
           have Nbq37 := Aside0.mk hbq37
           clear hbq37
           by_cases c38 : bq37 = true
           ·subst c38
            have H1 : ((laws_sameInts.f k t385 (([1, 1, 1] : List Int))).bind fun t397 => (if t397 = true then (if (t364.length : Int) > (t359.length : Int) then (laws_FnTried.j0 k t357 t358 t359 t364 t365 t366 true) else (laws_FnTried.j0 k t357 t358 t359 t364 t365 t366 ((t365.length : Int) != (t364.length : Int)))) else (laws_FnTried.j0 k t357 t358 t359 t364 t365 t366 true))) = some r := by rw [if_pos rfl] at H; exact H
            clear H
            have H := H1
            clear H1
            obtain ⟨y394, hy394⟩ : ∃ y_ : List Int, y_ = (([1, 1, 1] : List Int)) := ⟨_, rfl⟩
            replace H : ((laws_sameInts.f k t385 y394).bind fun t397 => (if t397 = true then (if (t364.length : Int) > (t359.length : Int) then (laws_FnTried.j0 k t357 t358 t359 t364 t365 t366 true) else (laws_FnTried.j0 k t357 t358 t359 t364 t365 t366 ((t365.length : Int) != (t364.length : Int)))) else (laws_FnTried.j0 k t357 t358 t359 t364 t365 t366 true))) = some r := by first | (rw [hy394]; with_reducible exact H) | (have H2_ := (Option.bind_some _ _).symm.trans H; rw [hy394]; with_reducible exact H2_) | (have H2_ := (Option.bind_some _ _).symm.trans H; with_reducible exact H2_) | with_reducible exact H | (rw [hy394]; exact H) | exact H
            have Ny394 := Aside0.mk hy394
            clear hy394
            replace H := Option.bind_eq_some_iff.mp H
            obtain ⟨t397, A390, H⟩ := H
            replace H : (if t397 = true then (if (t364.length : Int) > (t359.length : Int) then (laws_FnTried.j0 k t357 t358 t359 t364 t365 t366 true) else (laws_FnTried.j0 k t357 t358 t359 t364 t365 t366 ((t365.length : Int) != (t364.length : Int)))) else (laws_FnTried.j0 k t357 t358 t359 t364 t365 t366 true)) = some r := H
            have A39 := Aside0.mk A390
            clear A390
            by_cases c40 : t397 = true
            ·subst c40
             have H1 : (if (t364.length : Int) > (t359.length : Int) then (laws_FnTried.j0 k t357 t358 t359 t364 t365 t366 true) else (laws_FnTried.j0 k t357 t358 t359 t364 t365 t366 ((t365.length : Int) != (t364.length : Int)))) = some r := by rw [if_pos rfl] at H; exact H
             clear H
             have H := H1
             clear H1
             by_cases c41 : (t364.length : Int) > (t359.length : Int)
             ·rw [if_pos c41] at H
              have c41b0 : decide ((t359.length : Int) < (t364.length : Int)) = true := decide_eq_true c41
              have c41b1 : decide (t359.length < t364.length) = true := decide_eq_true (Int.ofNat_lt.mp c41)
              clear c41
              have H' := Aside0.mk H
              clear H
              obtain ⟨Ao42, co42, eo42⟩ := Kd.R_slice HO388.out
              subst eo42
              have p391 : 0 ≤ (0 : Int) := (by omega)
              have q391 : 0 < (t384.length : Int) := of_decide_eq_true (by first | (with_reducible assumption) | assumption)
              obtain ⟨ad391, e391, hx391_0⟩ := Kd.at_bool (Kd.R_reads' HO388.out).2.2 0 p391 q391
              (try rw [← Nbq30.out] at hx391_0)
              (try rw [← Nbq33.out] at hx391_0)
              (try rw [← Nbq37.out] at hx391_0)
              cases e391
              have qi391 : (0 < t384.length) = True := eq_true (by omega)
              (try rw [show ((0 : Int)).toNat = 0 from rfl] at hx391_0)
              (try rw [Addr.add_zero'] at hx391_0)
              replace p391 := eq_true p391
              replace q391 := eq_true q391
              have p392 : 0 ≤ (1 : Int) := (by omega)
              have q392 : 1 < (t384.length : Int) := of_decide_eq_true (by first | (with_reducible assumption) | assumption)
              obtain ⟨ad392, e392, hx392_0⟩ := Kd.at_bool (Kd.R_reads' HO388.out).2.2 1 p392 q392
              (try rw [← Nbq30.out] at hx392_0)
              (try rw [← Nbq33.out] at hx392_0)
              (try rw [← Nbq37.out] at hx392_0)
              obtain rfl : ad391 = ad392 := (by injection e392)
              (try simp only [show (1 : Int).toNat = 1 from rfl, Nat.reduceMul, Nat.reduceEqDiff, Go.Addr.add, ↓reduceIte] at hx392_0)
              have qi392 : (1 < t384.length) = True := eq_true (by omega)
              (try rw [show ((1 : Int)).toNat = 1 from rfl] at hx392_0)
              replace p392 := eq_true p392
              replace q392 := eq_true q392
              have p393 : 0 ≤ (2 : Int) := (by omega)
              have q393 : 2 < (t384.length : Int) := of_decide_eq_true (by first | (with_reducible assumption) | assumption)
              obtain ⟨ad393, e393, hx393_0⟩ := Kd.at_bool (Kd.R_reads' HO388.out).2.2 2 p393 q393
              (try rw [← Nbq30.out] at hx393_0)
              (try rw [← Nbq33.out] at hx393_0)
              (try rw [← Nbq37.out] at hx393_0)
              obtain rfl : ad391 = ad393 := (by injection e393)
              (try simp only [show (2 : Int).toNat = 2 from rfl, Nat.reduceMul, Nat.reduceEqDiff, Go.Addr.add, ↓reduceIte] at hx393_0)
              have qi393 : (2 < t384.length) = True := eq_true (by omega)
              (try rw [show ((2 : Int)).toNat = 2 from rfl] at hx393_0)
              replace p393 := eq_true p393
              replace q393 := eq_true q393
              go_wp2_with (first | ((with_reducible refine gate_dst (N := 83) rfl ?_); (try (refine gate_guard (by rfl) ?_; dsimp only)); refine Kd.R_lit (Kd.int .i64) _ 3 ?hg (N := 83) ?hd (xs := ([1, 1, 1] : List Int)) (inner := [.int .i64 1, .int .i64 1, .int .i64 1]) (ok := fun _ => True) (okp := fun _ => True) ?hr ?hp (fun _ hk => hk) trivial (Below.refl _ _) (Nat.le_refl _) (by simp) ?_; (case hd => rfl); (case hg => rfl); (case hr => first | (go_simp; done) | (go_simp; rfl)); (case hp => exact (Reps.one (show Kd.M (Kd.int .i64) _ _ _ 1 [.int .i64 1] from rfl) (Reps.one (show Kd.M (Kd.int .i64) _ _ _ 1 [.int .i64 1] from rfl) (Reps.one (show Kd.M (Kd.int .i64) _ _ _ 1 [.int .i64 1] from rfl) (Reps.none _ _))))); intro v395 w43 ho44 hb hg_ hnew_; clear hg_ hnew_; (first | rw [← Ny394.out] at ho44 | (simp only [Int.reduceToNat] at ho44; rw [← Ny394.out] at ho44)); have n0_ := Aside0.mk (Kd.R_elder' (by (with_reducible repeat (first | apply Kd.R_alloc | apply Kd.R_drewN | apply Kd.R_drew)); exact HO361.out) (Kd.R_base ho44) hb); have n1_ := Aside0.mk (Kd.R_below (by (with_reducible repeat (first | apply Kd.R_alloc | apply Kd.R_drewN | apply Kd.R_drew)); exact HO363.out) hb); have n2_ := Aside0.mk (Kd.R_below (by (with_reducible repeat (first | apply Kd.R_alloc | apply Kd.R_drewN | apply Kd.R_drew)); exact HO368.out) hb); have n3_ := Aside0.mk (Kd.R_elder' (by (with_reducible repeat (first | apply Kd.R_alloc | apply Kd.R_drewN | apply Kd.R_drew)); exact HO370.out) (Kd.R_base ho44) hb); have n4_ := Aside0.mk (Kd.R_below (by (with_reducible repeat (first | apply Kd.R_alloc | apply Kd.R_drewN | apply Kd.R_drew)); exact HO375.out) hb); have n5_ := Aside0.mk (Kd.R_elder' (by (with_reducible repeat (first | apply Kd.R_alloc | apply Kd.R_drewN | apply Kd.R_drew)); exact HO377.out) (Kd.R_base ho44) hb); have n6_ := Aside0.mk (Kd.R_elder' (by (with_reducible repeat (first | apply Kd.R_alloc | apply Kd.R_drewN | apply Kd.R_drew)); exact HO380.out) (Kd.R_base ho44) hb); have n7_ := Aside0.mk (Kd.R_below (by (with_reducible repeat (first | apply Kd.R_alloc | apply Kd.R_drewN | apply Kd.R_drew)); exact HO383.out) hb); have n8_ := Aside0.mk (Kd.R_below (by (with_reducible repeat (first | apply Kd.R_alloc | apply Kd.R_drewN | apply Kd.R_drew)); exact HO388.out) hb); have n9_ := Aside0.mk (Kd.R_elder' (by (with_reducible repeat (first | apply Kd.R_alloc | apply Kd.R_drewN | apply Kd.R_drew)); exact HO390.out) (Kd.R_base ho44) hb); have n10_ := Aside0.mk (Kd.R_lower (Kd.R_new' (Kd.R_new' (Kd.R_new' (Kd.R_new' (Kd.R_new' ho44 (Kd.R_lt (by (with_reducible repeat (first | apply Kd.R_alloc | apply Kd.R_drewN | apply Kd.R_drew)); exact HO361.out))) (Kd.R_lt (by (with_reducible repeat (first | apply Kd.R_alloc | apply Kd.R_drewN | apply Kd.R_drew)); exact HO370.out))) (Kd.R_lt (by (with_reducible repeat (first | apply Kd.R_alloc | apply Kd.R_drewN | apply Kd.R_drew)); exact HO377.out))) (Kd.R_lt (by (with_reducible repeat (first | apply Kd.R_alloc | apply Kd.R_drewN | apply Kd.R_drew)); exact HO380.out))) (Kd.R_lt (by (with_reducible repeat (first | apply Kd.R_alloc | apply Kd.R_drewN | apply Kd.R_drew)); exact HO390.out))) (below_size (by repeat (first | (with_reducible first | exact HB.out | apply below_alloc | apply pw_below_drewN | apply below_drew1) | exact HB.out)))); have n11_ := Aside0.mk (below_step (by repeat (first | (with_reducible first | exact HB.out | apply below_alloc | apply pw_below_drewN | apply below_drew1) | exact HB.out)) hb); clear HO361; clear HO363; clear HO368; clear HO370; clear HO375; clear HO377; clear HO380; clear HO383; clear HO388; clear HO390; clear HB; have HO361 := n0_; have HO363 := n1_; have HO368 := n2_; have HO370 := n3_; have HO375 := n4_; have HO377 := n5_; have HO380 := n6_; have HO383 := n7_; have HO388 := n8_; have HO390 := n9_; have HO396 := n10_; have HB := n11_; clear n0_ n1_ n2_ n3_ n4_ n5_ n6_ n7_ n8_ n9_ n10_ n11_; clear hb ho44; obtain ⟨Ao45, co45, eo45⟩ := Kd.R_slice HO390.out; subst eo45; obtain ⟨Ao46, co46, eo46⟩ := Kd.R_slice HO396.out; subst eo46) | (go_at_call 22; (with_reducible refine (laws_sameInts.calls k _ _ t385 _ _ y394 true _ ?side1 ?side2 ?side3 ?side4 A39.out).mono ?_); (case side1 => repeat (first | exact (Kd.R_reads' HO390.out).2.2 | (with_reducible refine Kd.C_alloc ?_ _) | (with_reducible refine Kd.C_drewN ?_ _) | (with_reducible refine Kd.C_drew ?_))); (case side2 => exact (Kd.R_reads' HO390.out).2.1); (case side3 => repeat (first | exact (Kd.R_reads' HO396.out).2.2 | (with_reducible refine Kd.C_alloc ?_ _) | (with_reducible refine Kd.C_drewN ?_ _) | (with_reducible refine Kd.C_drew ?_))); (case side4 => exact (Kd.R_reads' HO396.out).2.1); rintro e w' ⟨rfl, ⟨nd, rfl⟩⟩; (try first | exact ⟨rfl, _, World.drewN_drewN _ _ _⟩ | exact ⟨rfl, _, Eq.trans (World.drewN_drewN _ _ _) (congrArg (World.drewN _) (Nat.add_assoc _ _ _))⟩); obtain ⟨Ao47, co47, eo47⟩ := Kd.R_slice HO368.out; subst eo47))
              repeat (go_quiet (first | ((with_reducible refine gate_dst (N := 83) rfl ?_); (try (refine gate_guard (by rfl) ?_; dsimp only)); refine Kd.R_lit (Kd.int .i64) _ 3 ?hg (N := 83) ?hd (xs := ([1, 1, 1] : List Int)) (inner := [.int .i64 1, .int .i64 1, .int .i64 1]) (ok := fun _ => True) (okp := fun _ => True) ?hr ?hp (fun _ hk => hk) trivial (Below.refl _ _) (Nat.le_refl _) (by simp) ?_; (case hd => rfl); (case hg => rfl); (case hr => first | (go_simp; done) | (go_simp; rfl)); (case hp => exact (Reps.one (show Kd.M (Kd.int .i64) _ _ _ 1 [.int .i64 1] from rfl) (Reps.one (show Kd.M (Kd.int .i64) _ _ _ 1 [.int .i64 1] from rfl) (Reps.one (show Kd.M (Kd.int .i64) _ _ _ 1 [.int .i64 1] from rfl) (Reps.none _ _))))); intro v395 w43 ho44 hb hg_ hnew_; clear hg_ hnew_; (first | rw [← Ny394.out] at ho44 | (simp only [Int.reduceToNat] at ho44; rw [← Ny394.out] at ho44)); have n0_ := Aside0.mk (Kd.R_elder' (by (with_reducible repeat (first | apply Kd.R_alloc | apply Kd.R_drewN | apply Kd.R_drew)); exact HO361.out) (Kd.R_base ho44) hb); have n1_ := Aside0.mk (Kd.R_below (by (with_reducible repeat (first | apply Kd.R_alloc | apply Kd.R_drewN | apply Kd.R_drew)); exact HO363.out) hb); have n2_ := Aside0.mk (Kd.R_below (by (with_reducible repeat (first | apply Kd.R_alloc | apply Kd.R_drewN | apply Kd.R_drew)); exact HO368.out) hb); have n3_ := Aside0.mk (Kd.R_elder' (by (with_reducible repeat (first | apply Kd.R_alloc | apply Kd.R_drewN | apply Kd.R_drew)); exact HO370.out) (Kd.R_base ho44) hb); have n4_ := Aside0.mk (Kd.R_below (by (with_reducible repeat (first | apply Kd.R_alloc | apply Kd.R_drewN | apply Kd.R_drew)); exact HO375.out) hb); have n5_ := Aside0.mk (Kd.R_elder' (by (with_reducible repeat (first | apply Kd.R_alloc | apply Kd.R_drewN | apply Kd.R_drew)); exact HO377.out) (Kd.R_base ho44) hb); have n6_ := Aside0.mk (Kd.R_elder' (by (with_reducible repeat (first | apply Kd.R_alloc | apply Kd.R_drewN | apply Kd.R_drew)); exact HO380.out) (Kd.R_base ho44) hb); have n7_ := Aside0.mk (Kd.R_below (by (with_reducible repeat (first | apply Kd.R_alloc | apply Kd.R_drewN | apply Kd.R_drew)); exact HO383.out) hb); have n8_ := Aside0.mk (Kd.R_below (by (with_reducible repeat (first | apply Kd.R_alloc | apply Kd.R_drewN | apply Kd.R_drew)); exact HO388.out) hb); have n9_ := Aside0.mk (Kd.R_elder' (by (with_reducible repeat (first | apply Kd.R_alloc | apply Kd.R_drewN | apply Kd.R_drew)); exact HO390.out) (Kd.R_base ho44) hb); have n10_ := Aside0.mk (Kd.R_lower (Kd.R_new' (Kd.R_new' (Kd.R_new' (Kd.R_new' (Kd.R_new' ho44 (Kd.R_lt (by (with_reducible repeat (first | apply Kd.R_alloc | apply Kd.R_drewN | apply Kd.R_drew)); exact HO361.out))) (Kd.R_lt (by (with_reducible repeat (first | apply Kd.R_alloc | apply Kd.R_drewN | apply Kd.R_drew)); exact HO370.out))) (Kd.R_lt (by (with_reducible repeat (first | apply Kd.R_alloc | apply Kd.R_drewN | apply Kd.R_drew)); exact HO377.out))) (Kd.R_lt (by (with_reducible repeat (first | apply Kd.R_alloc | apply Kd.R_drewN | apply Kd.R_drew)); exact HO380.out))) (Kd.R_lt (by (with_reducible repeat (first | apply Kd.R_alloc | apply Kd.R_drewN | apply Kd.R_drew)); exact HO390.out))) (below_size (by repeat (first | (with_reducible first | exact HB.out | apply below_alloc | apply pw_below_drewN | apply below_drew1) | exact HB.out)))); have n11_ := Aside0.mk (below_step (by repeat (first | (with_reducible first | exact HB.out | apply below_alloc | apply pw_below_drewN | apply below_drew1) | exact HB.out)) hb); clear HO361; clear HO363; clear HO368; clear HO370; clear HO375; clear HO377; clear HO380; clear HO383; clear HO388; clear HO390; clear HB; have HO361 := n0_; have HO363 := n1_; have HO368 := n2_; have HO370 := n3_; have HO375 := n4_; have HO377 := n5_; have HO380 := n6_; have HO383 := n7_; have HO388 := n8_; have HO390 := n9_; have HO396 := n10_; have HB := n11_; clear n0_ n1_ n2_ n3_ n4_ n5_ n6_ n7_ n8_ n9_ n10_ n11_; clear hb ho44; obtain ⟨Ao45, co45, eo45⟩ := Kd.R_slice HO390.out; subst eo45; obtain ⟨Ao46, co46, eo46⟩ := Kd.R_slice HO396.out; subst eo46) | (go_at_call 22; (with_reducible refine (laws_sameInts.calls k _ _ t385 _ _ y394 true _ ?side1 ?side2 ?side3 ?side4 A39.out).mono ?_); (case side1 => repeat (first | exact (Kd.R_reads' HO390.out).2.2 | (with_reducible refine Kd.C_alloc ?_ _) | (with_reducible refine Kd.C_drewN ?_ _) | (with_reducible refine Kd.C_drew ?_))); (case side2 => exact (Kd.R_reads' HO390.out).2.1); (case side3 => repeat (first | exact (Kd.R_reads' HO396.out).2.2 | (with_reducible refine Kd.C_alloc ?_ _) | (with_reducible refine Kd.C_drewN ?_ _) | (with_reducible refine Kd.C_drew ?_))); (case side4 => exact (Kd.R_reads' HO396.out).2.1); rintro e w' ⟨rfl, ⟨nd, rfl⟩⟩; (try first | exact ⟨rfl, _, World.drewN_drewN _ _ _⟩ | exact ⟨rfl, _, Eq.trans (World.drewN_drewN _ _ _) (congrArg (World.drewN _) (Nat.add_assoc _ _ _))⟩); obtain ⟨Ao47, co47, eo47⟩ := Kd.R_slice HO368.out; subst eo47)); try go_wp2_with (first | ((with_reducible refine gate_dst (N := 83) rfl ?_); (try (refine gate_guard (by rfl) ?_; dsimp only)); refine Kd.R_lit (Kd.int .i64) _ 3 ?hg (N := 83) ?hd (xs := ([1, 1, 1] : List Int)) (inner := [.int .i64 1, .int .i64 1, .int .i64 1]) (ok := fun _ => True) (okp := fun _ => True) ?hr ?hp (fun _ hk => hk) trivial (Below.refl _ _) (Nat.le_refl _) (by simp) ?_; (case hd => rfl); (case hg => rfl); (case hr => first | (go_simp; done) | (go_simp; rfl)); (case hp => exact (Reps.one (show Kd.M (Kd.int .i64) _ _ _ 1 [.int .i64 1] from rfl) (Reps.one (show Kd.M (Kd.int .i64) _ _ _ 1 [.int .i64 1] from rfl) (Reps.one (show Kd.M (Kd.int .i64) _ _ _ 1 [.int .i64 1] from rfl) (Reps.none _ _))))); intro v395 w43 ho44 hb hg_ hnew_; clear hg_ hnew_; (first | rw [← Ny394.out] at ho44 | (simp only [Int.reduceToNat] at ho44; rw [← Ny394.out] at ho44)); have n0_ := Aside0.mk (Kd.R_elder' (by (with_reducible repeat (first | apply Kd.R_alloc | apply Kd.R_drewN | apply Kd.R_drew)); exact HO361.out) (Kd.R_base ho44) hb); have n1_ := Aside0.mk (Kd.R_below (by (with_reducible repeat (first | apply Kd.R_alloc | apply Kd.R_drewN | apply Kd.R_drew)); exact HO363.out) hb); have n2_ := Aside0.mk (Kd.R_below (by (with_reducible repeat (first | apply Kd.R_alloc | apply Kd.R_drewN | apply Kd.R_drew)); exact HO368.out) hb); have n3_ := Aside0.mk (Kd.R_elder' (by (with_reducible repeat (first | apply Kd.R_alloc | apply Kd.R_drewN | apply Kd.R_drew)); exact HO370.out) (Kd.R_base ho44) hb); have n4_ := Aside0.mk (Kd.R_below (by (with_reducible repeat (first | apply Kd.R_alloc | apply Kd.R_drewN | apply Kd.R_drew)); exact HO375.out) hb); have n5_ := Aside0.mk (Kd.R_elder' (by (with_reducible repeat (first | apply Kd.R_alloc | apply Kd.R_drewN | apply Kd.R_drew)); exact HO377.out) (Kd.R_base ho44) hb); have n6_ := Aside0.mk (Kd.R_elder' (by (with_reducible repeat (first | apply Kd.R_alloc | apply Kd.R_drewN | apply Kd.R_drew)); exact HO380.out) (Kd.R_base ho44) hb); have n7_ := Aside0.mk (Kd.R_below (by (with_reducible repeat (first | apply Kd.R_alloc | apply Kd.R_drewN | apply Kd.R_drew)); exact HO383.out) hb); have n8_ := Aside0.mk (Kd.R_below (by (with_reducible repeat (first | apply Kd.R_alloc | apply Kd.R_drewN | apply Kd.R_drew)); exact HO388.out) hb); have n9_ := Aside0.mk (Kd.R_elder' (by (with_reducible repeat (first | apply Kd.R_alloc | apply Kd.R_drewN | apply Kd.R_drew)); exact HO390.out) (Kd.R_base ho44) hb); have n10_ := Aside0.mk (Kd.R_lower (Kd.R_new' (Kd.R_new' (Kd.R_new' (Kd.R_new' (Kd.R_new' ho44 (Kd.R_lt (by (with_reducible repeat (first | apply Kd.R_alloc | apply Kd.R_drewN | apply Kd.R_drew)); exact HO361.out))) (Kd.R_lt (by (with_reducible repeat (first | apply Kd.R_alloc | apply Kd.R_drewN | apply Kd.R_drew)); exact HO370.out))) (Kd.R_lt (by (with_reducible repeat (first | apply Kd.R_alloc | apply Kd.R_drewN | apply Kd.R_drew)); exact HO377.out))) (Kd.R_lt (by (with_reducible repeat (first | apply Kd.R_alloc | apply Kd.R_drewN | apply Kd.R_drew)); exact HO380.out))) (Kd.R_lt (by (with_reducible repeat (first | apply Kd.R_alloc | apply Kd.R_drewN | apply Kd.R_drew)); exact HO390.out))) (below_size (by repeat (first | (with_reducible first | exact HB.out | apply below_alloc | apply pw_below_drewN | apply below_drew1) | exact HB.out)))); have n11_ := Aside0.mk (below_step (by repeat (first | (with_reducible first | exact HB.out | apply below_alloc | apply pw_below_drewN | apply below_drew1) | exact HB.out)) hb); clear HO361; clear HO363; clear HO368; clear HO370; clear HO375; clear HO377; clear HO380; clear HO383; clear HO388; clear HO390; clear HB; have HO361 := n0_; have HO363 := n1_; have HO368 := n2_; have HO370 := n3_; have HO375 := n4_; have HO377 := n5_; have HO380 := n6_; have HO383 := n7_; have HO388 := n8_; have HO390 := n9_; have HO396 := n10_; have HB := n11_; clear n0_ n1_ n2_ n3_ n4_ n5_ n6_ n7_ n8_ n9_ n10_ n11_; clear hb ho44; obtain ⟨Ao45, co45, eo45⟩ := Kd.R_slice HO390.out; subst eo45; obtain ⟨Ao46, co46, eo46⟩ := Kd.R_slice HO396.out; subst eo46) | (go_at_call 22; (with_reducible refine (laws_sameInts.calls k _ _ t385 _ _ y394 true _ ?side1 ?side2 ?side3 ?side4 A39.out).mono ?_); (case side1 => repeat (first | exact (Kd.R_reads' HO390.out).2.2 | (with_reducible refine Kd.C_alloc ?_ _) | (with_reducible refine Kd.C_drewN ?_ _) | (with_reducible refine Kd.C_drew ?_))); (case side2 => exact (Kd.R_reads' HO390.out).2.1); (case side3 => repeat (first | exact (Kd.R_reads' HO396.out).2.2 | (with_reducible refine Kd.C_alloc ?_ _) | (with_reducible refine Kd.C_drewN ?_ _) | (with_reducible refine Kd.C_drew ?_))); (case side4 => exact (Kd.R_reads' HO396.out).2.1); rintro e w' ⟨rfl, ⟨nd, rfl⟩⟩; (try first | exact ⟨rfl, _, World.drewN_drewN _ _ _⟩ | exact ⟨rfl, _, Eq.trans (World.drewN_drewN _ _ _) (congrArg (World.drewN _) (Nat.add_assoc _ _ _))⟩); obtain ⟨Ao47, co47, eo47⟩ := Kd.R_slice HO368.out; subst eo47)))
              go_meet
              case rel => exact ⟨_, (true), (by first | rfl | (simp; done) | (simp [*]; done)), H', ⟨by first | omega | exact Nat.le_refl _⟩, ⟨by (with_reducible repeat (first | apply Kd.R_alloc | apply Kd.R_drewN | apply Kd.R_drew)); exact Kd.R_mono HO361.out (fun _ hk => hk.1.1.1.1.2)⟩, ⟨by (with_reducible repeat (first | apply Kd.R_alloc | apply Kd.R_drewN | apply Kd.R_drew)); exact Kd.R_mono HO363.out (fun _ hk => trivial)⟩, ⟨by (with_reducible repeat (first | apply Kd.R_alloc | apply Kd.R_drewN | apply Kd.R_drew)); exact Kd.R_mono HO368.out (fun _ hk => trivial)⟩, ⟨by (with_reducible repeat (first | apply Kd.R_alloc | apply Kd.R_drewN | apply Kd.R_drew)); exact Kd.R_mono HO370.out (fun _ hk => hk.1.1.1.1.2)⟩, ⟨by repeat (first | (with_reducible first | exact HB.out | apply below_alloc | apply pw_below_drewN | apply below_drew1) | exact HB.out)⟩⟩
             ·rw [if_neg c41] at H
              have c41b0 : decide ((t359.length : Int) < (t364.length : Int)) = false := decide_eq_false c41
              have c41b1 : decide (t359.length < t364.length) = false := decide_eq_false (fun h => c41 (Int.ofNat_lt.mpr h))
              clear c41
              have H' := Aside0.mk H
              clear H
              obtain ⟨Ao48, co48, eo48⟩ := Kd.R_slice HO388.out
              subst eo48
              have p391 : 0 ≤ (0 : Int) := (by omega)
              have q391 : 0 < (t384.length : Int) := of_decide_eq_true (by first | (with_reducible assumption) | assumption)
              obtain ⟨ad391, e391, hx391_0⟩ := Kd.at_bool (Kd.R_reads' HO388.out).2.2 0 p391 q391
              (try rw [← Nbq30.out] at hx391_0)
              (try rw [← Nbq33.out] at hx391_0)
              (try rw [← Nbq37.out] at hx391_0)
              cases e391
              have qi391 : (0 < t384.length) = True := eq_true (by omega)
              (try rw [show ((0 : Int)).toNat = 0 from rfl] at hx391_0)
              (try rw [Addr.add_zero'] at hx391_0)
              replace p391 := eq_true p391
              replace q391 := eq_true q391
              have p392 : 0 ≤ (1 : Int) := (by omega)
              have q392 : 1 < (t384.length : Int) := of_decide_eq_true (by first | (with_reducible assumption) | assumption)
              obtain ⟨ad392, e392, hx392_0⟩ := Kd.at_bool (Kd.R_reads' HO388.out).2.2 1 p392 q392
              (try rw [← Nbq30.out] at hx392_0)
              (try rw [← Nbq33.out] at hx392_0)
              (try rw [← Nbq37.out] at hx392_0)
              obtain rfl : ad391 = ad392 := (by injection e392)
              (try simp only [show (1 : Int).toNat = 1 from rfl, Nat.reduceMul, Nat.reduceEqDiff, Go.Addr.add, ↓reduceIte] at hx392_0)
              have qi392 : (1 < t384.length) = True := eq_true (by omega)
              (try rw [show ((1 : Int)).toNat = 1 from rfl] at hx392_0)
              replace p392 := eq_true p392
              replace q392 := eq_true q392
              have p393 : 0 ≤ (2 : Int) := (by omega)
              have q393 : 2 < (t384.length : Int) := of_decide_eq_true (by first | (with_reducible assumption) | assumption)
              obtain ⟨ad393, e393, hx393_0⟩ := Kd.at_bool (Kd.R_reads' HO388.out).2.2 2 p393 q393
              (try rw [← Nbq30.out] at hx393_0)
              (try rw [← Nbq33.out] at hx393_0)
              (try rw [← Nbq37.out] at hx393_0)
              obtain rfl : ad391 = ad393 := (by injection e393)
              (try simp only [show (2 : Int).toNat = 2 from rfl, Nat.reduceMul, Nat.reduceEqDiff, Go.Addr.add, ↓reduceIte] at hx393_0)
              have qi393 : (2 < t384.length) = True := eq_true (by omega)
              (try rw [show ((2 : Int)).toNat = 2 from rfl] at hx393_0)
              replace p393 := eq_true p393
              replace q393 := eq_true q393
              go_wp2_with (first | ((with_reducible refine gate_dst (N := 83) rfl ?_); (try (refine gate_guard (by rfl) ?_; dsimp only)); refine Kd.R_lit (Kd.int .i64) _ 3 ?hg (N := 83) ?hd (xs := ([1, 1, 1] : List Int)) (inner := [.int .i64 1, .int .i64 1, .int .i64 1]) (ok := fun _ => True) (okp := fun _ => True) ?hr ?hp (fun _ hk => hk) trivial (Below.refl _ _) (Nat.le_refl _) (by simp) ?_; (case hd => rfl); (case hg => rfl); (case hr => first | (go_simp; done) | (go_simp; rfl)); (case hp => exact (Reps.one (show Kd.M (Kd.int .i64) _ _ _ 1 [.int .i64 1] from rfl) (Reps.one (show Kd.M (Kd.int .i64) _ _ _ 1 [.int .i64 1] from rfl) (Reps.one (show Kd.M (Kd.int .i64) _ _ _ 1 [.int .i64 1] from rfl) (Reps.none _ _))))); intro v395 w49 ho50 hb hg_ hnew_; clear hg_ hnew_; (first | rw [← Ny394.out] at ho50 | (simp only [Int.reduceToNat] at ho50; rw [← Ny394.out] at ho50)); have n0_ := Aside0.mk (Kd.R_elder' (by (with_reducible repeat (first | apply Kd.R_alloc | apply Kd.R_drewN | apply Kd.R_drew)); exact HO361.out) (Kd.R_base ho50) hb); have n1_ := Aside0.mk (Kd.R_below (by (with_reducible repeat (first | apply Kd.R_alloc | apply Kd.R_drewN | apply Kd.R_drew)); exact HO363.out) hb); have n2_ := Aside0.mk (Kd.R_below (by (with_reducible repeat (first | apply Kd.R_alloc | apply Kd.R_drewN | apply Kd.R_drew)); exact HO368.out) hb); have n3_ := Aside0.mk (Kd.R_elder' (by (with_reducible repeat (first | apply Kd.R_alloc | apply Kd.R_drewN | apply Kd.R_drew)); exact HO370.out) (Kd.R_base ho50) hb); have n4_ := Aside0.mk (Kd.R_below (by (with_reducible repeat (first | apply Kd.R_alloc | apply Kd.R_drewN | apply Kd.R_drew)); exact HO375.out) hb); have n5_ := Aside0.mk (Kd.R_elder' (by (with_reducible repeat (first | apply Kd.R_alloc | apply Kd.R_drewN | apply Kd.R_drew)); exact HO377.out) (Kd.R_base ho50) hb); have n6_ := Aside0.mk (Kd.R_elder' (by (with_reducible repeat (first | apply Kd.R_alloc | apply Kd.R_drewN | apply Kd.R_drew)); exact HO380.out) (Kd.R_base ho50) hb); have n7_ := Aside0.mk (Kd.R_below (by (with_reducible repeat (first | apply Kd.R_alloc | apply Kd.R_drewN | apply Kd.R_drew)); exact HO383.out) hb); have n8_ := Aside0.mk (Kd.R_below (by (with_reducible repeat (first | apply Kd.R_alloc | apply Kd.R_drewN | apply Kd.R_drew)); exact HO388.out) hb); have n9_ := Aside0.mk (Kd.R_elder' (by (with_reducible repeat (first | apply Kd.R_alloc | apply Kd.R_drewN | apply Kd.R_drew)); exact HO390.out) (Kd.R_base ho50) hb); have n10_ := Aside0.mk (Kd.R_lower (Kd.R_new' (Kd.R_new' (Kd.R_new' (Kd.R_new' (Kd.R_new' ho50 (Kd.R_lt (by (with_reducible repeat (first | apply Kd.R_alloc | apply Kd.R_drewN | apply Kd.R_drew)); exact HO361.out))) (Kd.R_lt (by (with_reducible repeat (first | apply Kd.R_alloc | apply Kd.R_drewN | apply Kd.R_drew)); exact HO370.out))) (Kd.R_lt (by (with_reducible repeat (first | apply Kd.R_alloc | apply Kd.R_drewN | apply Kd.R_drew)); exact HO377.out))) (Kd.R_lt (by (with_reducible repeat (first | apply Kd.R_alloc | apply Kd.R_drewN | apply Kd.R_drew)); exact HO380.out))) (Kd.R_lt (by (with_reducible repeat (first | apply Kd.R_alloc | apply Kd.R_drewN | apply Kd.R_drew)); exact HO390.out))) (below_size (by repeat (first | (with_reducible first | exact HB.out | apply below_alloc | apply pw_below_drewN | apply below_drew1) | exact HB.out)))); have n11_ := Aside0.mk (below_step (by repeat (first | (with_reducible first | exact HB.out | apply below_alloc | apply pw_below_drewN | apply below_drew1) | exact HB.out)) hb); clear HO361; clear HO363; clear HO368; clear HO370; clear HO375; clear HO377; clear HO380; clear HO383; clear HO388; clear HO390; clear HB; have HO361 := n0_; have HO363 := n1_; have HO368 := n2_; have HO370 := n3_; have HO375 := n4_; have HO377 := n5_; have HO380 := n6_; have HO383 := n7_; have HO388 := n8_; have HO390 := n9_; have HO396 := n10_; have HB := n11_; clear n0_ n1_ n2_ n3_ n4_ n5_ n6_ n7_ n8_ n9_ n10_ n11_; clear hb ho50; obtain ⟨Ao51, co51, eo51⟩ := Kd.R_slice HO390.out; subst eo51; obtain ⟨Ao52, co52, eo52⟩ := Kd.R_slice HO396.out; subst eo52) | (go_at_call 22; (with_reducible refine (laws_sameInts.calls k _ _ t385 _ _ y394 true _ ?side1 ?side2 ?side3 ?side4 A39.out).mono ?_); (case side1 => repeat (first | exact (Kd.R_reads' HO390.out).2.2 | (with_reducible refine Kd.C_alloc ?_ _) | (with_reducible refine Kd.C_drewN ?_ _) | (with_reducible refine Kd.C_drew ?_))); (case side2 => exact (Kd.R_reads' HO390.out).2.1); (case side3 => repeat (first | exact (Kd.R_reads' HO396.out).2.2 | (with_reducible refine Kd.C_alloc ?_ _) | (with_reducible refine Kd.C_drewN ?_ _) | (with_reducible refine Kd.C_drew ?_))); (case side4 => exact (Kd.R_reads' HO396.out).2.1); rintro e w' ⟨rfl, ⟨nd, rfl⟩⟩; (try first | exact ⟨rfl, _, World.drewN_drewN _ _ _⟩ | exact ⟨rfl, _, Eq.trans (World.drewN_drewN _ _ _) (congrArg (World.drewN _) (Nat.add_assoc _ _ _))⟩); obtain ⟨Ao53, co53, eo53⟩ := Kd.R_slice HO368.out; subst eo53; obtain ⟨Ao54, co54, eo54⟩ := Kd.R_slice HO370.out; subst eo54))
              repeat (go_quiet (first | ((with_reducible refine gate_dst (N := 83) rfl ?_); (try (refine gate_guard (by rfl) ?_; dsimp only)); refine Kd.R_lit (Kd.int .i64) _ 3 ?hg (N := 83) ?hd (xs := ([1, 1, 1] : List Int)) (inner := [.int .i64 1, .int .i64 1, .int .i64 1]) (ok := fun _ => True) (okp := fun _ => True) ?hr ?hp (fun _ hk => hk) trivial (Below.refl _ _) (Nat.le_refl _) (by simp) ?_; (case hd => rfl); (case hg => rfl); (case hr => first | (go_simp; done) | (go_simp; rfl)); (case hp => exact (Reps.one (show Kd.M (Kd.int .i64) _ _ _ 1 [.int .i64 1] from rfl) (Reps.one (show Kd.M (Kd.int .i64) _ _ _ 1 [.int .i64 1] from rfl) (Reps.one (show Kd.M (Kd.int .i64) _ _ _ 1 [.int .i64 1] from rfl) (Reps.none _ _))))); intro v395 w49 ho50 hb hg_ hnew_; clear hg_ hnew_; (first | rw [← Ny394.out] at ho50 | (simp only [Int.reduceToNat] at ho50; rw [← Ny394.out] at ho50)); have n0_ := Aside0.mk (Kd.R_elder' (by (with_reducible repeat (first | apply Kd.R_alloc | apply Kd.R_drewN | apply Kd.R_drew)); exact HO361.out) (Kd.R_base ho50) hb); have n1_ := Aside0.mk (Kd.R_below (by (with_reducible repeat (first | apply Kd.R_alloc | apply Kd.R_drewN | apply Kd.R_drew)); exact HO363.out) hb); have n2_ := Aside0.mk (Kd.R_below (by (with_reducible repeat (first | apply Kd.R_alloc | apply Kd.R_drewN | apply Kd.R_drew)); exact HO368.out) hb); have n3_ := Aside0.mk (Kd.R_elder' (by (with_reducible repeat (first | apply Kd.R_alloc | apply Kd.R_drewN | apply Kd.R_drew)); exact HO370.out) (Kd.R_base ho50) hb); have n4_ := Aside0.mk (Kd.R_below (by (with_reducible repeat (first | apply Kd.R_alloc | apply Kd.R_drewN | apply Kd.R_drew)); exact HO375.out) hb); have n5_ := Aside0.mk (Kd.R_elder' (by (with_reducible repeat (first | apply Kd.R_alloc | apply Kd.R_drewN | apply Kd.R_drew)); exact HO377.out) (Kd.R_base ho50) hb); have n6_ := Aside0.mk (Kd.R_elder' (by (with_reducible repeat (first | apply Kd.R_alloc | apply Kd.R_drewN | apply Kd.R_drew)); exact HO380.out) (Kd.R_base ho50) hb); have n7_ := Aside0.mk (Kd.R_below (by (with_reducible repeat (first | apply Kd.R_alloc | apply Kd.R_drewN | apply Kd.R_drew)); exact HO383.out) hb); have n8_ := Aside0.mk (Kd.R_below (by (with_reducible repeat (first | apply Kd.R_alloc | apply Kd.R_drewN | apply Kd.R_drew)); exact HO388.out) hb); have n9_ := Aside0.mk (Kd.R_elder' (by (with_reducible repeat (first | apply Kd.R_alloc | apply Kd.R_drewN | apply Kd.R_drew)); exact HO390.out) (Kd.R_base ho50) hb); have n10_ := Aside0.mk (Kd.R_lower (Kd.R_new' (Kd.R_new' (Kd.R_new' (Kd.R_new' (Kd.R_new' ho50 (Kd.R_lt (by (with_reducible repeat (first | apply Kd.R_alloc | apply Kd.R_drewN | apply Kd.R_drew)); exact HO361.out))) (Kd.R_lt (by (with_reducible repeat (first | apply Kd.R_alloc | apply Kd.R_drewN | apply Kd.R_drew)); exact HO370.out))) (Kd.R_lt (by (with_reducible repeat (first | apply Kd.R_alloc | apply Kd.R_drewN | apply Kd.R_drew)); exact HO377.out))) (Kd.R_lt (by (with_reducible repeat (first | apply Kd.R_alloc | apply Kd.R_drewN | apply Kd.R_drew)); exact HO380.out))) (Kd.R_lt (by (with_reducible repeat (first | apply Kd.R_alloc | apply Kd.R_drewN | apply Kd.R_drew)); exact HO390.out))) (below_size (by repeat (first | (with_reducible first | exact HB.out | apply below_alloc | apply pw_below_drewN | apply below_drew1) | exact HB.out)))); have n11_ := Aside0.mk (below_step (by repeat (first | (with_reducible first | exact HB.out | apply below_alloc | apply pw_below_drewN | apply below_drew1) | exact HB.out)) hb); clear HO361; clear HO363; clear HO368; clear HO370; clear HO375; clear HO377; clear HO380; clear HO383; clear HO388; clear HO390; clear HB; have HO361 := n0_; have HO363 := n1_; have HO368 := n2_; have HO370 := n3_; have HO375 := n4_; have HO377 := n5_; have HO380 := n6_; have HO383 := n7_; have HO388 := n8_; have HO390 := n9_; have HO396 := n10_; have HB := n11_; clear n0_ n1_ n2_ n3_ n4_ n5_ n6_ n7_ n8_ n9_ n10_ n11_; clear hb ho50; obtain ⟨Ao51, co51, eo51⟩ := Kd.R_slice HO390.out; subst eo51; obtain ⟨Ao52, co52, eo52⟩ := Kd.R_slice HO396.out; subst eo52) | (go_at_call 22; (with_reducible refine (laws_sameInts.calls k _ _ t385 _ _ y394 true _ ?side1 ?side2 ?side3 ?side4 A39.out).mono ?_); (case side1 => repeat (first | exact (Kd.R_reads' HO390.out).2.2 | (with_reducible refine Kd.C_alloc ?_ _) | (with_reducible refine Kd.C_drewN ?_ _) | (with_reducible refine Kd.C_drew ?_))); (case side2 => exact (Kd.R_reads' HO390.out).2.1); (case side3 => repeat (first | exact (Kd.R_reads' HO396.out).2.2 | (with_reducible refine Kd.C_alloc ?_ _) | (with_reducible refine Kd.C_drewN ?_ _) | (with_reducible refine Kd.C_drew ?_))); (case side4 => exact (Kd.R_reads' HO396.out).2.1); rintro e w' ⟨rfl, ⟨nd, rfl⟩⟩; (try first | exact ⟨rfl, _, World.drewN_drewN _ _ _⟩ | exact ⟨rfl, _, Eq.trans (World.drewN_drewN _ _ _) (congrArg (World.drewN _) (Nat.add_assoc _ _ _))⟩); obtain ⟨Ao53, co53, eo53⟩ := Kd.R_slice HO368.out; subst eo53; obtain ⟨Ao54, co54, eo54⟩ := Kd.R_slice HO370.out; subst eo54)); try go_wp2_with (first | ((with_reducible refine gate_dst (N := 83) rfl ?_); (try (refine gate_guard (by rfl) ?_; dsimp only)); refine Kd.R_lit (Kd.int .i64) _ 3 ?hg (N := 83) ?hd (xs := ([1, 1, 1] : List Int)) (inner := [.int .i64 1, .int .i64 1, .int .i64 1]) (ok := fun _ => True) (okp := fun _ => True) ?hr ?hp (fun _ hk => hk) trivial (Below.refl _ _) (Nat.le_refl _) (by simp) ?_; (case hd => rfl); (case hg => rfl); (case hr => first | (go_simp; done) | (go_simp; rfl)); (case hp => exact (Reps.one (show Kd.M (Kd.int .i64) _ _ _ 1 [.int .i64 1] from rfl) (Reps.one (show Kd.M (Kd.int .i64) _ _ _ 1 [.int .i64 1] from rfl) (Reps.one (show Kd.M (Kd.int .i64) _ _ _ 1 [.int .i64 1] from rfl) (Reps.none _ _))))); intro v395 w49 ho50 hb hg_ hnew_; clear hg_ hnew_; (first | rw [← Ny394.out] at ho50 | (simp only [Int.reduceToNat] at ho50; rw [← Ny394.out] at ho50)); have n0_ := Aside0.mk (Kd.R_elder' (by (with_reducible repeat (first | apply Kd.R_alloc | apply Kd.R_drewN | apply Kd.R_drew)); exact HO361.out) (Kd.R_base ho50) hb); have n1_ := Aside0.mk (Kd.R_below (by (with_reducible repeat (first | apply Kd.R_alloc | apply Kd.R_drewN | apply Kd.R_drew)); exact HO363.out) hb); have n2_ := Aside0.mk (Kd.R_below (by (with_reducible repeat (first | apply Kd.R_alloc | apply Kd.R_drewN | apply Kd.R_drew)); exact HO368.out) hb); have n3_ := Aside0.mk (Kd.R_elder' (by (with_reducible repeat (first | apply Kd.R_alloc | apply Kd.R_drewN | apply Kd.R_drew)); exact HO370.out) (Kd.R_base ho50) hb); have n4_ := Aside0.mk (Kd.R_below (by (with_reducible repeat (first | apply Kd.R_alloc | apply Kd.R_drewN | apply Kd.R_drew)); exact HO375.out) hb); have n5_ := Aside0.mk (Kd.R_elder' (by (with_reducible repeat (first | apply Kd.R_alloc | apply Kd.R_drewN | apply Kd.R_drew)); exact HO377.out) (Kd.R_base ho50) hb); have n6_ := Aside0.mk (Kd.R_elder' (by (with_reducible repeat (first | apply Kd.R_alloc | apply Kd.R_drewN | apply Kd.R_drew)); exact HO380.out) (Kd.R_base ho50) hb); have n7_ := Aside0.mk (Kd.R_below (by (with_reducible repeat (first | apply Kd.R_alloc | apply Kd.R_drewN | apply Kd.R_drew)); exact HO383.out) hb); have n8_ := Aside0.mk (Kd.R_below (by (with_reducible repeat (first | apply Kd.R_alloc | apply Kd.R_drewN | apply Kd.R_drew)); exact HO388.out) hb); have n9_ := Aside0.mk (Kd.R_elder' (by (with_reducible repeat (first | apply Kd.R_alloc | apply Kd.R_drewN | apply Kd.R_drew)); exact HO390.out) (Kd.R_base ho50) hb); have n10_ := Aside0.mk (Kd.R_lower (Kd.R_new' (Kd.R_new' (Kd.R_new' (Kd.R_new' (Kd.R_new' ho50 (Kd.R_lt (by (with_reducible repeat (first | apply Kd.R_alloc | apply Kd.R_drewN | apply Kd.R_drew)); exact HO361.out))) (Kd.R_lt (by (with_reducible repeat (first | apply Kd.R_alloc | apply Kd.R_drewN | apply Kd.R_drew)); exact HO370.out))) (Kd.R_lt (by (with_reducible repeat (first | apply Kd.R_alloc | apply Kd.R_drewN | apply Kd.R_drew)); exact HO377.out))) (Kd.R_lt (by (with_reducible repeat (first | apply Kd.R_alloc | apply Kd.R_drewN | apply Kd.R_drew)); exact HO380.out))) (Kd.R_lt (by (with_reducible repeat (first | apply Kd.R_alloc | apply Kd.R_drewN | apply Kd.R_drew)); exact HO390.out))) (below_size (by repeat (first | (with_reducible first | exact HB.out | apply below_alloc | apply pw_below_drewN | apply below_drew1) | exact HB.out)))); have n11_ := Aside0.mk (below_step (by repeat (first | (with_reducible first | exact HB.out | apply below_alloc | apply pw_below_drewN | apply below_drew1) | exact HB.out)) hb); clear HO361; clear HO363; clear HO368; clear HO370; clear HO375; clear HO377; clear HO380; clear HO383; clear HO388; clear HO390; clear HB; have HO361 := n0_; have HO363 := n1_; have HO368 := n2_; have HO370 := n3_; have HO375 := n4_; have HO377 := n5_; have HO380 := n6_; have HO383 := n7_; have HO388 := n8_; have HO390 := n9_; have HO396 := n10_; have HB := n11_; clear n0_ n1_ n2_ n3_ n4_ n5_ n6_ n7_ n8_ n9_ n10_ n11_; clear hb ho50; obtain ⟨Ao51, co51, eo51⟩ := Kd.R_slice HO390.out; subst eo51; obtain ⟨Ao52, co52, eo52⟩ := Kd.R_slice HO396.out; subst eo52) | (go_at_call 22; (with_reducible refine (laws_sameInts.calls k _ _ t385 _ _ y394 true _ ?side1 ?side2 ?side3 ?side4 A39.out).mono ?_); (case side1 => repeat (first | exact (Kd.R_reads' HO390.out).2.2 | (with_reducible refine Kd.C_alloc ?_ _) | (with_reducible refine Kd.C_drewN ?_ _) | (with_reducible refine Kd.C_drew ?_))); (case side2 => exact (Kd.R_reads' HO390.out).2.1); (case side3 => repeat (first | exact (Kd.R_reads' HO396.out).2.2 | (with_reducible refine Kd.C_alloc ?_ _) | (with_reducible refine Kd.C_drewN ?_ _) | (with_reducible refine Kd.C_drew ?_))); (case side4 => exact (Kd.R_reads' HO396.out).2.1); rintro e w' ⟨rfl, ⟨nd, rfl⟩⟩; (try first | exact ⟨rfl, _, World.drewN_drewN _ _ _⟩ | exact ⟨rfl, _, Eq.trans (World.drewN_drewN _ _ _) (congrArg (World.drewN _) (Nat.add_assoc _ _ _))⟩); obtain ⟨Ao53, co53, eo53⟩ := Kd.R_slice HO368.out; subst eo53; obtain ⟨Ao54, co54, eo54⟩ := Kd.R_slice HO370.out; subst eo54)))
              go_meet
              case rel => exact ⟨_, (((t365.length : Int) != (t364.length : Int))), (by first | rfl | (simp; done) | (simp [*]; done)), H', ⟨by first | omega | exact Nat.le_refl _⟩, ⟨by (with_reducible repeat (first | apply Kd.R_alloc | apply Kd.R_drewN | apply Kd.R_drew)); exact Kd.R_mono HO361.out (fun _ hk => hk.1.1.1.1.2)⟩, ⟨by (with_reducible repeat (first | apply Kd.R_alloc | apply Kd.R_drewN | apply Kd.R_drew)); exact Kd.R_mono HO363.out (fun _ hk => trivial)⟩, ⟨by (with_reducible repeat (first | apply Kd.R_alloc | apply Kd.R_drewN | apply Kd.R_drew)); exact Kd.R_mono HO368.out (fun _ hk => trivial)⟩, ⟨by (with_reducible repeat (first | apply Kd.R_alloc | apply Kd.R_drewN | apply Kd.R_drew)); exact Kd.R_mono HO370.out (fun _ hk => hk.1.1.1.1.2)⟩, ⟨by repeat (first | (with_reducible first | exact HB.out | apply below_alloc | apply pw_below_drewN | apply below_drew1) | exact HB.out)⟩⟩
            ·replace c40 := Bool.eq_false_iff.mpr c40
             subst c40
             have H1 : (laws_FnTried.j0 k t357 t358 t359 t364 t365 t366 true) = some r := by rw [if_neg (show ¬ (false = true) by decide)] at H; exact H
             clear H
             have H := H1
             clear H1
             have H' := Aside0.mk H
             clear H
             obtain ⟨Ao55, co55, eo55⟩ := Kd.R_slice HO388.out
             subst eo55
             have p391 : 0 ≤ (0 : Int) := (by omega)
             have q391 : 0 < (t384.length : Int) := of_decide_eq_true (by first | (with_reducible assumption) | assumption)
             obtain ⟨ad391, e391, hx391_0⟩ := Kd.at_bool (Kd.R_reads' HO388.out).2.2 0 p391 q391
             (try rw [← Nbq30.out] at hx391_0)
             (try rw [← Nbq33.out] at hx391_0)
             (try rw [← Nbq37.out] at hx391_0)
             cases e391
             have qi391 : (0 < t384.length) = True := eq_true (by omega)
             (try rw [show ((0 : Int)).toNat = 0 from rfl] at hx391_0)
             (try rw [Addr.add_zero'] at hx391_0)
             replace p391 := eq_true p391
             replace q391 := eq_true q391
             have p392 : 0 ≤ (1 : Int) := (by omega)
             have q392 : 1 < (t384.length : Int) := of_decide_eq_true (by first | (with_reducible assumption) | assumption)
             obtain ⟨ad392, e392, hx392_0⟩ := Kd.at_bool (Kd.R_reads' HO388.out).2.2 1 p392 q392
             (try rw [← Nbq30.out] at hx392_0)
             (try rw [← Nbq33.out] at hx392_0)
             (try rw [← Nbq37.out] at hx392_0)
             obtain rfl : ad391 = ad392 := (by injection e392)
             (try simp only [show (1 : Int).toNat = 1 from rfl, Nat.reduceMul, Nat.reduceEqDiff, Go.Addr.add, ↓reduceIte] at hx392_0)
             have qi392 : (1 < t384.length) = True := eq_true (by omega)
             (try rw [show ((1 : Int)).toNat = 1 from rfl] at hx392_0)
             replace p392 := eq_true p392
             replace q392 := eq_true q392
             have p393 : 0 ≤ (2 : Int) := (by omega)
             have q393 : 2 < (t384.length : Int) := of_decide_eq_true (by first | (with_reducible assumption) | assumption)
             obtain ⟨ad393, e393, hx393_0⟩ := Kd.at_bool (Kd.R_reads' HO388.out).2.2 2 p393 q393
             (try rw [← Nbq30.out] at hx393_0)
             (try rw [← Nbq33.out] at hx393_0)
             (try rw [← Nbq37.out] at hx393_0)
             obtain rfl : ad391 = ad393 := (by injection e393)
             (try simp only [show (2 : Int).toNat = 2 from rfl, Nat.reduceMul, Nat.reduceEqDiff, Go.Addr.add, ↓reduceIte] at hx393_0)
             have qi393 : (2 < t384.length) = True := eq_true (by omega)
             (try rw [show ((2 : Int)).toNat = 2 from rfl] at hx393_0)
             replace p393 := eq_true p393
             replace q393 := eq_true q393
             go_wp2_with (first | ((with_reducible refine gate_dst (N := 83) rfl ?_); (try (refine gate_guard (by rfl) ?_; dsimp only)); refine Kd.R_lit (Kd.int .i64) _ 3 ?hg (N := 83) ?hd (xs := ([1, 1, 1] : List Int)) (inner := [.int .i64 1, .int .i64 1, .int .i64 1]) (ok := fun _ => True) (okp := fun _ => True) ?hr ?hp (fun _ hk => hk) trivial (Below.refl _ _) (Nat.le_refl _) (by simp) ?_; (case hd => rfl); (case hg => rfl); (case hr => first | (go_simp; done) | (go_simp; rfl)); (case hp => exact (Reps.one (show Kd.M (Kd.int .i64) _ _ _ 1 [.int .i64 1] from rfl) (Reps.one (show Kd.M (Kd.int .i64) _ _ _ 1 [.int .i64 1] from rfl) (Reps.one (show Kd.M (Kd.int .i64) _ _ _ 1 [.int .i64 1] from rfl) (Reps.none _ _))))); intro v395 w56 ho57 hb hg_ hnew_; clear hg_ hnew_; (first | rw [← Ny394.out] at ho57 | (simp only [Int.reduceToNat] at ho57; rw [← Ny394.out] at ho57)); have n0_ := Aside0.mk (Kd.R_elder' (by (with_reducible repeat (first | apply Kd.R_alloc | apply Kd.R_drewN | apply Kd.R_drew)); exact HO361.out) (Kd.R_base ho57) hb); have n1_ := Aside0.mk (Kd.R_below (by (with_reducible repeat (first | apply Kd.R_alloc | apply Kd.R_drewN | apply Kd.R_drew)); exact HO363.out) hb); have n2_ := Aside0.mk (Kd.R_below (by (with_reducible repeat (first | apply Kd.R_alloc | apply Kd.R_drewN | apply Kd.R_drew)); exact HO368.out) hb); have n3_ := Aside0.mk (Kd.R_elder' (by (with_reducible repeat (first | apply Kd.R_alloc | apply Kd.R_drewN | apply Kd.R_drew)); exact HO370.out) (Kd.R_base ho57) hb); have n4_ := Aside0.mk (Kd.R_below (by (with_reducible repeat (first | apply Kd.R_alloc | apply Kd.R_drewN | apply Kd.R_drew)); exact HO375.out) hb); have n5_ := Aside0.mk (Kd.R_elder' (by (with_reducible repeat (first | apply Kd.R_alloc | apply Kd.R_drewN | apply Kd.R_drew)); exact HO377.out) (Kd.R_base ho57) hb); have n6_ := Aside0.mk (Kd.R_elder' (by (with_reducible repeat (first | apply Kd.R_alloc | apply Kd.R_drewN | apply Kd.R_drew)); exact HO380.out) (Kd.R_base ho57) hb); have n7_ := Aside0.mk (Kd.R_below (by (with_reducible repeat (first | apply Kd.R_alloc | apply Kd.R_drewN | apply Kd.R_drew)); exact HO383.out) hb); have n8_ := Aside0.mk (Kd.R_below (by (with_reducible repeat (first | apply Kd.R_alloc | apply Kd.R_drewN | apply Kd.R_drew)); exact HO388.out) hb); have n9_ := Aside0.mk (Kd.R_elder' (by (with_reducible repeat (first | apply Kd.R_alloc | apply Kd.R_drewN | apply Kd.R_drew)); exact HO390.out) (Kd.R_base ho57) hb); have n10_ := Aside0.mk (Kd.R_lower (Kd.R_new' (Kd.R_new' (Kd.R_new' (Kd.R_new' (Kd.R_new' ho57 (Kd.R_lt (by (with_reducible repeat (first | apply Kd.R_alloc | apply Kd.R_drewN | apply Kd.R_drew)); exact HO361.out))) (Kd.R_lt (by (with_reducible repeat (first | apply Kd.R_alloc | apply Kd.R_drewN | apply Kd.R_drew)); exact HO370.out))) (Kd.R_lt (by (with_reducible repeat (first | apply Kd.R_alloc | apply Kd.R_drewN | apply Kd.R_drew)); exact HO377.out))) (Kd.R_lt (by (with_reducible repeat (first | apply Kd.R_alloc | apply Kd.R_drewN | apply Kd.R_drew)); exact HO380.out))) (Kd.R_lt (by (with_reducible repeat (first | apply Kd.R_alloc | apply Kd.R_drewN | apply Kd.R_drew)); exact HO390.out))) (below_size (by repeat (first | (with_reducible first | exact HB.out | apply below_alloc | apply pw_below_drewN | apply below_drew1) | exact HB.out)))); have n11_ := Aside0.mk (below_step (by repeat (first | (with_reducible first | exact HB.out | apply below_alloc | apply pw_below_drewN | apply below_drew1) | exact HB.out)) hb); clear HO361; clear HO363; clear HO368; clear HO370; clear HO375; clear HO377; clear HO380; clear HO383; clear HO388; clear HO390; clear HB; have HO361 := n0_; have HO363 := n1_; have HO368 := n2_; have HO370 := n3_; have HO375 := n4_; have HO377 := n5_; have HO380 := n6_; have HO383 := n7_; have HO388 := n8_; have HO390 := n9_; have HO396 := n10_; have HB := n11_; clear n0_ n1_ n2_ n3_ n4_ n5_ n6_ n7_ n8_ n9_ n10_ n11_; clear hb ho57; obtain ⟨Ao58, co58, eo58⟩ := Kd.R_slice HO390.out; subst eo58; obtain ⟨Ao59, co59, eo59⟩ := Kd.R_slice HO396.out; subst eo59) | (go_at_call 22; (with_reducible refine (laws_sameInts.calls k _ _ t385 _ _ y394 false _ ?side1 ?side2 ?side3 ?side4 A39.out).mono ?_); (case side1 => repeat (first | exact (Kd.R_reads' HO390.out).2.2 | (with_reducible refine Kd.C_alloc ?_ _) | (with_reducible refine Kd.C_drewN ?_ _) | (with_reducible refine Kd.C_drew ?_))); (case side2 => exact (Kd.R_reads' HO390.out).2.1); (case side3 => repeat (first | exact (Kd.R_reads' HO396.out).2.2 | (with_reducible refine Kd.C_alloc ?_ _) | (with_reducible refine Kd.C_drewN ?_ _) | (with_reducible refine Kd.C_drew ?_))); (case side4 => exact (Kd.R_reads' HO396.out).2.1); rintro e w' ⟨rfl, ⟨nd, rfl⟩⟩; (try first | exact ⟨rfl, _, World.drewN_drewN _ _ _⟩ | exact ⟨rfl, _, Eq.trans (World.drewN_drewN _ _ _) (congrArg (World.drewN _) (Nat.add_assoc _ _ _))⟩)))
             repeat (go_quiet (first | ((with_reducible refine gate_dst (N := 83) rfl ?_); (try (refine gate_guard (by rfl) ?_; dsimp only)); refine Kd.R_lit (Kd.int .i64) _ 3 ?hg (N := 83) ?hd (xs := ([1, 1, 1] : List Int)) (inner := [.int .i64 1, .int .i64 1, .int .i64 1]) (ok := fun _ => True) (okp := fun _ => True) ?hr ?hp (fun _ hk => hk) trivial (Below.refl _ _) (Nat.le_refl _) (by simp) ?_; (case hd => rfl); (case hg => rfl); (case hr => first | (go_simp; done) | (go_simp; rfl)); (case hp => exact (Reps.one (show Kd.M (Kd.int .i64) _ _ _ 1 [.int .i64 1] from rfl) (Reps.one (show Kd.M (Kd.int .i64) _ _ _ 1 [.int .i64 1] from rfl) (Reps.one (show Kd.M (Kd.int .i64) _ _ _ 1 [.int .i64 1] from rfl) (Reps.none _ _))))); intro v395 w56 ho57 hb hg_ hnew_; clear hg_ hnew_; (first | rw [← Ny394.out] at ho57 | (simp only [Int.reduceToNat] at ho57; rw [← Ny394.out] at ho57)); have n0_ := Aside0.mk (Kd.R_elder' (by (with_reducible repeat (first | apply Kd.R_alloc | apply Kd.R_drewN | apply Kd.R_drew)); exact HO361.out) (Kd.R_base ho57) hb); have n1_ := Aside0.mk (Kd.R_below (by (with_reducible repeat (first | apply Kd.R_alloc | apply Kd.R_drewN | apply Kd.R_drew)); exact HO363.out) hb); have n2_ := Aside0.mk (Kd.R_below (by (with_reducible repeat (first | apply Kd.R_alloc | apply Kd.R_drewN | apply Kd.R_drew)); exact HO368.out) hb); have n3_ := Aside0.mk (Kd.R_elder' (by (with_reducible repeat (first | apply Kd.R_alloc | apply Kd.R_drewN | apply Kd.R_drew)); exact HO370.out) (Kd.R_base ho57) hb); have n4_ := Aside0.mk (Kd.R_below (by (with_reducible repeat (first | apply Kd.R_alloc | apply Kd.R_drewN | apply Kd.R_drew)); exact HO375.out) hb); have n5_ := Aside0.mk (Kd.R_elder' (by (with_reducible repeat (first | apply Kd.R_alloc | apply Kd.R_drewN | apply Kd.R_drew)); exact HO377.out) (Kd.R_base ho57) hb); have n6_ := Aside0.mk (Kd.R_elder' (by (with_reducible repeat (first | apply Kd.R_alloc | apply Kd.R_drewN | apply Kd.R_drew)); exact HO380.out) (Kd.R_base ho57) hb); have n7_ := Aside0.mk (Kd.R_below (by (with_reducible repeat (first | apply Kd.R_alloc | apply Kd.R_drewN | apply Kd.R_drew)); exact HO383.out) hb); have n8_ := Aside0.mk (Kd.R_below (by (with_reducible repeat (first | apply Kd.R_alloc | apply Kd.R_drewN | apply Kd.R_drew)); exact HO388.out) hb); have n9_ := Aside0.mk (Kd.R_elder' (by (with_reducible repeat (first | apply Kd.R_alloc | apply Kd.R_drewN | apply Kd.R_drew)); exact HO390.out) (Kd.R_base ho57) hb); have n10_ := Aside0.mk (Kd.R_lower (Kd.R_new' (Kd.R_new' (Kd.R_new' (Kd.R_new' (Kd.R_new' ho57 (Kd.R_lt (by (with_reducible repeat (first | apply Kd.R_alloc | apply Kd.R_drewN | apply Kd.R_drew)); exact HO361.out))) (Kd.R_lt (by (with_reducible repeat (first | apply Kd.R_alloc | apply Kd.R_drewN | apply Kd.R_drew)); exact HO370.out))) (Kd.R_lt (by (with_reducible repeat (first | apply Kd.R_alloc | apply Kd.R_drewN | apply Kd.R_drew)); exact HO377.out))) (Kd.R_lt (by (with_reducible repeat (first | apply Kd.R_alloc | apply Kd.R_drewN | apply Kd.R_drew)); exact HO380.out))) (Kd.R_lt (by (with_reducible repeat (first | apply Kd.R_alloc | apply Kd.R_drewN | apply Kd.R_drew)); exact HO390.out))) (below_size (by repeat (first | (with_reducible first | exact HB.out | apply below_alloc | apply pw_below_drewN | apply below_drew1) | exact HB.out)))); have n11_ := Aside0.mk (below_step (by repeat (first | (with_reducible first | exact HB.out | apply below_alloc | apply pw_below_drewN | apply below_drew1) | exact HB.out)) hb); clear HO361; clear HO363; clear HO368; clear HO370; clear HO375; clear HO377; clear HO380; clear HO383; clear HO388; clear HO390; clear HB; have HO361 := n0_; have HO363 := n1_; have HO368 := n2_; have HO370 := n3_; have HO375 := n4_; have HO377 := n5_; have HO380 := n6_; have HO383 := n7_; have HO388 := n8_; have HO390 := n9_; have HO396 := n10_; have HB := n11_; clear n0_ n1_ n2_ n3_ n4_ n5_ n6_ n7_ n8_ n9_ n10_ n11_; clear hb ho57; obtain ⟨Ao58, co58, eo58⟩ := Kd.R_slice HO390.out; subst eo58; obtain ⟨Ao59, co59, eo59⟩ := Kd.R_slice HO396.out; subst eo59) | (go_at_call 22; (with_reducible refine (laws_sameInts.calls k _ _ t385 _ _ y394 false _ ?side1 ?side2 ?side3 ?side4 A39.out).mono ?_); (case side1 => repeat (first | exact (Kd.R_reads' HO390.out).2.2 | (with_reducible refine Kd.C_alloc ?_ _) | (with_reducible refine Kd.C_drewN ?_ _) | (with_reducible refine Kd.C_drew ?_))); (case side2 => exact (Kd.R_reads' HO390.out).2.1); (case side3 => repeat (first | exact (Kd.R_reads' HO396.out).2.2 | (with_reducible refine Kd.C_alloc ?_ _) | (with_reducible refine Kd.C_drewN ?_ _) | (with_reducible refine Kd.C_drew ?_))); (case side4 => exact (Kd.R_reads' HO396.out).2.1); rintro e w' ⟨rfl, ⟨nd, rfl⟩⟩; (try first | exact ⟨rfl, _, World.drewN_drewN _ _ _⟩ | exact ⟨rfl, _, Eq.trans (World.drewN_drewN _ _ _) (congrArg (World.drewN _) (Nat.add_assoc _ _ _))⟩))); try go_wp2_with (first | ((with_reducible refine gate_dst (N := 83) rfl ?_); (try (refine gate_guard (by rfl) ?_; dsimp only)); refine Kd.R_lit (Kd.int .i64) _ 3 ?hg (N := 83) ?hd (xs := ([1, 1, 1] : List Int)) (inner := [.int .i64 1, .int .i64 1, .int .i64 1]) (ok := fun _ => True) (okp := fun _ => True) ?hr ?hp (fun _ hk => hk) trivial (Below.refl _ _) (Nat.le_refl _) (by simp) ?_; (case hd => rfl); (case hg => rfl); (case hr => first | (go_simp; done) | (go_simp; rfl)); (case hp => exact (Reps.one (show Kd.M (Kd.int .i64) _ _ _ 1 [.int .i64 1] from rfl) (Reps.one (show Kd.M (Kd.int .i64) _ _ _ 1 [.int .i64 1] from rfl) (Reps.one (show Kd.M (Kd.int .i64) _ _ _ 1 [.int .i64 1] from rfl) (Reps.none _ _))))); intro v395 w56 ho57 hb hg_ hnew_; clear hg_ hnew_; (first | rw [← Ny394.out] at ho57 | (simp only [Int.reduceToNat] at ho57; rw [← Ny394.out] at ho57)); have n0_ := Aside0.mk (Kd.R_elder' (by (with_reducible repeat (first | apply Kd.R_alloc | apply Kd.R_drewN | apply Kd.R_drew)); exact HO361.out) (Kd.R_base ho57) hb); have n1_ := Aside0.mk (Kd.R_below (by (with_reducible repeat (first | apply Kd.R_alloc | apply Kd.R_drewN | apply Kd.R_drew)); exact HO363.out) hb); have n2_ := Aside0.mk (Kd.R_below (by (with_reducible repeat (first | apply Kd.R_alloc | apply Kd.R_drewN | apply Kd.R_drew)); exact HO368.out) hb); have n3_ := Aside0.mk (Kd.R_elder' (by (with_reducible repeat (first | apply Kd.R_alloc | apply Kd.R_drewN | apply Kd.R_drew)); exact HO370.out) (Kd.R_base ho57) hb); have n4_ := Aside0.mk (Kd.R_below (by (with_reducible repeat (first | apply Kd.R_alloc | apply Kd.R_drewN | apply Kd.R_drew)); exact HO375.out) hb); have n5_ := Aside0.mk (Kd.R_elder' (by (with_reducible repeat (first | apply Kd.R_alloc | apply Kd.R_drewN | apply Kd.R_drew)); exact HO377.out) (Kd.R_base ho57) hb); have n6_ := Aside0.mk (Kd.R_elder' (by (with_reducible repeat (first | apply Kd.R_alloc | apply Kd.R_drewN | apply Kd.R_drew)); exact HO380.out) (Kd.R_base ho57) hb); have n7_ := Aside0.mk (Kd.R_below (by (with_reducible repeat (first | apply Kd.R_alloc | apply Kd.R_drewN | apply Kd.R_drew)); exact HO383.out) hb); have n8_ := Aside0.mk (Kd.R_below (by (with_reducible repeat (first | apply Kd.R_alloc | apply Kd.R_drewN | apply Kd.R_drew)); exact HO388.out) hb); have n9_ := Aside0.mk (Kd.R_elder' (by (with_reducible repeat (first | apply Kd.R_alloc | apply Kd.R_drewN | apply Kd.R_drew)); exact HO390.out) (Kd.R_base ho57) hb); have n10_ := Aside0.mk (Kd.R_lower (Kd.R_new' (Kd.R_new' (Kd.R_new' (Kd.R_new' (Kd.R_new' ho57 (Kd.R_lt (by (with_reducible repeat (first | apply Kd.R_alloc | apply Kd.R_drewN | apply Kd.R_drew)); exact HO361.out))) (Kd.R_lt (by (with_reducible repeat (first | apply Kd.R_alloc | apply Kd.R_drewN | apply Kd.R_drew)); exact HO370.out))) (Kd.R_lt (by (with_reducible repeat (first | apply Kd.R_alloc | apply Kd.R_drewN | apply Kd.R_drew)); exact HO377.out))) (Kd.R_lt (by (with_reducible repeat (first | apply Kd.R_alloc | apply Kd.R_drewN | apply Kd.R_drew)); exact HO380.out))) (Kd.R_lt (by (with_reducible repeat (first | apply Kd.R_alloc | apply Kd.R_drewN | apply Kd.R_drew)); exact HO390.out))) (below_size (by repeat (first | (with_reducible first | exact HB.out | apply below_alloc | apply pw_below_drewN | apply below_drew1) | exact HB.out)))); have n11_ := Aside0.mk (below_step (by repeat (first | (with_reducible first | exact HB.out | apply below_alloc | apply pw_below_drewN | apply below_drew1) | exact HB.out)) hb); clear HO361; clear HO363; clear HO368; clear HO370; clear HO375; clear HO377; clear HO380; clear HO383; clear HO388; clear HO390; clear HB; have HO361 := n0_; have HO363 := n1_; have HO368 := n2_; have HO370 := n3_; have HO375 := n4_; have HO377 := n5_; have HO380 := n6_; have HO383 := n7_; have HO388 := n8_; have HO390 := n9_; have HO396 := n10_; have HB := n11_; clear n0_ n1_ n2_ n3_ n4_ n5_ n6_ n7_ n8_ n9_ n10_ n11_; clear hb ho57; obtain ⟨Ao58, co58, eo58⟩ := Kd.R_slice HO390.out; subst eo58; obtain ⟨Ao59, co59, eo59⟩ := Kd.R_slice HO396.out; subst eo59) | (go_at_call 22; (with_reducible refine (laws_sameInts.calls k _ _ t385 _ _ y394 false _ ?side1 ?side2 ?side3 ?side4 A39.out).mono ?_); (case side1 => repeat (first | exact (Kd.R_reads' HO390.out).2.2 | (with_reducible refine Kd.C_alloc ?_ _) | (with_reducible refine Kd.C_drewN ?_ _) | (with_reducible refine Kd.C_drew ?_))); (case side2 => exact (Kd.R_reads' HO390.out).2.1); (case side3 => repeat (first | exact (Kd.R_reads' HO396.out).2.2 | (with_reducible refine Kd.C_alloc ?_ _) | (with_reducible refine Kd.C_drewN ?_ _) | (with_reducible refine Kd.C_drew ?_))); (case side4 => exact (Kd.R_reads' HO396.out).2.1); rintro e w' ⟨rfl, ⟨nd, rfl⟩⟩; (try first | exact ⟨rfl, _, World.drewN_drewN _ _ _⟩ | exact ⟨rfl, _, Eq.trans (World.drewN_drewN _ _ _) (congrArg (World.drewN _) (Nat.add_assoc _ _ _))⟩))))
             go_meet
             case rel => exact ⟨_, (true), (by first | rfl | (simp; done) | (simp [*]; done)), H', ⟨by first | omega | exact Nat.le_refl _⟩, ⟨by (with_reducible repeat (first | apply Kd.R_alloc | apply Kd.R_drewN | apply Kd.R_drew)); exact Kd.R_mono HO361.out (fun _ hk => hk.1.1.1.1.2)⟩, ⟨by (with_reducible repeat (first | apply Kd.R_alloc | apply Kd.R_drewN | apply Kd.R_drew)); exact Kd.R_mono HO363.out (fun _ hk => trivial)⟩, ⟨by (with_reducible repeat (first | apply Kd.R_alloc | apply Kd.R_drewN | apply Kd.R_drew)); exact Kd.R_mono HO368.out (fun _ hk => trivial)⟩, ⟨by (with_reducible repeat (first | apply Kd.R_alloc | apply Kd.R_drewN | apply Kd.R_drew)); exact Kd.R_mono HO370.out (fun _ hk => hk.1.1.1.1.2)⟩, ⟨by repeat (first | (with_reducible first | exact HB.out | apply below_alloc | apply pw_below_drewN | apply below_drew1) | exact HB.out)⟩⟩
           ·replace c38 := Bool.eq_false_iff.mpr c38
            subst c38
            have H1 : (laws_FnTried.j0 k t357 t358 t359 t364 t365 t366 true) = some r := by rw [if_neg (show ¬ (false = true) by decide)] at H; exact H
            clear H
            have H := H1
            clear H1
            have H' := Aside0.mk H
            clear H
            obtain ⟨Ao60, co60, eo60⟩ := Kd.R_slice HO388.out
            subst eo60
            have p391 : 0 ≤ (0 : Int) := (by omega)
            have q391 : 0 < (t384.length : Int) := of_decide_eq_true (by first | (with_reducible assumption) | assumption)
            obtain ⟨ad391, e391, hx391_0⟩ := Kd.at_bool (Kd.R_reads' HO388.out).2.2 0 p391 q391
            (try rw [← Nbq30.out] at hx391_0)
            (try rw [← Nbq33.out] at hx391_0)
            (try rw [← Nbq37.out] at hx391_0)
            cases e391
            have qi391 : (0 < t384.length) = True := eq_true (by omega)
            (try rw [show ((0 : Int)).toNat = 0 from rfl] at hx391_0)
            (try rw [Addr.add_zero'] at hx391_0)
            replace p391 := eq_true p391
            replace q391 := eq_true q391
            have p392 : 0 ≤ (1 : Int) := (by omega)
            have q392 : 1 < (t384.length : Int) := of_decide_eq_true (by first | (with_reducible assumption) | assumption)
            obtain ⟨ad392, e392, hx392_0⟩ := Kd.at_bool (Kd.R_reads' HO388.out).2.2 1 p392 q392
            (try rw [← Nbq30.out] at hx392_0)
            (try rw [← Nbq33.out] at hx392_0)
            (try rw [← Nbq37.out] at hx392_0)
            obtain rfl : ad391 = ad392 := (by injection e392)
            (try simp only [show (1 : Int).toNat = 1 from rfl, Nat.reduceMul, Nat.reduceEqDiff, Go.Addr.add, ↓reduceIte] at hx392_0)
            have qi392 : (1 < t384.length) = True := eq_true (by omega)
            (try rw [show ((1 : Int)).toNat = 1 from rfl] at hx392_0)
            replace p392 := eq_true p392
            replace q392 := eq_true q392
            have p393 : 0 ≤ (2 : Int) := (by omega)
            have q393 : 2 < (t384.length : Int) := of_decide_eq_true (by first | (with_reducible assumption) | assumption)
            obtain ⟨ad393, e393, hx393_0⟩ := Kd.at_bool (Kd.R_reads' HO388.out).2.2 2 p393 q393
            (try rw [← Nbq30.out] at hx393_0)
            (try rw [← Nbq33.out] at hx393_0)
            (try rw [← Nbq37.out] at hx393_0)
            obtain rfl : ad391 = ad393 := (by injection e393)
            (try simp only [show (2 : Int).toNat = 2 from rfl, Nat.reduceMul, Nat.reduceEqDiff, Go.Addr.add, ↓reduceIte] at hx393_0)
            have qi393 : (2 < t384.length) = True := eq_true (by omega)
            (try rw [show ((2 : Int)).toNat = 2 from rfl] at hx393_0)
            replace p393 := eq_true p393
            replace q393 := eq_true q393
            go_wp2
            repeat (go_quiet (fail); try go_wp2)
            go_meet
            case rel => exact ⟨_, (true), (by first | rfl | (simp; done) | (simp [*]; done)), H', ⟨by first | omega | exact Nat.le_refl _⟩, ⟨by (with_reducible repeat (first | apply Kd.R_alloc | apply Kd.R_drewN | apply Kd.R_drew)); exact Kd.R_mono HO361.out (fun _ hk => hk.1.1.1.2)⟩, ⟨by (with_reducible repeat (first | apply Kd.R_alloc | apply Kd.R_drewN | apply Kd.R_drew)); exact Kd.R_mono HO363.out (fun _ hk => trivial)⟩, ⟨by (with_reducible repeat (first | apply Kd.R_alloc | apply Kd.R_drewN | apply Kd.R_drew)); exact Kd.R_mono HO368.out (fun _ hk => trivial)⟩, ⟨by (with_reducible repeat (first | apply Kd.R_alloc | apply Kd.R_drewN | apply Kd.R_drew)); exact Kd.R_mono HO370.out (fun _ hk => hk.1.1.1.2)⟩, ⟨by repeat (first | (with_reducible first | exact HB.out | apply below_alloc | apply pw_below_drewN | apply below_drew1) | exact HB.out)⟩⟩
          ·rw [if_neg c36] at H
           exact absurd H (by simp)
        ·rw [if_neg c32] at H
         exact absurd H (by simp)
       ·replace c31 := Bool.eq_false_iff.mpr c31
        subst c31
        have H1 : (laws_FnTried.j0 k t357 t358 t359 t364 t365 t366 true) = some r := by rw [if_neg (show ¬ (false = true) by decide)] at H; exact H
        clear H
        have H := H1
        clear H1
        have H' := Aside0.mk H
        clear H
        obtain ⟨Ao61, co61, eo61⟩ := Kd.R_slice HO388.out
        subst eo61
        have p391 : 0 ≤ (0 : Int) := (by omega)
        have q391 : 0 < (t384.length : Int) := of_decide_eq_true (by first | (with_reducible assumption) | assumption)
        obtain ⟨ad391, e391, hx391_0⟩ := Kd.at_bool (Kd.R_reads' HO388.out).2.2 0 p391 q391
        (try rw [← Nbq30.out] at hx391_0)
        cases e391
        have qi391 : (0 < t384.length) = True := eq_true (by omega)
        (try rw [show ((0 : Int)).toNat = 0 from rfl] at hx391_0)
        (try rw [Addr.add_zero'] at hx391_0)
        replace p391 := eq_true p391
        replace q391 := eq_true q391
        go_wp2
        repeat (go_quiet (fail); try go_wp2)
        go_meet
        case rel => exact ⟨_, (true), (by first | rfl | (simp; done) | (simp [*]; done)), H', ⟨by first | omega | exact Nat.le_refl _⟩, ⟨by (with_reducible repeat (first | apply Kd.R_alloc | apply Kd.R_drewN | apply Kd.R_drew)); exact Kd.R_mono HO361.out (fun _ hk => hk.1.1.1.2)⟩, ⟨by (with_reducible repeat (first | apply Kd.R_alloc | apply Kd.R_drewN | apply Kd.R_drew)); exact Kd.R_mono HO363.out (fun _ hk => trivial)⟩, ⟨by (with_reducible repeat (first | apply Kd.R_alloc | apply Kd.R_drewN | apply Kd.R_drew)); exact Kd.R_mono HO368.out (fun _ hk => trivial)⟩, ⟨by (with_reducible repeat (first | apply Kd.R_alloc | apply Kd.R_drewN | apply Kd.R_drew)); exact Kd.R_mono HO370.out (fun _ hk => hk.1.1.1.2)⟩, ⟨by repeat (first | (with_reducible first | exact HB.out | apply below_alloc | apply pw_below_drewN | apply below_drew1) | exact HB.out)⟩⟩
      ·rw [if_neg c29] at H
       exact absurd H (by simp)
     ·rw [if_neg c28] at H
      have c28b0 : ((t384.length : Int) == 3) = false := beq_eq_false_iff_ne.mpr c28
      have c28b1 : ((t384.length : Int) != 3) = true := bne_iff_ne.mpr c28
      (first | rw [c28b0] | (simp only [i64_w, i32_w]; rw [c28b0]) | skip)
      have H' := Aside0.mk H
      clear H
      obtain ⟨Ao62, co62, eo62⟩ := Kd.R_slice HO388.out
      subst eo62
      go_wp2
      repeat (go_quiet (fail); try go_wp2)
      go_meet
      case rel => exact ⟨_, (true), (by first | rfl | (simp; done) | (simp [*]; done)), H', ⟨by first | omega | exact Nat.le_refl _⟩, ⟨by (with_reducible repeat (first | apply Kd.R_alloc | apply Kd.R_drewN | apply Kd.R_drew)); exact Kd.R_mono HO361.out (fun _ hk => hk.1.1.1.2)⟩, ⟨by (with_reducible repeat (first | apply Kd.R_alloc | apply Kd.R_drewN | apply Kd.R_drew)); exact Kd.R_mono HO363.out (fun _ hk => trivial)⟩, ⟨by (with_reducible repeat (first | apply Kd.R_alloc | apply Kd.R_drewN | apply Kd.R_drew)); exact Kd.R_mono HO368.out (fun _ hk => trivial)⟩, ⟨by (with_reducible repeat (first | apply Kd.R_alloc | apply Kd.R_drewN | apply Kd.R_drew)); exact Kd.R_mono HO370.out (fun _ hk => hk.1.1.1.2)⟩, ⟨by repeat (first | (with_reducible first | exact HB.out | apply below_alloc | apply pw_below_drewN | apply below_drew1) | exact HB.out)⟩⟩
    ·replace c27 := Bool.eq_false_iff.mpr c27
     subst c27
     have H1 : (laws_FnTried.j0 k t357 t358 t359 t364 t365 t366 true) = some r := by rw [if_neg (show ¬ (false = true) by decide)] at H; exact H
     clear H
     have H := H1
     clear H1
     have H' := Aside0.mk H
     clear H
     go_wp2
     repeat (go_quiet (fail); try go_wp2)
     go_meet
     case rel => exact ⟨_, (true), (by first | rfl | (simp; done) | (simp [*]; done)), H', ⟨by first | omega | exact Nat.le_refl _⟩, ⟨by (with_reducible repeat (first | apply Kd.R_alloc | apply Kd.R_drewN | apply Kd.R_drew)); exact Kd.R_mono HO361.out (fun _ hk => hk.1.1.1.2)⟩, ⟨by (with_reducible repeat (first | apply Kd.R_alloc | apply Kd.R_drewN | apply Kd.R_drew)); exact Kd.R_mono HO363.out (fun _ hk => trivial)⟩, ⟨by (with_reducible repeat (first | apply Kd.R_alloc | apply Kd.R_drewN | apply Kd.R_drew)); exact Kd.R_mono HO368.out (fun _ hk => trivial)⟩, ⟨by (with_reducible repeat (first | apply Kd.R_alloc | apply Kd.R_drewN | apply Kd.R_drew)); exact Kd.R_mono HO370.out (fun _ hk => hk.1.1.1.2)⟩, ⟨by repeat (first | (with_reducible first | exact HB.out | apply below_alloc | apply pw_below_drewN | apply below_drew1) | exact HB.out)⟩⟩
   case rest =>
    clear HC14
    try clear c2
    try clear p2
    try clear c3
    try clear p3
    try clear q3
    try clear hx3
    try clear qi3
    try clear c4
    try clear c7
    try clear c7b0
    try clear c7b1
    try clear c7b2
    try clear c27
    try clear c28
    try clear c28b0
    try clear c28b1
    try clear c29
    try clear c29b0
    try clear c29b1
    try clear q30
    try clear c31
    try clear c32
    try clear c32b0
    try clear c32b1
    try clear q33
    try clear c34
    try clear c36
    try clear c36b0
    try clear c36b1
    try clear q37
    try clear c38
    try clear p39
    try clear q39
    try clear hx39
    try clear qi39
    try clear c40
    try clear c41
    try clear c41b0
    try clear c41b1
    try clear hx391_0
    try clear hx392_0
    try clear hx393_0
    try clear p391
    try clear p392
    try clear p393
    try clear q391
    try clear q392
    try clear q393
    obtain ⟨kq, x100_13, rfl, HA, HJ13, HO_4, HO_5, HO_6, HO_7, HB⟩ := hcut
    cases kq with
    | zero => exact absurd HA.out (by simp [laws_FnTried.j0])
    | succ kj13 =>
     have H := HA.out
     clear HA
     simp only [laws_FnTried.j0] at H
     by_cases c63 : x100_13 = true
     ·subst c63
      have H1 : (some false) = some r := by rw [if_pos rfl] at H; exact H
      clear H
      have H := H1
      clear H1
      obtain rfl := Option.some.inj H
      go_wp2
      repeat (go_quiet (fail); try go_wp2)
      go_ret
      exact ⟨by first | rfl | (simp [errW_none, errW_some] <;> rfl) | (simp [*, errW_none, errW_some] <;> rfl), by repeat (first | (with_reducible first | exact HB.out | apply below_alloc | apply pw_below_drewN | apply below_drew1) | exact HB.out)⟩
     ·replace c63 := Bool.eq_false_iff.mpr c63
      subst c63
      have H1 : (laws_FnTried.l0 kj13 t357 t358 t359 t364 t365 t366 0) = some r := by rw [if_neg (show ¬ (false = true) by decide)] at H; exact H
      clear H
      have H := H1
      clear H1
      have H' := Aside0.mk H
      clear H
      go_wp2
      repeat (go_quiet (fail); try go_wp2)
      go_loopg [15] kj13 (fun kq v15 w' => ∃ (x15_2 : Int), v15 = .int .i64 x15_2 ∧ Aside0 (laws_FnTried.l0 kq t357 t358 t359 t364 t365 t366 x15_2 = some r) ∧ Aside0 (kq ≤ kj13) ∧ Aside0 (Kd.R (Kd.int .i64) 3 w' w.heap.size (fun k_ => some k_ ≠ (v369 : Value).ownBlock) (.slice Ao16 t358.length co16) t358) ∧ Aside0 (Kd.R k43 43 w' w.heap.size (fun _ => True) (.slice Ao17 t359.length co17) t359) ∧ Aside0 (Kd.R Kd.bool 4 w' w.heap.size (fun _ => True) v367 t364) ∧ Aside0 (Kd.R (Kd.int .i64) 3 w' w.heap.size (fun k_ => some k_ ≠ ((.slice Ao16 t358.length co16) : Value).ownBlock) v369 t365) ∧ Aside0 (Below w.heap.size w w'))
      case atStart => exact ⟨(0), (by first | rfl | (simp; done) | (simp [*]; done)), H', ⟨Nat.le_refl _⟩, ⟨by (with_reducible repeat (first | apply Kd.R_alloc | apply Kd.R_drewN | apply Kd.R_drew)); exact HO_4.out⟩, ⟨by (with_reducible repeat (first | apply Kd.R_alloc | apply Kd.R_drewN | apply Kd.R_drew)); exact HO_5.out⟩, ⟨by (with_reducible repeat (first | apply Kd.R_alloc | apply Kd.R_drewN | apply Kd.R_drew)); exact HO_6.out⟩, ⟨by (with_reducible repeat (first | apply Kd.R_alloc | apply Kd.R_drewN | apply Kd.R_drew)); exact HO_7.out⟩, ⟨by repeat (first | (with_reducible first | exact HB.out | apply below_alloc | apply pw_below_drewN | apply below_drew1) | exact HB.out)⟩⟩
      case round =>
       clear H'
       try clear c2
       try clear p2
       try clear c3
       try clear p3
       try clear q3
       try clear hx3
       try clear qi3
       try clear c4
       try clear c6
       try clear c7
       try clear c7b0
       try clear c7b1
       try clear c7b2
       try clear c27
       try clear c28
       try clear c28b0
       try clear c28b1
       try clear c29
       try clear c29b0
       try clear c29b1
       try clear q30
       try clear c31
       try clear c32
       try clear c32b0
       try clear c32b1
       try clear q33
       try clear c34
       try clear c36
       try clear c36b0
       try clear c36b1
       try clear q37
       try clear c38
       try clear p39
       try clear q39
       try clear hx39
       try clear qi39
       try clear c40
       try clear c41
       try clear c41b0
       try clear c41b1
       try clear c63
       try clear hx391_0
       try clear hx392_0
       try clear hx393_0
       try clear p2
       try clear p3
       try clear p39
       try clear p391
       try clear p392
       try clear p393
       try clear q3
       try clear q30
       try clear q33
       try clear q37
       try clear q39
       try clear q391
       try clear q392
       try clear q393
       obtain ⟨x15_2, rfl, HA, HK2, HO_4, HO_5, HO_6, HO_7, HB⟩ := hrel
       cases gk with
       | zero => exact absurd HA.out (by simp [laws_FnTried.l0])
       | succ k2 =>
        have H := HA.out
        clear HA
        simp only [laws_FnTried.l0] at H
        by_cases c64 : x15_2 < (t364.length : Int)
        ·rw [if_pos c64] at H
         have c64b0 : decide (x15_2 < (t364.length : Int)) = true := decide_eq_true c64
         clear c64
         by_cases c65 : 0 ≤ x15_2
         ·rw [if_pos c65] at H
          have c65b0 : decide (0 ≤ x15_2) = true := decide_eq_true c65
          clear c65
          by_cases c66 : x15_2 < (t359.length : Int)
          ·rw [if_pos c66] at H
           have c66b0 : decide (x15_2 < (t359.length : Int)) = true := decide_eq_true c66
           clear c66
           have H' := Aside0.mk H
           clear H
           obtain ⟨Ao67, co67, eo67⟩ := Kd.R_slice HO_6.out
           subst eo67
           have p398 : 0 ≤ (x15_2 : Int) := of_decide_eq_true (by first | (with_reducible assumption) | assumption)
           have q398 : x15_2 < (t359.length : Int) := of_decide_eq_true (by first | (with_reducible assumption) | assumption)
           obtain ⟨ad398, e398, hx398_0, hx398_1, hx398_2⟩ := at_T43 (Kd.R_reads' HO_5.out).2.2 x15_2 p398 q398
           cases e398
           replace p398 := eq_true p398
           replace q398 := eq_true q398
           go_wp2_with (first | ((with_reducible refine gate_dst (N := 16) rfl ?_); (try (refine gate_guard (by rfl) ?_; dsimp only)); refine box_event ?hg (N := 16) ?hd (cs := #[.int .i64 0, .int .i64 0, .int .i64 0]) (t := 43) ?hr ?_; (case hd => rfl); (case hg => rfl); (case hr => first | (go_simp; done) | (go_simp; rfl)); intro gb399 hg w68 hbox hb; have n0_ := Aside0.mk (Kd.R_below (by (with_reducible repeat (first | apply Kd.R_alloc | apply Kd.R_drewN | apply Kd.R_drew)); exact HO_4.out) hb); have n1_ := Aside0.mk (Kd.R_below (Kd.R_elderB (by (with_reducible repeat (first | apply Kd.R_alloc | apply Kd.R_drewN | apply Kd.R_drew)); exact HO_5.out) gb399 (Nat.le_of_eq hg.symm)) hb); have n2_ := Aside0.mk (Kd.R_below (by (with_reducible repeat (first | apply Kd.R_alloc | apply Kd.R_drewN | apply Kd.R_drew)); exact HO_6.out) hb); have n3_ := Aside0.mk (Kd.R_below (by (with_reducible repeat (first | apply Kd.R_alloc | apply Kd.R_drewN | apply Kd.R_drew)); exact HO_7.out) hb); have n4_ := Aside0.mk (below_step (by repeat (first | (with_reducible first | exact HB.out | apply below_alloc | apply pw_below_drewN | apply below_drew1) | exact HB.out)) hb); have n5_ := Aside0.mk (hbox); have n6_ := Aside0.mk ((by rw [hg]; exact (below_size (by repeat (first | (with_reducible first | exact HB.out | apply below_alloc | apply pw_below_drewN | apply below_drew1) | exact HB.out))) : w.heap.size ≤ gb399)); have n7_ := Aside0.mk ((by rw [hg]; exact (below_size (by repeat (first | (with_reducible first | exact HB.out | apply below_alloc | apply pw_below_drewN | apply below_drew1) | exact HB.out))) : w.heap.size ≤ gb399)); clear HO_4; clear HO_5; clear HO_6; clear HO_7; clear HB; have HO_4 := n0_; have HO_5 := n1_; have HO_6 := n2_; have HO_7 := n3_; have HB := n4_; have BK399 := n5_; have GW399 := n6_; have GE399 := n7_; clear n0_ n1_ n2_ n3_ n4_ n5_ n6_ n7_; clear hb hbox hg; have hcz69_0 : w68.cell? ⟨gb399, 0, none⟩ = some (.int .i64 0) := (blk_cell BK399.out 0).trans rfl; have hcz69_1 : w68.cell? ⟨gb399, 1, none⟩ = some (.int .i64 0) := (blk_cell BK399.out 1).trans rfl; have hcz69_2 : w68.cell? ⟨gb399, 2, none⟩ = some (.int .i64 0) := (blk_cell BK399.out 2).trans rfl; have hfz69_0 := blk_frozen BK399.out 0; have hfz69_1 := blk_frozen BK399.out 1; have hfz69_2 := blk_frozen BK399.out 2))
           repeat (go_quiet (first | ((with_reducible refine gate_dst (N := 16) rfl ?_); (try (refine gate_guard (by rfl) ?_; dsimp only)); refine box_event ?hg (N := 16) ?hd (cs := #[.int .i64 0, .int .i64 0, .int .i64 0]) (t := 43) ?hr ?_; (case hd => rfl); (case hg => rfl); (case hr => first | (go_simp; done) | (go_simp; rfl)); intro gb399 hg w68 hbox hb; have n0_ := Aside0.mk (Kd.R_below (by (with_reducible repeat (first | apply Kd.R_alloc | apply Kd.R_drewN | apply Kd.R_drew)); exact HO_4.out) hb); have n1_ := Aside0.mk (Kd.R_below (Kd.R_elderB (by (with_reducible repeat (first | apply Kd.R_alloc | apply Kd.R_drewN | apply Kd.R_drew)); exact HO_5.out) gb399 (Nat.le_of_eq hg.symm)) hb); have n2_ := Aside0.mk (Kd.R_below (by (with_reducible repeat (first | apply Kd.R_alloc | apply Kd.R_drewN | apply Kd.R_drew)); exact HO_6.out) hb); have n3_ := Aside0.mk (Kd.R_below (by (with_reducible repeat (first | apply Kd.R_alloc | apply Kd.R_drewN | apply Kd.R_drew)); exact HO_7.out) hb); have n4_ := Aside0.mk (below_step (by repeat (first | (with_reducible first | exact HB.out | apply below_alloc | apply pw_below_drewN | apply below_drew1) | exact HB.out)) hb); have n5_ := Aside0.mk (hbox); have n6_ := Aside0.mk ((by rw [hg]; exact (below_size (by repeat (first | (with_reducible first | exact HB.out | apply below_alloc | apply pw_below_drewN | apply below_drew1) | exact HB.out))) : w.heap.size ≤ gb399)); have n7_ := Aside0.mk ((by rw [hg]; exact (below_size (by repeat (first | (with_reducible first | exact HB.out | apply below_alloc | apply pw_below_drewN | apply below_drew1) | exact HB.out))) : w.heap.size ≤ gb399)); clear HO_4; clear HO_5; clear HO_6; clear HO_7; clear HB; have HO_4 := n0_; have HO_5 := n1_; have HO_6 := n2_; have HO_7 := n3_; have HB := n4_; have BK399 := n5_; have GW399 := n6_; have GE399 := n7_; clear n0_ n1_ n2_ n3_ n4_ n5_ n6_ n7_; clear hb hbox hg; have hcz69_0 : w68.cell? ⟨gb399, 0, none⟩ = some (.int .i64 0) := (blk_cell BK399.out 0).trans rfl; have hcz69_1 : w68.cell? ⟨gb399, 1, none⟩ = some (.int .i64 0) := (blk_cell BK399.out 1).trans rfl; have hcz69_2 : w68.cell? ⟨gb399, 2, none⟩ = some (.int .i64 0) := (blk_cell BK399.out 2).trans rfl; have hfz69_0 := blk_frozen BK399.out 0; have hfz69_1 := blk_frozen BK399.out 1; have hfz69_2 := blk_frozen BK399.out 2)); try go_wp2_with (first | ((with_reducible refine gate_dst (N := 16) rfl ?_); (try (refine gate_guard (by rfl) ?_; dsimp only)); refine box_event ?hg (N := 16) ?hd (cs := #[.int .i64 0, .int .i64 0, .int .i64 0]) (t := 43) ?hr ?_; (case hd => rfl); (case hg => rfl); (case hr => first | (go_simp; done) | (go_simp; rfl)); intro gb399 hg w68 hbox hb; have n0_ := Aside0.mk (Kd.R_below (by (with_reducible repeat (first | apply Kd.R_alloc | apply Kd.R_drewN | apply Kd.R_drew)); exact HO_4.out) hb); have n1_ := Aside0.mk (Kd.R_below (Kd.R_elderB (by (with_reducible repeat (first | apply Kd.R_alloc | apply Kd.R_drewN | apply Kd.R_drew)); exact HO_5.out) gb399 (Nat.le_of_eq hg.symm)) hb); have n2_ := Aside0.mk (Kd.R_below (by (with_reducible repeat (first | apply Kd.R_alloc | apply Kd.R_drewN | apply Kd.R_drew)); exact HO_6.out) hb); have n3_ := Aside0.mk (Kd.R_below (by (with_reducible repeat (first | apply Kd.R_alloc | apply Kd.R_drewN | apply Kd.R_drew)); exact HO_7.out) hb); have n4_ := Aside0.mk (below_step (by repeat (first | (with_reducible first | exact HB.out | apply below_alloc | apply pw_below_drewN | apply below_drew1) | exact HB.out)) hb); have n5_ := Aside0.mk (hbox); have n6_ := Aside0.mk ((by rw [hg]; exact (below_size (by repeat (first | (with_reducible first | exact HB.out | apply below_alloc | apply pw_below_drewN | apply below_drew1) | exact HB.out))) : w.heap.size ≤ gb399)); have n7_ := Aside0.mk ((by rw [hg]; exact (below_size (by repeat (first | (with_reducible first | exact HB.out | apply below_alloc | apply pw_below_drewN | apply below_drew1) | exact HB.out))) : w.heap.size ≤ gb399)); clear HO_4; clear HO_5; clear HO_6; clear HO_7; clear HB; have HO_4 := n0_; have HO_5 := n1_; have HO_6 := n2_; have HO_7 := n3_; have HB := n4_; have BK399 := n5_; have GW399 := n6_; have GE399 := n7_; clear n0_ n1_ n2_ n3_ n4_ n5_ n6_ n7_; clear hb hbox hg; have hcz69_0 : w68.cell? ⟨gb399, 0, none⟩ = some (.int .i64 0) := (blk_cell BK399.out 0).trans rfl; have hcz69_1 : w68.cell? ⟨gb399, 1, none⟩ = some (.int .i64 0) := (blk_cell BK399.out 1).trans rfl; have hcz69_2 : w68.cell? ⟨gb399, 2, none⟩ = some (.int .i64 0) := (blk_cell BK399.out 2).trans rfl; have hfz69_0 := blk_frozen BK399.out 0; have hfz69_1 := blk_frozen BK399.out 1; have hfz69_2 := blk_frozen BK399.out 2)))
           go_loopg [17, 18] k2 (fun kq v17 v18 w' => ∃ (x17_3 : Int) (x18_3 : Int), v17 = .int .i64 x17_3 ∧ v18 = .int .i64 x18_3 ∧ Aside0 (laws_FnTried.l1 kq t357 t358 t359 t364 t365 t366 x15_2 x17_3 x18_3 ((rd_T43 t359 x15_2).f0) ((rd_T43 t359 x15_2).f1) ((rd_T43 t359 x15_2).f2) = some r) ∧ Aside0 (kq ≤ k2) ∧ Aside0 (Kd.R (Kd.int .i64) 3 w' w.heap.size (fun k_ => some k_ ≠ (v369 : Value).ownBlock) (.slice Ao16 t358.length co16) t358) ∧ Aside0 (Kd.R k43 43 w' w.heap.size (fun k_ => k_ ≠ gb399) (.slice (some ad398) t359.length co17) t359) ∧ Aside0 (Kd.R Kd.bool 4 w' w.heap.size (fun _ => True) (.slice Ao67 t364.length co67) t364) ∧ Aside0 (Kd.R (Kd.int .i64) 3 w' w.heap.size (fun k_ => some k_ ≠ ((.slice Ao16 t358.length co16) : Value).ownBlock) v369 t365) ∧ Aside0 (w'.heap[gb399]? = some (.cells #[.int .i64 ((rd_T43 t359 x15_2).f0), .int .i64 ((rd_T43 t359 x15_2).f1), .int .i64 ((rd_T43 t359 x15_2).f2)] 43 (0, 0))) ∧ Aside0 (Below w.heap.size w w'))
           case atStart => exact ⟨(0), (0), (by first | rfl | (simp; done) | (simp [*]; done)), (by first | rfl | (simp; done) | (simp [*]; done)), H', ⟨Nat.le_refl _⟩, ⟨by (with_reducible repeat (first | apply Kd.R_alloc | apply Kd.R_drewN | apply Kd.R_drew)); exact Kd.R_mono (Kd.R_far (p := ⟨gb399, 2, none⟩) (Kd.R_far (p := ⟨gb399, 1, none⟩) (Kd.R_far (p := ⟨gb399, 0, none⟩) (Kd.R_types HO_4.out BK399.out (by decide)) (fun _ hk => hk.2) (.int .i64 ((rd_T43 t359 x15_2).f0))) (fun _ hk => hk.2) (.int .i64 ((rd_T43 t359 x15_2).f1))) (fun _ hk => hk.2) (.int .i64 ((rd_T43 t359 x15_2).f2))) (fun _ hk => hk.1)⟩, ⟨by (with_reducible repeat (first | apply Kd.R_alloc | apply Kd.R_drewN | apply Kd.R_drew)); exact Kd.R_mono (Kd.R_far (p := ⟨gb399, 2, none⟩) (Kd.R_far (p := ⟨gb399, 1, none⟩) (Kd.R_far (p := ⟨gb399, 0, none⟩) (Kd.R_mono HO_5.out (fun k_ hk => (⟨hk, hk.2⟩ : _ ∧ k_ ≠ gb399))) (fun _ hk => hk.2) (.int .i64 ((rd_T43 t359 x15_2).f0))) (fun _ hk => hk.2) (.int .i64 ((rd_T43 t359 x15_2).f1))) (fun _ hk => hk.2) (.int .i64 ((rd_T43 t359 x15_2).f2))) (fun _ hk => hk.1.2)⟩, ⟨by (with_reducible repeat (first | apply Kd.R_alloc | apply Kd.R_drewN | apply Kd.R_drew)); exact Kd.R_mono (Kd.R_far (p := ⟨gb399, 2, none⟩) (Kd.R_far (p := ⟨gb399, 1, none⟩) (Kd.R_far (p := ⟨gb399, 0, none⟩) (Kd.R_types HO_6.out BK399.out (by decide)) (fun _ hk => hk.2) (.int .i64 ((rd_T43 t359 x15_2).f0))) (fun _ hk => hk.2) (.int .i64 ((rd_T43 t359 x15_2).f1))) (fun _ hk => hk.2) (.int .i64 ((rd_T43 t359 x15_2).f2))) (fun _ hk => trivial)⟩, ⟨by (with_reducible repeat (first | apply Kd.R_alloc | apply Kd.R_drewN | apply Kd.R_drew)); exact Kd.R_mono (Kd.R_far (p := ⟨gb399, 2, none⟩) (Kd.R_far (p := ⟨gb399, 1, none⟩) (Kd.R_far (p := ⟨gb399, 0, none⟩) (Kd.R_types HO_7.out BK399.out (by decide)) (fun _ hk => hk.2) (.int .i64 ((rd_T43 t359 x15_2).f0))) (fun _ hk => hk.2) (.int .i64 ((rd_T43 t359 x15_2).f1))) (fun _ hk => hk.2) (.int .i64 ((rd_T43 t359 x15_2).f2))) (fun _ hk => hk.1)⟩, ⟨by (with_reducible repeat (first | refine blk_drewN ?_ _ | refine blk_drew ?_ | refine blk_alloc ?_ _)); refine blk_put (cs := #[.int .i64 ((rd_T43 t359 x15_2).f0), .int .i64 ((rd_T43 t359 x15_2).f1), .int .i64 0]) ?_ 2 _ rfl; (with_reducible repeat (first | refine blk_drewN ?_ _ | refine blk_drew ?_ | refine blk_alloc ?_ _)); refine blk_put (cs := #[.int .i64 ((rd_T43 t359 x15_2).f0), .int .i64 0, .int .i64 0]) ?_ 1 _ rfl; (with_reducible repeat (first | refine blk_drewN ?_ _ | refine blk_drew ?_ | refine blk_alloc ?_ _)); refine blk_put (cs := #[.int .i64 0, .int .i64 0, .int .i64 0]) ?_ 0 _ rfl; (with_reducible repeat (first | refine blk_drewN ?_ _ | refine blk_drew ?_ | refine blk_alloc ?_ _)); exact BK399.out⟩, ⟨by repeat (first | (with_reducible first | exact HB.out | apply below_alloc | apply pw_below_drewN | apply below_drew1 | refine below_set ?_ GE399.out) | exact HB.out)⟩⟩
           case round =>
            clear H'
            try clear c2
            try clear p2
            try clear c3
            try clear p3
            try clear q3
            try clear hx3
            try clear qi3
            try clear c4
            try clear c6
            try clear c7
            try clear c7b0
            try clear c7b1
            try clear c7b2
            try clear c27
            try clear c28
            try clear c28b0
            try clear c28b1
            try clear c29
            try clear c29b0
            try clear c29b1
            try clear q30
            try clear c31
            try clear c32
            try clear c32b0
            try clear c32b1
            try clear q33
            try clear c34
            try clear c36
            try clear c36b0
            try clear c36b1
            try clear q37
            try clear c38
            try clear p39
            try clear q39
            try clear hx39
            try clear qi39
            try clear c40
            try clear c41
            try clear c41b0
            try clear c41b1
            try clear c63
            try clear c64
            try clear c64b0
            try clear c65
            try clear c65b0
            try clear c66
            try clear c66b0
            try clear hcz69_0
            try clear hcz69_1
            try clear hcz69_2
            try clear hfz69_0
            try clear hfz69_1
            try clear hfz69_2
            try clear hx391_0
            try clear hx392_0
            try clear hx393_0
            try clear hx398_0
            try clear hx398_1
            try clear hx398_2
            try clear p2
            try clear p3
            try clear p39
            try clear p391
            try clear p392
            try clear p393
            try clear p398
            try clear q3
            try clear q30
            try clear q33
            try clear q37
            try clear q39
            try clear q391
            try clear q392
            try clear q393
            try clear q398
            obtain ⟨x17_3, x18_3, rfl, rfl, HA, HK3, HO_4, HO_5, HO_6, HO_7, BK399, HB⟩ := hrel
            cases gk with
            | zero => exact absurd HA.out (by simp [laws_FnTried.l1])
            | succ k3 =>
             have H := HA.out
             clear HA
             simp only [laws_FnTried.l1] at H
             by_cases c70 : x18_3 < x15_2
             ·rw [if_pos c70] at H
              have c70b0 : decide (x18_3 < x15_2) = true := decide_eq_true c70
              clear c70
              by_cases c71 : 0 ≤ x18_3
              ·rw [if_pos c71] at H
               have c71b0 : decide (0 ≤ x18_3) = true := decide_eq_true c71
               clear c71
               by_cases c72 : x18_3 < (t364.length : Int)
               ·rw [if_pos c72] at H
                have c72b0 : decide (x18_3 < (t364.length : Int)) = true := decide_eq_true c72
                clear c72
                obtain ⟨bq73, hbq73⟩ : ∃ b_ : Bool, b_ = (rdOf false t364 x18_3) := ⟨_, rfl⟩
                replace H : (if bq73 = true then (if x18_3 < (t359.length : Int) then (if (wrap64 (((rd_T43 t359 x18_3).f0) + ((rd_T43 t359 x18_3).f1))) > ((rd_T43 t359 x15_2).f0) then (laws_FnTried.l1 k3 t357 t358 t359 t364 t365 t366 x15_2 (wrap64 (x17_3 + 1)) (wrap64 (x18_3 + 1)) ((rd_T43 t359 x15_2).f0) ((rd_T43 t359 x15_2).f1) ((rd_T43 t359 x15_2).f2)) else (laws_FnTried.l1 k3 t357 t358 t359 t364 t365 t366 x15_2 x17_3 (wrap64 (x18_3 + 1)) ((rd_T43 t359 x15_2).f0) ((rd_T43 t359 x15_2).f1) ((rd_T43 t359 x15_2).f2))) else (none)) else (laws_FnTried.l1 k3 t357 t358 t359 t364 t365 t366 x15_2 x17_3 (wrap64 (x18_3 + 1)) ((rd_T43 t359 x15_2).f0) ((rd_T43 t359 x15_2).f1) ((rd_T43 t359 x15_2).f2))) = some r := by rw [← hbq73] at H; exact H
                have Nbq73 := Aside0.mk hbq73
                clear hbq73
                by_cases c74 : bq73 = true
                ·subst c74
                 have H1 : (if x18_3 < (t359.length : Int) then (if (wrap64 (((rd_T43 t359 x18_3).f0) + ((rd_T43 t359 x18_3).f1))) > ((rd_T43 t359 x15_2).f0) then (laws_FnTried.l1 k3 t357 t358 t359 t364 t365 t366 x15_2 (wrap64 (x17_3 + 1)) (wrap64 (x18_3 + 1)) ((rd_T43 t359 x15_2).f0) ((rd_T43 t359 x15_2).f1) ((rd_T43 t359 x15_2).f2)) else (laws_FnTried.l1 k3 t357 t358 t359 t364 t365 t366 x15_2 x17_3 (wrap64 (x18_3 + 1)) ((rd_T43 t359 x15_2).f0) ((rd_T43 t359 x15_2).f1) ((rd_T43 t359 x15_2).f2))) else (none)) = some r := by rw [if_pos rfl] at H; exact H
                 clear H
                 have H := H1
                 clear H1
                 by_cases c75 : x18_3 < (t359.length : Int)
                 ·rw [if_pos c75] at H
                  have c75b0 : decide (x18_3 < (t359.length : Int)) = true := decide_eq_true c75
                  clear c75
                  by_cases c76 : (wrap64 (((rd_T43 t359 x18_3).f0) + ((rd_T43 t359 x18_3).f1))) > ((rd_T43 t359 x15_2).f0)
                  ·rw [if_pos c76] at H
                   have c76b0 : decide (((rd_T43 t359 x15_2).f0) < (wrap64 (((rd_T43 t359 x18_3).f0) + ((rd_T43 t359 x18_3).f1)))) = true := decide_eq_true c76
                   clear c76
                   have H' := Aside0.mk H
                   clear H
                   have p400 : 0 ≤ (x18_3 : Int) := of_decide_eq_true (by first | (with_reducible assumption) | assumption)
                   have q400 : x18_3 < (t364.length : Int) := of_decide_eq_true (by first | (with_reducible assumption) | assumption)
                   obtain ⟨ad400, e400, hx400_0⟩ := Kd.at_bool (Kd.R_reads' HO_6.out).2.2 x18_3 p400 q400
                   (try rw [← Nbq73.out] at hx400_0)
                   cases e400
                   replace p400 := eq_true p400
                   replace q400 := eq_true q400
                   have p401 : 0 ≤ (x18_3 : Int) := of_decide_eq_true (by first | (with_reducible assumption) | assumption)
                   have q401 : x18_3 < (t359.length : Int) := of_decide_eq_true (by first | (with_reducible assumption) | assumption)
                   obtain ⟨ad401, e401, hx401_0, hx401_1, hx401_2⟩ := at_T43 (Kd.R_reads' HO_5.out).2.2 x18_3 p401 q401
                   obtain rfl : ad398 = ad401 := (by injection e401)
                   replace p401 := eq_true p401
                   replace q401 := eq_true q401
                   have p402 : 0 ≤ (x18_3 : Int) := of_decide_eq_true (by first | (with_reducible assumption) | assumption)
                   have q402 : x18_3 < (t359.length : Int) := of_decide_eq_true (by first | (with_reducible assumption) | assumption)
                   obtain ⟨ad402, e402, hx402_0, hx402_1, hx402_2⟩ := at_T43 (Kd.R_reads' HO_5.out).2.2 x18_3 p402 q402
                   obtain rfl : ad398 = ad402 := (by injection e402)
                   replace p402 := eq_true p402
                   replace q402 := eq_true q402
                   have hcz77_0 : wr.cell? ⟨gb399, 0, none⟩ = some (.int .i64 ((rd_T43 t359 x15_2).f0)) := (blk_cell BK399.out 0).trans rfl
                   have hcz77_1 : wr.cell? ⟨gb399, 1, none⟩ = some (.int .i64 ((rd_T43 t359 x15_2).f1)) := (blk_cell BK399.out 1).trans rfl
                   have hcz77_2 : wr.cell? ⟨gb399, 2, none⟩ = some (.int .i64 ((rd_T43 t359 x15_2).f2)) := (blk_cell BK399.out 2).trans rfl
                   have hfz77_0 := blk_frozen BK399.out 0
                   have hfz77_1 := blk_frozen BK399.out 1
                   have hfz77_2 := blk_frozen BK399.out 2
                   go_wp2
                   repeat (go_quiet (fail); try go_wp2)
                   go_roundg k3
                   case measure => have := HJ13.out; have := HK2.out; have := HK3.out; omega
                   case rel => exact ⟨(wrap64 (x17_3 + 1)), (wrap64 (x18_3 + 1)), (by first | rfl | (simp; done) | (simp [*]; done)), (by first | rfl | (simp; done) | (simp [*]; done)), H', ⟨by have := HJ13.out; have := HK2.out; have := HK3.out; omega⟩, ⟨by (with_reducible repeat (first | apply Kd.R_alloc | apply Kd.R_drewN | apply Kd.R_drew)); exact HO_4.out⟩, ⟨by (with_reducible repeat (first | apply Kd.R_alloc | apply Kd.R_drewN | apply Kd.R_drew)); exact HO_5.out⟩, ⟨by (with_reducible repeat (first | apply Kd.R_alloc | apply Kd.R_drewN | apply Kd.R_drew)); exact HO_6.out⟩, ⟨by (with_reducible repeat (first | apply Kd.R_alloc | apply Kd.R_drewN | apply Kd.R_drew)); exact HO_7.out⟩, ⟨by (with_reducible repeat (first | refine blk_drewN ?_ _ | refine blk_drew ?_ | refine blk_alloc ?_ _)); exact BK399.out⟩, ⟨by repeat (first | (with_reducible first | exact HB.out | apply below_alloc | apply pw_below_drewN | apply below_drew1 | refine below_set ?_ GE399.out) | exact HB.out)⟩⟩
                  ·rw [if_neg c76] at H
                   have c76b0 : decide (((rd_T43 t359 x15_2).f0) < (wrap64 (((rd_T43 t359 x18_3).f0) + ((rd_T43 t359 x18_3).f1)))) = false := decide_eq_false c76
                   clear c76
                   have H' := Aside0.mk H
                   clear H
                   have p400 : 0 ≤ (x18_3 : Int) := of_decide_eq_true (by first | (with_reducible assumption) | assumption)
                   have q400 : x18_3 < (t364.length : Int) := of_decide_eq_true (by first | (with_reducible assumption) | assumption)
                   obtain ⟨ad400, e400, hx400_0⟩ := Kd.at_bool (Kd.R_reads' HO_6.out).2.2 x18_3 p400 q400
                   (try rw [← Nbq73.out] at hx400_0)
                   cases e400
                   replace p400 := eq_true p400
                   replace q400 := eq_true q400
                   have p401 : 0 ≤ (x18_3 : Int) := of_decide_eq_true (by first | (with_reducible assumption) | assumption)
                   have q401 : x18_3 < (t359.length : Int) := of_decide_eq_true (by first | (with_reducible assumption) | assumption)
                   obtain ⟨ad401, e401, hx401_0, hx401_1, hx401_2⟩ := at_T43 (Kd.R_reads' HO_5.out).2.2 x18_3 p401 q401
                   obtain rfl : ad398 = ad401 := (by injection e401)
                   replace p401 := eq_true p401
                   replace q401 := eq_true q401
                   have p402 : 0 ≤ (x18_3 : Int) := of_decide_eq_true (by first | (with_reducible assumption) | assumption)
                   have q402 : x18_3 < (t359.length : Int) := of_decide_eq_true (by first | (with_reducible assumption) | assumption)
                   obtain ⟨ad402, e402, hx402_0, hx402_1, hx402_2⟩ := at_T43 (Kd.R_reads' HO_5.out).2.2 x18_3 p402 q402
                   obtain rfl : ad398 = ad402 := (by injection e402)
                   replace p402 := eq_true p402
                   replace q402 := eq_true q402
                   have hcz78_0 : wr.cell? ⟨gb399, 0, none⟩ = some (.int .i64 ((rd_T43 t359 x15_2).f0)) := (blk_cell BK399.out 0).trans rfl
                   have hcz78_1 : wr.cell? ⟨gb399, 1, none⟩ = some (.int .i64 ((rd_T43 t359 x15_2).f1)) := (blk_cell BK399.out 1).trans rfl
                   have hcz78_2 : wr.cell? ⟨gb399, 2, none⟩ = some (.int .i64 ((rd_T43 t359 x15_2).f2)) := (blk_cell BK399.out 2).trans rfl
                   have hfz78_0 := blk_frozen BK399.out 0
                   have hfz78_1 := blk_frozen BK399.out 1
                   have hfz78_2 := blk_frozen BK399.out 2
                   go_wp2
                   repeat (go_quiet (fail); try go_wp2)
                   go_roundg k3
                   case measure => have := HJ13.out; have := HK2.out; have := HK3.out; omega
                   case rel => exact ⟨(x17_3), (wrap64 (x18_3 + 1)), (by first | rfl | (simp; done) | (simp [*]; done)), (by first | rfl | (simp; done) | (simp [*]; done)), H', ⟨by have := HJ13.out; have := HK2.out; have := HK3.out; omega⟩, ⟨by (with_reducible repeat (first | apply Kd.R_alloc | apply Kd.R_drewN | apply Kd.R_drew)); exact HO_4.out⟩, ⟨by (with_reducible repeat (first | apply Kd.R_alloc | apply Kd.R_drewN | apply Kd.R_drew)); exact HO_5.out⟩, ⟨by (with_reducible repeat (first | apply Kd.R_alloc | apply Kd.R_drewN | apply Kd.R_drew)); exact HO_6.out⟩, ⟨by (with_reducible repeat (first | apply Kd.R_alloc | apply Kd.R_drewN | apply Kd.R_drew)); exact HO_7.out⟩, ⟨by (with_reducible repeat (first | refine blk_drewN ?_ _ | refine blk_drew ?_ | refine blk_alloc ?_ _)); exact BK399.out⟩, ⟨by repeat (first | (with_reducible first | exact HB.out | apply below_alloc | apply pw_below_drewN | apply below_drew1 | refine below_set ?_ GE399.out) | exact HB.out)⟩⟩
                 ·rw [if_neg c75] at H
                  exact absurd H (by simp)
                ·replace c74 := Bool.eq_false_iff.mpr c74
                 subst c74
                 have H1 : (laws_FnTried.l1 k3 t357 t358 t359 t364 t365 t366 x15_2 x17_3 (wrap64 (x18_3 + 1)) ((rd_T43 t359 x15_2).f0) ((rd_T43 t359 x15_2).f1) ((rd_T43 t359 x15_2).f2)) = some r := by rw [if_neg (show ¬ (false = true) by decide)] at H; exact H
                 clear H
                 have H := H1
                 clear H1
                 have H' := Aside0.mk H
                 clear H
                 have p400 : 0 ≤ (x18_3 : Int) := of_decide_eq_true (by first | (with_reducible assumption) | assumption)
                 have q400 : x18_3 < (t364.length : Int) := of_decide_eq_true (by first | (with_reducible assumption) | assumption)
                 obtain ⟨ad400, e400, hx400_0⟩ := Kd.at_bool (Kd.R_reads' HO_6.out).2.2 x18_3 p400 q400
                 (try rw [← Nbq73.out] at hx400_0)
                 cases e400
                 replace p400 := eq_true p400
                 replace q400 := eq_true q400
                 go_wp2
                 repeat (go_quiet (fail); try go_wp2)
                 go_roundg k3
                 case measure => have := HJ13.out; have := HK2.out; have := HK3.out; omega
                 case rel => exact ⟨(x17_3), (wrap64 (x18_3 + 1)), (by first | rfl | (simp; done) | (simp [*]; done)), (by first | rfl | (simp; done) | (simp [*]; done)), H', ⟨by have := HJ13.out; have := HK2.out; have := HK3.out; omega⟩, ⟨by (with_reducible repeat (first | apply Kd.R_alloc | apply Kd.R_drewN | apply Kd.R_drew)); exact HO_4.out⟩, ⟨by (with_reducible repeat (first | apply Kd.R_alloc | apply Kd.R_drewN | apply Kd.R_drew)); exact HO_5.out⟩, ⟨by (with_reducible repeat (first | apply Kd.R_alloc | apply Kd.R_drewN | apply Kd.R_drew)); exact HO_6.out⟩, ⟨by (with_reducible repeat (first | apply Kd.R_alloc | apply Kd.R_drewN | apply Kd.R_drew)); exact HO_7.out⟩, ⟨by (with_reducible repeat (first | refine blk_drewN ?_ _ | refine blk_drew ?_ | refine blk_alloc ?_ _)); exact BK399.out⟩, ⟨by repeat (first | (with_reducible first | exact HB.out | apply below_alloc | apply pw_below_drewN | apply below_drew1 | refine below_set ?_ GE399.out) | exact HB.out)⟩⟩
               ·rw [if_neg c72] at H
                exact absurd H (by simp)
              ·rw [if_neg c71] at H
               exact absurd H (by simp)
             ·rw [if_neg c70] at H
              have c70b0 : decide (x18_3 < x15_2) = false := decide_eq_false c70
              clear c70
              by_cases c79 : 0 ≤ x15_2
              ·rw [if_pos c79] at H
               have c79b0 : decide (0 ≤ x15_2) = true := decide_eq_true c79
               clear c79
               by_cases c80 : x15_2 < (t364.length : Int)
               ·rw [if_pos c80] at H
                have c80b0 : decide (x15_2 < (t364.length : Int)) = true := decide_eq_true c80
                clear c80
                obtain ⟨bq81, hbq81⟩ : ∃ b_ : Bool, b_ = (rdOf false t364 x15_2) := ⟨_, rfl⟩
                replace H : (if bq81 = true then (if 0 ≤ ((rd_T43 t359 x15_2).f2) then (if ((rd_T43 t359 x15_2).f2) < (t358.length : Int) then (if ((bq81) != (decide ((wrap64 (t357 - x17_3)) > (rd t358 ((rd_T43 t359 x15_2).f2))))) = true then (some false) else (if x15_2 < (t365.length : Int) then (if (rd t365 x15_2) = (wrap64 (x17_3 + 1)) then (if (wrap64 (x17_3 + 1)) > t357 then (some false) else (laws_FnTried.l0 k3 t357 t358 t359 t364 t365 t366 (wrap64 (x15_2 + 1)))) else (some false)) else (none))) else (none)) else (none)) else (if 0 ≤ ((rd_T43 t359 x15_2).f2) then (if ((rd_T43 t359 x15_2).f2) < (t358.length : Int) then (if ((bq81) != (decide ((wrap64 (t357 - x17_3)) > (rd t358 ((rd_T43 t359 x15_2).f2))))) = true then (some false) else (if x15_2 < (t365.length : Int) then (if (rd t365 x15_2) = x17_3 then (if x17_3 > t357 then (some false) else (laws_FnTried.l0 k3 t357 t358 t359 t364 t365 t366 (wrap64 (x15_2 + 1)))) else (some false)) else (none))) else (none)) else (none))) = some r := by rw [← hbq81] at H; exact H
                have Nbq81 := Aside0.mk hbq81
                clear hbq81
                by_cases c82 : bq81 = true
                ·subst c82
                 have H1 : (if 0 ≤ ((rd_T43 t359 x15_2).f2) then (if ((rd_T43 t359 x15_2).f2) < (t358.length : Int) then (if ((true) != (decide ((wrap64 (t357 - x17_3)) > (rd t358 ((rd_T43 t359 x15_2).f2))))) = true then (some false) else (if x15_2 < (t365.length : Int) then (if (rd t365 x15_2) = (wrap64 (x17_3 + 1)) then (if (wrap64 (x17_3 + 1)) > t357 then (some false) else (laws_FnTried.l0 k3 t357 t358 t359 t364 t365 t366 (wrap64 (x15_2 + 1)))) else (some false)) else (none))) else (none)) else (none)) = some r := by rw [if_pos rfl] at H; exact H
                 clear H
                 have H := H1
                 clear H1
                 by_cases c83 : 0 ≤ ((rd_T43 t359 x15_2).f2)
                 ·rw [if_pos c83] at H
                  have c83b0 : decide (0 ≤ ((rd_T43 t359 x15_2).f2)) = true := decide_eq_true c83
                  clear c83
                  by_cases c84 : ((rd_T43 t359 x15_2).f2) < (t358.length : Int)
                  ·rw [if_pos c84] at H
                   have c84b0 : decide (((rd_T43 t359 x15_2).f2) < (t358.length : Int)) = true := decide_eq_true c84
                   clear c84
                   by_cases c85 : ((true) != (decide ((wrap64 (t357 - x17_3)) > (rd t358 ((rd_T43 t359 x15_2).f2))))) = true
                   ·rw [if_pos c85] at H
                    have c85b0 : ((true) != (decide ((wrap64 (t357 - x17_3)) > (rd t358 ((rd_T43 t359 x15_2).f2))))) = true := c85
                    (try (have c85b1 : decide ((true) = (decide ((wrap64 (t357 - x17_3)) > (rd t358 ((rd_T43 t359 x15_2).f2))))) = false := by simpa using c85))
                    (try (have c85b2 : ((true) == (decide ((wrap64 (t357 - x17_3)) > (rd t358 ((rd_T43 t359 x15_2).f2))))) = false := by simpa using c85))
                    (try (have c85b3 : ¬ ((true) = (decide ((wrap64 (t357 - x17_3)) > (rd t358 ((rd_T43 t359 x15_2).f2))))) := by simpa using c85))
                    clear c85
                    obtain rfl := Option.some.inj H
                    have p403 : 0 ≤ (x15_2 : Int) := of_decide_eq_true (by first | (with_reducible assumption) | assumption)
                    have q403 : x15_2 < (t364.length : Int) := of_decide_eq_true (by first | (with_reducible assumption) | assumption)
                    obtain ⟨ad403, e403, hx403_0⟩ := Kd.at_bool (Kd.R_reads' HO_6.out).2.2 x15_2 p403 q403
                    (try rw [← Nbq81.out] at hx403_0)
                    cases e403
                    replace p403 := eq_true p403
                    replace q403 := eq_true q403
                    have p404 : 0 ≤ (x15_2 : Int) := of_decide_eq_true (by first | (with_reducible assumption) | assumption)
                    have q404 : x15_2 < (t364.length : Int) := of_decide_eq_true (by first | (with_reducible assumption) | assumption)
                    obtain ⟨ad404, e404, hx404_0⟩ := Kd.at_bool (Kd.R_reads' HO_6.out).2.2 x15_2 p404 q404
                    (try rw [← Nbq81.out] at hx404_0)
                    obtain rfl : ad403 = ad404 := (by injection e404)
                    replace p404 := eq_true p404
                    replace q404 := eq_true q404
                    have hcz86_0 : wr.cell? ⟨gb399, 0, none⟩ = some (.int .i64 ((rd_T43 t359 x15_2).f0)) := (blk_cell BK399.out 0).trans rfl
                    have hcz86_1 : wr.cell? ⟨gb399, 1, none⟩ = some (.int .i64 ((rd_T43 t359 x15_2).f1)) := (blk_cell BK399.out 1).trans rfl
                    have hcz86_2 : wr.cell? ⟨gb399, 2, none⟩ = some (.int .i64 ((rd_T43 t359 x15_2).f2)) := (blk_cell BK399.out 2).trans rfl
                    have hfz86_0 := blk_frozen BK399.out 0
                    have hfz86_1 := blk_frozen BK399.out 1
                    have hfz86_2 := blk_frozen BK399.out 2
                    have p405 : 0 ≤ (((rd_T43 t359 x15_2).f2) : Int) := of_decide_eq_true (by first | (with_reducible assumption) | assumption)
                    have q405 : ((rd_T43 t359 x15_2).f2) < (t358.length : Int) := of_decide_eq_true (by first | (with_reducible assumption) | assumption)
                    obtain ⟨ad405, e405, hx405_0⟩ := Kd.at_int (Kd.R_reads' HO_4.out).2.2 ((rd_T43 t359 x15_2).f2) p405 q405
                    cases e405
                    replace p405 := eq_true p405
                    replace q405 := eq_true q405
                    go_wp2
                    repeat (go_quiet (fail); try go_wp2)
                    go_ret
                    exact ⟨by first | rfl | (simp [errW_none, errW_some] <;> rfl) | (simp [*, errW_none, errW_some] <;> rfl), by repeat (first | (with_reducible first | exact HB.out | apply below_alloc | apply pw_below_drewN | apply below_drew1 | refine below_set ?_ GE399.out) | exact HB.out)⟩
                   ·rw [if_neg c85] at H
                    have c85b0 : ((true) != (decide ((wrap64 (t357 - x17_3)) > (rd t358 ((rd_T43 t359 x15_2).f2))))) = false := by simpa using c85
                    (try (have c85b1 : decide ((true) = (decide ((wrap64 (t357 - x17_3)) > (rd t358 ((rd_T43 t359 x15_2).f2))))) = true := by simpa using c85))
                    (try (have c85b2 : ((true) == (decide ((wrap64 (t357 - x17_3)) > (rd t358 ((rd_T43 t359 x15_2).f2))))) = true := by simpa using c85))
                    clear c85
                    by_cases c87 : x15_2 < (t365.length : Int)
                    ·rw [if_pos c87] at H
                     have c87b0 : decide (x15_2 < (t365.length : Int)) = true := decide_eq_true c87
                     clear c87
                     by_cases c88 : (rd t365 x15_2) = (wrap64 (x17_3 + 1))
                     ·rw [if_pos c88] at H
                      have c88b0 : ((rd t365 x15_2) == (wrap64 (x17_3 + 1))) = true := beq_iff_eq.mpr c88
                      have c88b1 : ((rd t365 x15_2) != (wrap64 (x17_3 + 1))) = false := bne_eq_false_iff_eq.mpr c88
                      clear c88
                      by_cases c89 : (wrap64 (x17_3 + 1)) > t357
                      ·rw [if_pos c89] at H
                       have c89b0 : decide (t357 < (wrap64 (x17_3 + 1))) = true := decide_eq_true c89
                       clear c89
                       obtain rfl := Option.some.inj H
                       have p403 : 0 ≤ (x15_2 : Int) := of_decide_eq_true (by first | (with_reducible assumption) | assumption)
                       have q403 : x15_2 < (t364.length : Int) := of_decide_eq_true (by first | (with_reducible assumption) | assumption)
                       obtain ⟨ad403, e403, hx403_0⟩ := Kd.at_bool (Kd.R_reads' HO_6.out).2.2 x15_2 p403 q403
                       (try rw [← Nbq81.out] at hx403_0)
                       cases e403
                       replace p403 := eq_true p403
                       replace q403 := eq_true q403
                       have p404 : 0 ≤ (x15_2 : Int) := of_decide_eq_true (by first | (with_reducible assumption) | assumption)
                       have q404 : x15_2 < (t364.length : Int) := of_decide_eq_true (by first | (with_reducible assumption) | assumption)
                       obtain ⟨ad404, e404, hx404_0⟩ := Kd.at_bool (Kd.R_reads' HO_6.out).2.2 x15_2 p404 q404
                       (try rw [← Nbq81.out] at hx404_0)
                       obtain rfl : ad403 = ad404 := (by injection e404)
                       replace p404 := eq_true p404
                       replace q404 := eq_true q404
                       have hcz90_0 : wr.cell? ⟨gb399, 0, none⟩ = some (.int .i64 ((rd_T43 t359 x15_2).f0)) := (blk_cell BK399.out 0).trans rfl
                       have hcz90_1 : wr.cell? ⟨gb399, 1, none⟩ = some (.int .i64 ((rd_T43 t359 x15_2).f1)) := (blk_cell BK399.out 1).trans rfl
                       have hcz90_2 : wr.cell? ⟨gb399, 2, none⟩ = some (.int .i64 ((rd_T43 t359 x15_2).f2)) := (blk_cell BK399.out 2).trans rfl
                       have hfz90_0 := blk_frozen BK399.out 0
                       have hfz90_1 := blk_frozen BK399.out 1
                       have hfz90_2 := blk_frozen BK399.out 2
                       have p405 : 0 ≤ (((rd_T43 t359 x15_2).f2) : Int) := of_decide_eq_true (by first | (with_reducible assumption) | assumption)
                       have q405 : ((rd_T43 t359 x15_2).f2) < (t358.length : Int) := of_decide_eq_true (by first | (with_reducible assumption) | assumption)
                       obtain ⟨ad405, e405, hx405_0⟩ := Kd.at_int (Kd.R_reads' HO_4.out).2.2 ((rd_T43 t359 x15_2).f2) p405 q405
                       cases e405
                       replace p405 := eq_true p405
                       replace q405 := eq_true q405
                       obtain ⟨Ao91, co91, eo91⟩ := Kd.R_slice HO_7.out
                       subst eo91
                       have p406 : 0 ≤ (x15_2 : Int) := of_decide_eq_true (by first | (with_reducible assumption) | assumption)
                       have q406 : x15_2 < (t365.length : Int) := of_decide_eq_true (by first | (with_reducible assumption) | assumption)
                       obtain ⟨ad406, e406, hx406_0⟩ := Kd.at_int (Kd.R_reads' HO_7.out).2.2 x15_2 p406 q406
                       cases e406
                       replace p406 := eq_true p406
                       replace q406 := eq_true q406
                       go_wp2
                       repeat (go_quiet (fail); try go_wp2)
                       go_ret
                       exact ⟨by first | rfl | (simp [errW_none, errW_some] <;> rfl) | (simp [*, errW_none, errW_some] <;> rfl), by repeat (first | (with_reducible first | exact HB.out | apply below_alloc | apply pw_below_drewN | apply below_drew1 | refine below_set ?_ GE399.out) | exact HB.out)⟩
                      ·rw [if_neg c89] at H
                       have c89b0 : decide (t357 < (wrap64 (x17_3 + 1))) = false := decide_eq_false c89
                       clear c89
                       have H' := Aside0.mk H
                       clear H
                       have p403 : 0 ≤ (x15_2 : Int) := of_decide_eq_true (by first | (with_reducible assumption) | assumption)
                       have q403 : x15_2 < (t364.length : Int) := of_decide_eq_true (by first | (with_reducible assumption) | assumption)
                       obtain ⟨ad403, e403, hx403_0⟩ := Kd.at_bool (Kd.R_reads' HO_6.out).2.2 x15_2 p403 q403
                       (try rw [← Nbq81.out] at hx403_0)
                       cases e403
                       replace p403 := eq_true p403
                       replace q403 := eq_true q403
                       have p404 : 0 ≤ (x15_2 : Int) := of_decide_eq_true (by first | (with_reducible assumption) | assumption)
                       have q404 : x15_2 < (t364.length : Int) := of_decide_eq_true (by first | (with_reducible assumption) | assumption)
                       obtain ⟨ad404, e404, hx404_0⟩ := Kd.at_bool (Kd.R_reads' HO_6.out).2.2 x15_2 p404 q404
                       (try rw [← Nbq81.out] at hx404_0)
                       obtain rfl : ad403 = ad404 := (by injection e404)
                       replace p404 := eq_true p404
                       replace q404 := eq_true q404
                       have hcz92_0 : wr.cell? ⟨gb399, 0, none⟩ = some (.int .i64 ((rd_T43 t359 x15_2).f0)) := (blk_cell BK399.out 0).trans rfl
                       have hcz92_1 : wr.cell? ⟨gb399, 1, none⟩ = some (.int .i64 ((rd_T43 t359 x15_2).f1)) := (blk_cell BK399.out 1).trans rfl
                       have hcz92_2 : wr.cell? ⟨gb399, 2, none⟩ = some (.int .i64 ((rd_T43 t359 x15_2).f2)) := (blk_cell BK399.out 2).trans rfl
                       have hfz92_0 := blk_frozen BK399.out 0
                       have hfz92_1 := blk_frozen BK399.out 1
                       have hfz92_2 := blk_frozen BK399.out 2
                       have p405 : 0 ≤ (((rd_T43 t359 x15_2).f2) : Int) := of_decide_eq_true (by first | (with_reducible assumption) | assumption)
                       have q405 : ((rd_T43 t359 x15_2).f2) < (t358.length : Int) := of_decide_eq_true (by first | (with_reducible assumption) | assumption)
                       obtain ⟨ad405, e405, hx405_0⟩ := Kd.at_int (Kd.R_reads' HO_4.out).2.2 ((rd_T43 t359 x15_2).f2) p405 q405
                       cases e405
                       replace p405 := eq_true p405
                       replace q405 := eq_true q405
                       obtain ⟨Ao93, co93, eo93⟩ := Kd.R_slice HO_7.out
                       subst eo93
                       have p406 : 0 ≤ (x15_2 : Int) := of_decide_eq_true (by first | (with_reducible assumption) | assumption)
                       have q406 : x15_2 < (t365.length : Int) := of_decide_eq_true (by first | (with_reducible assumption) | assumption)
                       obtain ⟨ad406, e406, hx406_0⟩ := Kd.at_int (Kd.R_reads' HO_7.out).2.2 x15_2 p406 q406
                       cases e406
                       replace p406 := eq_true p406
                       replace q406 := eq_true q406
                       go_wp2
                       repeat (go_quiet (fail); try go_wp2)
                       go_roundg k3
                       case measure => have := HJ13.out; have := HK2.out; have := HK3.out; omega
                       case rel => exact ⟨(wrap64 (x15_2 + 1)), (by first | rfl | (simp; done) | (simp [*]; done)), H', ⟨by have := HJ13.out; have := HK2.out; have := HK3.out; omega⟩, ⟨by (with_reducible repeat (first | apply Kd.R_alloc | apply Kd.R_drewN | apply Kd.R_drew)); exact HO_4.out⟩, ⟨by (with_reducible repeat (first | apply Kd.R_alloc | apply Kd.R_drewN | apply Kd.R_drew)); exact Kd.R_mono HO_5.out (fun _ hk => trivial)⟩, ⟨by (with_reducible repeat (first | apply Kd.R_alloc | apply Kd.R_drewN | apply Kd.R_drew)); exact HO_6.out⟩, ⟨by (with_reducible repeat (first | apply Kd.R_alloc | apply Kd.R_drewN | apply Kd.R_drew)); exact HO_7.out⟩, ⟨by repeat (first | (with_reducible first | exact HB.out | apply below_alloc | apply pw_below_drewN | apply below_drew1 | refine below_set ?_ GE399.out) | exact HB.out)⟩⟩
                     ·rw [if_neg c88] at H
                      have c88b0 : ((rd t365 x15_2) == (wrap64 (x17_3 + 1))) = false := beq_eq_false_iff_ne.mpr c88
                      have c88b1 : ((rd t365 x15_2) != (wrap64 (x17_3 + 1))) = true := bne_iff_ne.mpr c88
                      obtain rfl := Option.some.inj H
                      have p403 : 0 ≤ (x15_2 : Int) := of_decide_eq_true (by first | (with_reducible assumption) | assumption)
                      have q403 : x15_2 < (t364.length : Int) := of_decide_eq_true (by first | (with_reducible assumption) | assumption)
                      obtain ⟨ad403, e403, hx403_0⟩ := Kd.at_bool (Kd.R_reads' HO_6.out).2.2 x15_2 p403 q403
                      (try rw [← Nbq81.out] at hx403_0)
                      cases e403
                      replace p403 := eq_true p403
                      replace q403 := eq_true q403
                      have p404 : 0 ≤ (x15_2 : Int) := of_decide_eq_true (by first | (with_reducible assumption) | assumption)
                      have q404 : x15_2 < (t364.length : Int) := of_decide_eq_true (by first | (with_reducible assumption) | assumption)
                      obtain ⟨ad404, e404, hx404_0⟩ := Kd.at_bool (Kd.R_reads' HO_6.out).2.2 x15_2 p404 q404
                      (try rw [← Nbq81.out] at hx404_0)
                      obtain rfl : ad403 = ad404 := (by injection e404)
                      replace p404 := eq_true p404
                      replace q404 := eq_true q404
                      have hcz94_0 : wr.cell? ⟨gb399, 0, none⟩ = some (.int .i64 ((rd_T43 t359 x15_2).f0)) := (blk_cell BK399.out 0).trans rfl
                      have hcz94_1 : wr.cell? ⟨gb399, 1, none⟩ = some (.int .i64 ((rd_T43 t359 x15_2).f1)) := (blk_cell BK399.out 1).trans rfl
                      have hcz94_2 : wr.cell? ⟨gb399, 2, none⟩ = some (.int .i64 ((rd_T43 t359 x15_2).f2)) := (blk_cell BK399.out 2).trans rfl
                      have hfz94_0 := blk_frozen BK399.out 0
                      have hfz94_1 := blk_frozen BK399.out 1
                      have hfz94_2 := blk_frozen BK399.out 2
                      have p405 : 0 ≤ (((rd_T43 t359 x15_2).f2) : Int) := of_decide_eq_true (by first | (with_reducible assumption) | assumption)
                      have q405 : ((rd_T43 t359 x15_2).f2) < (t358.length : Int) := of_decide_eq_true (by first | (with_reducible assumption) | assumption)
                      obtain ⟨ad405, e405, hx405_0⟩ := Kd.at_int (Kd.R_reads' HO_4.out).2.2 ((rd_T43 t359 x15_2).f2) p405 q405
                      cases e405
                      replace p405 := eq_true p405
                      replace q405 := eq_true q405
                      obtain ⟨Ao95, co95, eo95⟩ := Kd.R_slice HO_7.out
                      subst eo95
                      have p406 : 0 ≤ (x15_2 : Int) := of_decide_eq_true (by first | (with_reducible assumption) | assumption)
                      have q406 : x15_2 < (t365.length : Int) := of_decide_eq_true (by first | (with_reducible assumption) | assumption)
                      obtain ⟨ad406, e406, hx406_0⟩ := Kd.at_int (Kd.R_reads' HO_7.out).2.2 x15_2 p406 q406
                      cases e406
                      replace p406 := eq_true p406
                      replace q406 := eq_true q406
                      go_wp2
                      repeat (go_quiet (fail); try go_wp2)
                      go_ret
                      exact ⟨by first | rfl | (simp [errW_none, errW_some] <;> rfl) | (simp [*, errW_none, errW_some] <;> rfl), by repeat (first | (with_reducible first | exact HB.out | apply below_alloc | apply pw_below_drewN | apply below_drew1 | refine below_set ?_ GE399.out) | exact HB.out)⟩
                    ·rw [if_neg c87] at H
                     exact absurd H (by simp)
                  ·rw [if_neg c84] at H
                   exact absurd H (by simp)
                 ·rw [if_neg c83] at H
                  exact absurd H (by simp)
                ·replace c82 := Bool.eq_false_iff.mpr c82
                 subst c82
                 have H1 : (if 0 ≤ ((rd_T43 t359 x15_2).f2) then (if ((rd_T43 t359 x15_2).f2) < (t358.length : Int) then (if ((false) != (decide ((wrap64 (t357 - x17_3)) > (rd t358 ((rd_T43 t359 x15_2).f2))))) = true then (some false) else (if x15_2 < (t365.length : Int) then (if (rd t365 x15_2) = x17_3 then (if x17_3 > t357 then (some false) else (laws_FnTried.l0 k3 t357 t358 t359 t364 t365 t366 (wrap64 (x15_2 + 1)))) else (some false)) else (none))) else (none)) else (none)) = some r := by rw [if_neg (show ¬ (false = true) by decide)] at H; exact H
                 clear H
                 have H := H1
                 clear H1
                 by_cases c96 : 0 ≤ ((rd_T43 t359 x15_2).f2)
                 ·rw [if_pos c96] at H
                  have c96b0 : decide (0 ≤ ((rd_T43 t359 x15_2).f2)) = true := decide_eq_true c96
                  clear c96
                  by_cases c97 : ((rd_T43 t359 x15_2).f2) < (t358.length : Int)
                  ·rw [if_pos c97] at H
                   have c97b0 : decide (((rd_T43 t359 x15_2).f2) < (t358.length : Int)) = true := decide_eq_true c97
                   clear c97
                   by_cases c98 : ((false) != (decide ((wrap64 (t357 - x17_3)) > (rd t358 ((rd_T43 t359 x15_2).f2))))) = true
                   ·rw [if_pos c98] at H
                    have c98b0 : ((false) != (decide ((wrap64 (t357 - x17_3)) > (rd t358 ((rd_T43 t359 x15_2).f2))))) = true := c98
                    (try (have c98b1 : decide ((false) = (decide ((wrap64 (t357 - x17_3)) > (rd t358 ((rd_T43 t359 x15_2).f2))))) = false := by simpa using c98))
                    (try (have c98b2 : ((false) == (decide ((wrap64 (t357 - x17_3)) > (rd t358 ((rd_T43 t359 x15_2).f2))))) = false := by simpa using c98))
                    (try (have c98b3 : ¬ ((false) = (decide ((wrap64 (t357 - x17_3)) > (rd t358 ((rd_T43 t359 x15_2).f2))))) := by simpa using c98))
                    clear c98
                    obtain rfl := Option.some.inj H
                    have p403 : 0 ≤ (x15_2 : Int) := of_decide_eq_true (by first | (with_reducible assumption) | assumption)
                    have q403 : x15_2 < (t364.length : Int) := of_decide_eq_true (by first | (with_reducible assumption) | assumption)
                    obtain ⟨ad403, e403, hx403_0⟩ := Kd.at_bool (Kd.R_reads' HO_6.out).2.2 x15_2 p403 q403
                    (try rw [← Nbq81.out] at hx403_0)
                    cases e403
                    replace p403 := eq_true p403
                    replace q403 := eq_true q403
                    have p407 : 0 ≤ (x15_2 : Int) := of_decide_eq_true (by first | (with_reducible assumption) | assumption)
                    have q407 : x15_2 < (t364.length : Int) := of_decide_eq_true (by first | (with_reducible assumption) | assumption)
                    obtain ⟨ad407, e407, hx407_0⟩ := Kd.at_bool (Kd.R_reads' HO_6.out).2.2 x15_2 p407 q407
                    (try rw [← Nbq81.out] at hx407_0)
                    obtain rfl : ad403 = ad407 := (by injection e407)
                    replace p407 := eq_true p407
                    replace q407 := eq_true q407
                    have hcz99_0 : wr.cell? ⟨gb399, 0, none⟩ = some (.int .i64 ((rd_T43 t359 x15_2).f0)) := (blk_cell BK399.out 0).trans rfl
                    have hcz99_1 : wr.cell? ⟨gb399, 1, none⟩ = some (.int .i64 ((rd_T43 t359 x15_2).f1)) := (blk_cell BK399.out 1).trans rfl
                    have hcz99_2 : wr.cell? ⟨gb399, 2, none⟩ = some (.int .i64 ((rd_T43 t359 x15_2).f2)) := (blk_cell BK399.out 2).trans rfl
                    have hfz99_0 := blk_frozen BK399.out 0
                    have hfz99_1 := blk_frozen BK399.out 1
                    have hfz99_2 := blk_frozen BK399.out 2
                    have p408 : 0 ≤ (((rd_T43 t359 x15_2).f2) : Int) := of_decide_eq_true (by first | (with_reducible assumption) | assumption)
                    have q408 : ((rd_T43 t359 x15_2).f2) < (t358.length : Int) := of_decide_eq_true (by first | (with_reducible assumption) | assumption)
                    obtain ⟨ad408, e408, hx408_0⟩ := Kd.at_int (Kd.R_reads' HO_4.out).2.2 ((rd_T43 t359 x15_2).f2) p408 q408
                    cases e408
                    replace p408 := eq_true p408
                    replace q408 := eq_true q408
                    go_wp2
                    repeat (go_quiet (fail); try go_wp2)
                    go_ret
                    exact ⟨by first | rfl | (simp [errW_none, errW_some] <;> rfl) | (simp [*, errW_none, errW_some] <;> rfl), by repeat (first | (with_reducible first | exact HB.out | apply below_alloc | apply pw_below_drewN | apply below_drew1 | refine below_set ?_ GE399.out) | exact HB.out)⟩
                   ·rw [if_neg c98] at H
                    have c98b0 : ((false) != (decide ((wrap64 (t357 - x17_3)) > (rd t358 ((rd_T43 t359 x15_2).f2))))) = false := by simpa using c98
                    (try (have c98b1 : decide ((false) = (decide ((wrap64 (t357 - x17_3)) > (rd t358 ((rd_T43 t359 x15_2).f2))))) = true := by simpa using c98))
                    (try (have c98b2 : ((false) == (decide ((wrap64 (t357 - x17_3)) > (rd t358 ((rd_T43 t359 x15_2).f2))))) = true := by simpa using c98))
                    clear c98
                    by_cases c100 : x15_2 < (t365.length : Int)
                    ·rw [if_pos c100] at H
                     have c100b0 : decide (x15_2 < (t365.length : Int)) = true := decide_eq_true c100
                     clear c100
                     by_cases c101 : (rd t365 x15_2) = x17_3
                     ·rw [if_pos c101] at H
                      have c101b0 : ((rd t365 x15_2) == x17_3) = true := beq_iff_eq.mpr c101
                      have c101b1 : ((rd t365 x15_2) != x17_3) = false := bne_eq_false_iff_eq.mpr c101
                      clear c101
                      by_cases c102 : x17_3 > t357
                      ·rw [if_pos c102] at H
                       have c102b0 : decide (t357 < x17_3) = true := decide_eq_true c102
                       clear c102
                       obtain rfl := Option.some.inj H
                       have p403 : 0 ≤ (x15_2 : Int) := of_decide_eq_true (by first | (with_reducible assumption) | assumption)
                       have q403 : x15_2 < (t364.length : Int) := of_decide_eq_true (by first | (with_reducible assumption) | assumption)
                       obtain ⟨ad403, e403, hx403_0⟩ := Kd.at_bool (Kd.R_reads' HO_6.out).2.2 x15_2 p403 q403
                       (try rw [← Nbq81.out] at hx403_0)
                       cases e403
                       replace p403 := eq_true p403
                       replace q403 := eq_true q403
                       have p407 : 0 ≤ (x15_2 : Int) := of_decide_eq_true (by first | (with_reducible assumption) | assumption)
                       have q407 : x15_2 < (t364.length : Int) := of_decide_eq_true (by first | (with_reducible assumption) | assumption)
                       obtain ⟨ad407, e407, hx407_0⟩ := Kd.at_bool (Kd.R_reads' HO_6.out).2.2 x15_2 p407 q407
                       (try rw [← Nbq81.out] at hx407_0)
                       obtain rfl : ad403 = ad407 := (by injection e407)
                       replace p407 := eq_true p407
                       replace q407 := eq_true q407
                       have hcz103_0 : wr.cell? ⟨gb399, 0, none⟩ = some (.int .i64 ((rd_T43 t359 x15_2).f0)) := (blk_cell BK399.out 0).trans rfl
                       have hcz103_1 : wr.cell? ⟨gb399, 1, none⟩ = some (.int .i64 ((rd_T43 t359 x15_2).f1)) := (blk_cell BK399.out 1).trans rfl
                       have hcz103_2 : wr.cell? ⟨gb399, 2, none⟩ = some (.int .i64 ((rd_T43 t359 x15_2).f2)) := (blk_cell BK399.out 2).trans rfl
                       have hfz103_0 := blk_frozen BK399.out 0
                       have hfz103_1 := blk_frozen BK399.out 1
                       have hfz103_2 := blk_frozen BK399.out 2
                       have p408 : 0 ≤ (((rd_T43 t359 x15_2).f2) : Int) := of_decide_eq_true (by first | (with_reducible assumption) | assumption)
                       have q408 : ((rd_T43 t359 x15_2).f2) < (t358.length : Int) := of_decide_eq_true (by first | (with_reducible assumption) | assumption)
                       obtain ⟨ad408, e408, hx408_0⟩ := Kd.at_int (Kd.R_reads' HO_4.out).2.2 ((rd_T43 t359 x15_2).f2) p408 q408
                       cases e408
                       replace p408 := eq_true p408
                       replace q408 := eq_true q408
                       obtain ⟨Ao104, co104, eo104⟩ := Kd.R_slice HO_7.out
                       subst eo104
                       have p409 : 0 ≤ (x15_2 : Int) := of_decide_eq_true (by first | (with_reducible assumption) | assumption)
                       have q409 : x15_2 < (t365.length : Int) := of_decide_eq_true (by first | (with_reducible assumption) | assumption)
                       obtain ⟨ad409, e409, hx409_0⟩ := Kd.at_int (Kd.R_reads' HO_7.out).2.2 x15_2 p409 q409
                       cases e409
                       replace p409 := eq_true p409
                       replace q409 := eq_true q409
                       go_wp2
                       repeat (go_quiet (fail); try go_wp2)
                       go_ret
                       exact ⟨by first | rfl | (simp [errW_none, errW_some] <;> rfl) | (simp [*, errW_none, errW_some] <;> rfl), by repeat (first | (with_reducible first | exact HB.out | apply below_alloc | apply pw_below_drewN | apply below_drew1 | refine below_set ?_ GE399.out) | exact HB.out)⟩
                      ·rw [if_neg c102] at H
                       have c102b0 : decide (t357 < x17_3) = false := decide_eq_false c102
                       clear c102
                       have H' := Aside0.mk H
                       clear H
                       have p403 : 0 ≤ (x15_2 : Int) := of_decide_eq_true (by first | (with_reducible assumption) | assumption)
                       have q403 : x15_2 < (t364.length : Int) := of_decide_eq_true (by first | (with_reducible assumption) | assumption)
                       obtain ⟨ad403, e403, hx403_0⟩ := Kd.at_bool (Kd.R_reads' HO_6.out).2.2 x15_2 p403 q403
                       (try rw [← Nbq81.out] at hx403_0)
                       cases e403
                       replace p403 := eq_true p403
                       replace q403 := eq_true q403
                       have p407 : 0 ≤ (x15_2 : Int) := of_decide_eq_true (by first | (with_reducible assumption) | assumption)
                       have q407 : x15_2 < (t364.length : Int) := of_decide_eq_true (by first | (with_reducible assumption) | assumption)
                       obtain ⟨ad407, e407, hx407_0⟩ := Kd.at_bool (Kd.R_reads' HO_6.out).2.2 x15_2 p407 q407
                       (try rw [← Nbq81.out] at hx407_0)
                       obtain rfl : ad403 = ad407 := (by injection e407)
                       replace p407 := eq_true p407
                       replace q407 := eq_true q407
                       have hcz105_0 : wr.cell? ⟨gb399, 0, none⟩ = some (.int .i64 ((rd_T43 t359 x15_2).f0)) := (blk_cell BK399.out 0).trans rfl
                       have hcz105_1 : wr.cell? ⟨gb399, 1, none⟩ = some (.int .i64 ((rd_T43 t359 x15_2).f1)) := (blk_cell BK399.out 1).trans rfl
                       have hcz105_2 : wr.cell? ⟨gb399, 2, none⟩ = some (.int .i64 ((rd_T43 t359 x15_2).f2)) := (blk_cell BK399.out 2).trans rfl
                       have hfz105_0 := blk_frozen BK399.out 0
                       have hfz105_1 := blk_frozen BK399.out 1
                       have hfz105_2 := blk_frozen BK399.out 2
                       have p408 : 0 ≤ (((rd_T43 t359 x15_2).f2) : Int) := of_decide_eq_true (by first | (with_reducible assumption) | assumption)
                       have q408 : ((rd_T43 t359 x15_2).f2) < (t358.length : Int) := of_decide_eq_true (by first | (with_reducible assumption) | assumption)
                       obtain ⟨ad408, e408, hx408_0⟩ := Kd.at_int (Kd.R_reads' HO_4.out).2.2 ((rd_T43 t359 x15_2).f2) p408 q408
                       cases e408
                       replace p408 := eq_true p408
                       replace q408 := eq_true q408
                       obtain ⟨Ao106, co106, eo106⟩ := Kd.R_slice HO_7.out
                       subst eo106
                       have p409 : 0 ≤ (x15_2 : Int) := of_decide_eq_true (by first | (with_reducible assumption) | assumption)
                       have q409 : x15_2 < (t365.length : Int) := of_decide_eq_true (by first | (with_reducible assumption) | assumption)
                       obtain ⟨ad409, e409, hx409_0⟩ := Kd.at_int (Kd.R_reads' HO_7.out).2.2 x15_2 p409 q409
                       cases e409
                       replace p409 := eq_true p409
                       replace q409 := eq_true q409
                       go_wp2
                       repeat (go_quiet (fail); try go_wp2)
                       go_roundg k3
                       case measure => have := HJ13.out; have := HK2.out; have := HK3.out; omega
                       case rel => exact ⟨(wrap64 (x15_2 + 1)), (by first | rfl | (simp; done) | (simp [*]; done)), H', ⟨by have := HJ13.out; have := HK2.out; have := HK3.out; omega⟩, ⟨by (with_reducible repeat (first | apply Kd.R_alloc | apply Kd.R_drewN | apply Kd.R_drew)); exact HO_4.out⟩, ⟨by (with_reducible repeat (first | apply Kd.R_alloc | apply Kd.R_drewN | apply Kd.R_drew)); exact Kd.R_mono HO_5.out (fun _ hk => trivial)⟩, ⟨by (with_reducible repeat (first | apply Kd.R_alloc | apply Kd.R_drewN | apply Kd.R_drew)); exact HO_6.out⟩, ⟨by (with_reducible repeat (first | apply Kd.R_alloc | apply Kd.R_drewN | apply Kd.R_drew)); exact HO_7.out⟩, ⟨by repeat (first | (with_reducible first | exact HB.out | apply below_alloc | apply pw_below_drewN | apply below_drew1 | refine below_set ?_ GE399.out) | exact HB.out)⟩⟩
                     ·rw [if_neg c101] at H
                      have c101b0 : ((rd t365 x15_2) == x17_3) = false := beq_eq_false_iff_ne.mpr c101
                      have c101b1 : ((rd t365 x15_2) != x17_3) = true := bne_iff_ne.mpr c101
                      obtain rfl := Option.some.inj H
                      have p403 : 0 ≤ (x15_2 : Int) := of_decide_eq_true (by first | (with_reducible assumption) | assumption)
                      have q403 : x15_2 < (t364.length : Int) := of_decide_eq_true (by first | (with_reducible assumption) | assumption)
                      obtain ⟨ad403, e403, hx403_0⟩ := Kd.at_bool (Kd.R_reads' HO_6.out).2.2 x15_2 p403 q403
                      (try rw [← Nbq81.out] at hx403_0)
                      cases e403
                      replace p403 := eq_true p403
                      replace q403 := eq_true q403
                      have p407 : 0 ≤ (x15_2 : Int) := of_decide_eq_true (by first | (with_reducible assumption) | assumption)
                      have q407 : x15_2 < (t364.length : Int) := of_decide_eq_true (by first | (with_reducible assumption) | assumption)
                      obtain ⟨ad407, e407, hx407_0⟩ := Kd.at_bool (Kd.R_reads' HO_6.out).2.2 x15_2 p407 q407
                      (try rw [← Nbq81.out] at hx407_0)
                      obtain rfl : ad403 = ad407 := (by injection e407)
                      replace p407 := eq_true p407
                      replace q407 := eq_true q407
                      have hcz107_0 : wr.cell? ⟨gb399, 0, none⟩ = some (.int .i64 ((rd_T43 t359 x15_2).f0)) := (blk_cell BK399.out 0).trans rfl
                      have hcz107_1 : wr.cell? ⟨gb399, 1, none⟩ = some (.int .i64 ((rd_T43 t359 x15_2).f1)) := (blk_cell BK399.out 1).trans rfl
                      have hcz107_2 : wr.cell? ⟨gb399, 2, none⟩ = some (.int .i64 ((rd_T43 t359 x15_2).f2)) := (blk_cell BK399.out 2).trans rfl
                      have hfz107_0 := blk_frozen BK399.out 0
                      have hfz107_1 := blk_frozen BK399.out 1
                      have hfz107_2 := blk_frozen BK399.out 2
                      have p408 : 0 ≤ (((rd_T43 t359 x15_2).f2) : Int) := of_decide_eq_true (by first | (with_reducible assumption) | assumption)
                      have q408 : ((rd_T43 t359 x15_2).f2) < (t358.length : Int) := of_decide_eq_true (by first | (with_reducible assumption) | assumption)
                      obtain ⟨ad408, e408, hx408_0⟩ := Kd.at_int (Kd.R_reads' HO_4.out).2.2 ((rd_T43 t359 x15_2).f2) p408 q408
                      cases e408
                      replace p408 := eq_true p408
                      replace q408 := eq_true q408
                      obtain ⟨Ao108, co108, eo108⟩ := Kd.R_slice HO_7.out
                      subst eo108
                      have p409 : 0 ≤ (x15_2 : Int) := of_decide_eq_true (by first | (with_reducible assumption) | assumption)
                      have q409 : x15_2 < (t365.length : Int) := of_decide_eq_true (by first | (with_reducible assumption) | assumption)
                      obtain ⟨ad409, e409, hx409_0⟩ := Kd.at_int (Kd.R_reads' HO_7.out).2.2 x15_2 p409 q409
                      cases e409
                      replace p409 := eq_true p409
                      replace q409 := eq_true q409
                      go_wp2
                      repeat (go_quiet (fail); try go_wp2)
                      go_ret
                      exact ⟨by first | rfl | (simp [errW_none, errW_some] <;> rfl) | (simp [*, errW_none, errW_some] <;> rfl), by repeat (first | (with_reducible first | exact HB.out | apply below_alloc | apply pw_below_drewN | apply below_drew1 | refine below_set ?_ GE399.out) | exact HB.out)⟩
                    ·rw [if_neg c100] at H
                     exact absurd H (by simp)
                  ·rw [if_neg c97] at H
                   exact absurd H (by simp)
                 ·rw [if_neg c96] at H
                  exact absurd H (by simp)
               ·rw [if_neg c80] at H
                exact absurd H (by simp)
              ·rw [if_neg c79] at H
               exact absurd H (by simp)
          ·rw [if_neg c66] at H
           exact absurd H (by simp)
         ·rw [if_neg c65] at H
          exact absurd H (by simp)
        ·rw [if_neg c64] at H
         have c64b0 : decide (x15_2 < (t364.length : Int)) = false := decide_eq_false c64
         clear c64
         by_cases c109 : t366 = true
         ·subst c109
          have H1 : (if (t364.length : Int) = (t359.length : Int) then (some ((t365.length : Int) == (t359.length : Int))) else (some false)) = some r := by rw [if_pos rfl] at H; exact H
          clear H
          have H := H1
          clear H1
          by_cases c110 : (t364.length : Int) = (t359.length : Int)
          ·rw [if_pos c110] at H
           have c110b0 : ((t364.length : Int) == (t359.length : Int)) = true := beq_iff_eq.mpr c110
           have c110b1 : ((t364.length : Int) != (t359.length : Int)) = false := bne_eq_false_iff_eq.mpr c110
           have c110b2 : (t364.length == t359.length) = true := by first | simpa using c110 | (simp at c110 ⊢; omega)
           clear c110
           obtain rfl := Option.some.inj H
           obtain ⟨Ao111, co111, eo111⟩ := Kd.R_slice HO_6.out
           subst eo111
           obtain ⟨Ao112, co112, eo112⟩ := Kd.R_slice HO_7.out
           subst eo112
           go_wp2
           repeat (go_quiet (fail); try go_wp2)
           go_ret
           exact ⟨by first | rfl | (simp [errW_none, errW_some] <;> rfl) | (simp [*, errW_none, errW_some] <;> rfl), by repeat (first | (with_reducible first | exact HB.out | apply below_alloc | apply pw_below_drewN | apply below_drew1) | exact HB.out)⟩
          ·rw [if_neg c110] at H
           have c110b0 : ((t364.length : Int) == (t359.length : Int)) = false := beq_eq_false_iff_ne.mpr c110
           have c110b1 : ((t364.length : Int) != (t359.length : Int)) = true := bne_iff_ne.mpr c110
           have c110b2 : (t364.length == t359.length) = false := by first | simpa using c110 | (simp at c110 ⊢; omega)
           obtain rfl := Option.some.inj H
           obtain ⟨Ao113, co113, eo113⟩ := Kd.R_slice HO_6.out
           subst eo113
           go_wp2
           repeat (go_quiet (fail); try go_wp2)
           go_ret
           exact ⟨by first | rfl | (simp [errW_none, errW_some] <;> rfl) | (simp [*, errW_none, errW_some] <;> rfl), by repeat (first | (with_reducible first | exact HB.out | apply below_alloc | apply pw_below_drewN | apply below_drew1) | exact HB.out)⟩
         ·replace c109 := Bool.eq_false_iff.mpr c109
          subst c109
          have H1 : (some true) = some r := by rw [if_neg (show ¬ (false = true) by decide)] at H; exact H
          clear H
          have H := H1
          clear H1
          obtain rfl := Option.some.inj H
          obtain ⟨Ao114, co114, eo114⟩ := Kd.R_slice HO_6.out
          subst eo114
          go_wp2
          repeat (go_quiet (fail); try go_wp2)
          go_ret
          exact ⟨by first | rfl | (simp [errW_none, errW_some] <;> rfl) | (simp [*, errW_none, errW_some] <;> rfl), by repeat (first | (with_reducible first | exact HB.out | apply below_alloc | apply pw_below_drewN | apply below_drew1) | exact HB.out)⟩

/-- THE ONE PURE STATEMENT of laws_FnTried: yours. -/
def laws_FnTried.Pure : Prop := ∀ (l0 : List Int), l0.length ≤ maxLen → l0.length * 1 ≤ 140737488351232 → (∀ x ∈ l0, (Lit.int .u8 x).wf = true) → ∃ k, laws_FnTried.f k l0 = some true
theorem laws_FnTried.walk (P : laws_FnTried.Pure) (a0 : Option Addr) (len0 cap0 : Nat) (z0 : List Int) (w : World) (w0 : (a0 = none ∧ len0 = 0 ∧ cap0 = 0 ∧ z0 = []) ∨ ∃ x, a0 = some x ∧ len0 ≤ cap0 ∧ cap0 ≤ maxLen ∧ z0.length = cap0 ∧ (∀ i, i < z0.length → w.cell? (x.add i) = some (.int .u8 (z0.getD i 0))) ∧ ∀ n ∈ z0, (Lit.int .u8 n).wf = true) (y0 : len0 * 1 ≤ 140737488351232) :
  Calls Try.prog 4 #[.slice a0 len0 cap0] w fun e w' => e = .returned (.bool true) ∧ Below w.heap.size w w' := by
 obtain ⟨l0, rfl, hr0, hm0, hw0, hc0⟩ := ReadsInt.ofRowC w0
 obtain ⟨k, h⟩ := P l0 hm0 y0 hw0
 refine (laws_FnTried.calls k _ _ l0 true w (Kd.C_of_reads (d := (0 : Int)) (h1 := fun _ => rfl) hr0) hc0 h).mono ?_
 rintro e w' ⟨rfl, hd⟩
 exact ⟨rfl, hd⟩

end Go.Proofs.Ytakafcocojjeoaa.MFnTried
