/- The functions that the law FnServed reaches, as plain functions, and that the code comes to them. Begun as a text of the print; turned by wip/mend.py. -/
import Derived.Test.YthhbeekokbcnfaaMFnServedx0
import Derived.Test.YthhbeekokbcnfaaMFnServedx2
import Derived.Test.YthhbeekokbcnfaaMFnServedx3
import Derived.Test.YthhbeekokbcnfaaMFnServedx4
import Derived.Test.YthhbeekokbcnfaaMFnServedx6
import Derived.Test.YthhbeekokbcnfaaMFnServedx7
namespace Go.Proofs.Ythhbeekokbcnfaa.MFnServed
open Go.RowKit Go.Proofs.YthhbeekokbcnfaaW.PrintWords Go.Proofs.YthhbeekokbcnfaaW.PrintLast Go.Proofs.YthhbeekokbcnfaaW.PrintMore
attribute [local go_sem] max2_int min2_int max_two min_two max_three min_three max_four min_four   -- for this text's walks alone
set_option linter.unusedVariables false
set_option linter.unusedSimpArgs false

/-! ### laws_FnServed: function 4 -/
mutual
def laws_FnServed.j0 : Nat → List (List Int) → Int → Int → List Int → Bool → Bool → Option (Bool)
  | 0, _, _, _, _, _, _ => none
  | k + 1, x3, x4, x5, x6, x7, x54 => if x54 = true then (some false) else (if x7 = true then (laws_FnServed.l0 k x3 x4 x5 x6 0) else (some ((x6.length : Int) == 0)))
def laws_FnServed.l0 : Nat → List (List Int) → Int → Int → List Int → Int → Option (Bool)
  | 0, _, _, _, _, _ => none
  | k + 1, x3, x4, x5, x6, x12 => if x12 < (x6.length : Int) then (if 0 ≤ x12 then (if (rd x6 x12) < 0 then (some false) else (if x12 < (x3.length : Int) then (if (rd x6 x12) ≥ ((rd_L1 x3 x12).length : Int) then (some false) else (if x12 > 0 then (if 0 ≤ (wrap64 (x12 - 1)) then (if (wrap64 (x12 - 1)) < (x6.length : Int) then (if (rd x6 x12) = (rd x6 (wrap64 (x12 - 1))) then (laws_FnServed.l0 k x3 x4 x5 x6 (wrap64 (x12 + 1))) else (if 0 ≤ (rd x6 x12) then (if (rd x6 x12) < ((rd_L1 x3 x12).length : Int) then (if 0 ≤ (rd x6 (wrap64 (x12 - 1))) then (if (rd x6 (wrap64 (x12 - 1))) < ((rd_L1 x3 x12).length : Int) then (if (rd (rd_L1 x3 x12) (rd x6 x12)) < (wrap64 ((rd (rd_L1 x3 x12) (rd x6 (wrap64 (x12 - 1)))) + x4)) then (some false) else (if (rd (rd_L1 x3 x12) (rd x6 x12)) ≤ (rd (rd_L1 x3 x12) (rd x6 (wrap64 (x12 - 1)))) then (some false) else (laws_FnServed.l0 k x3 x4 x5 x6 (wrap64 (x12 + 1))))) else (none)) else (none)) else (none)) else (none))) else (none)) else (none)) else (laws_FnServed.l0 k x3 x4 x5 x6 (wrap64 (x12 + 1))))) else (none))) else (none)) else ((impl_Changes.f k x6).bind fun bt379 => (if (x6.length : Int) = (x3.length : Int) then (if bt379.1 < 2 then (if bt379.2 = 0 then (some true) else (if bt379.1 ≥ 2 then (some (decide (bt379.2 ≥ x5))) else (some false))) else (if bt379.1 ≥ 2 then (some (decide (bt379.2 ≥ x5))) else (some false))) else (some false)))
end
def laws_FnServed.f (k : Nat) (l0 : List Int) : Option (Bool) := (laws_big.f l0).bind fun t331 => (if t331 = true then (some true) else ((spec_DrawServing.f k l0).bind fun bt332 => ((impl_Serving.f k bt332.1 bt332.2.1 bt332.2.2).bind fun bt337 => ((spec_Serving.f k bt332.1 bt332.2.1 bt332.2.2).bind fun bt341 => (if (bt337.2 != bt341.2) = true then (some false) else ((impl_Serving.f k (([(([(-50), (-60)] : List Int)), (([(-70), (-60)] : List Int))] : List (List Int))) 3 1).bind fun bt354 => (if bt354.2 = true then ((laws_sameInts.f k bt354.1 (([0, 1] : List Int))).bind fun t361 => (laws_FnServed.j0 k bt332.1 bt332.2.1 bt332.2.2 bt337.1 bt337.2 (!t361))) else (laws_FnServed.j0 k bt332.1 bt332.2.1 bt332.2.2 bt337.1 bt337.2 true))))))))
theorem laws_FnServed.mono_l : ∀ k, (∀ y0 y1 y2 y3 y4 y5, LeO (laws_FnServed.j0 k y0 y1 y2 y3 y4 y5) (laws_FnServed.j0 (k + 1) y0 y1 y2 y3 y4 y5)) ∧ (∀ y0 y1 y2 y3 y4, LeO (laws_FnServed.l0 k y0 y1 y2 y3 y4) (laws_FnServed.l0 (k + 1) y0 y1 y2 y3 y4))
  | 0 => ⟨fun _ _ _ _ _ _ r h => by simp [laws_FnServed.j0] at h, fun _ _ _ _ _ r h => by simp [laws_FnServed.l0] at h⟩
  | k + 1 => by
    obtain ⟨ih0, ih1⟩ := laws_FnServed.mono_l k
    refine ⟨?_, ?_⟩
    · intro y0 y1 y2 y3 y4 y5
      unfold laws_FnServed.j0
      repeat' first
      | (with_reducible exact ih0 _ _ _ _ _ _)
      | (with_reducible exact ih1 _ _ _ _ _)
      | (with_reducible exact impl_Changes.mono _ _)
      | (with_reducible exact impl_Serving.mono _ _ _ _)
      | (with_reducible exact laws_sameInts.mono _ _ _)
      | (with_reducible exact spec_DrawServing.mono _ _)
      | (with_reducible exact spec_Serving.mono _ _ _ _)
      | (with_reducible exact LeO.refl _)
      | (with_reducible exact LeO.none _)
      | (with_reducible refine LeO.ite ?_ ?_)
      | (with_reducible refine LeO.bind ?_ (fun _ => ?_))
      | exact ih0 _ _ _ _ _ _
      | exact ih1 _ _ _ _ _
      | exact impl_Changes.mono _ _
      | exact impl_Serving.mono _ _ _ _
      | exact laws_sameInts.mono _ _ _
      | exact spec_DrawServing.mono _ _
      | exact spec_Serving.mono _ _ _ _
      | exact LeO.none _
      | refine LeO.ite ?_ ?_
      | refine LeO.bind ?_ (fun _ => ?_)
    · intro y0 y1 y2 y3 y4
      unfold laws_FnServed.l0
      repeat' first
      | (with_reducible exact ih0 _ _ _ _ _ _)
      | (with_reducible exact ih1 _ _ _ _ _)
      | (with_reducible exact impl_Changes.mono _ _)
      | (with_reducible exact impl_Serving.mono _ _ _ _)
      | (with_reducible exact laws_sameInts.mono _ _ _)
      | (with_reducible exact spec_DrawServing.mono _ _)
      | (with_reducible exact spec_Serving.mono _ _ _ _)
      | (with_reducible exact LeO.refl _)
      | (with_reducible exact LeO.none _)
      | (with_reducible refine LeO.ite ?_ ?_)
      | (with_reducible refine LeO.bind ?_ (fun _ => ?_))
      | exact ih0 _ _ _ _ _ _
      | exact ih1 _ _ _ _ _
      | exact impl_Changes.mono _ _
      | exact impl_Serving.mono _ _ _ _
      | exact laws_sameInts.mono _ _ _
      | exact spec_DrawServing.mono _ _
      | exact spec_Serving.mono _ _ _ _
      | exact LeO.none _
      | refine LeO.ite ?_ ?_
      | refine LeO.bind ?_ (fun _ => ?_)
theorem laws_FnServed.mono : ∀ a0 k, LeO (laws_FnServed.f k a0) (laws_FnServed.f (k + 1) a0) := by
  intro a0 k
  obtain ⟨ih0, ih1⟩ := laws_FnServed.mono_l k
  unfold laws_FnServed.f
  repeat' first
      | (with_reducible exact ih0 _ _ _ _ _ _)
      | (with_reducible exact ih1 _ _ _ _ _)
      | (with_reducible exact impl_Changes.mono _ _)
      | (with_reducible exact impl_Serving.mono _ _ _ _)
      | (with_reducible exact laws_sameInts.mono _ _ _)
      | (with_reducible exact spec_DrawServing.mono _ _)
      | (with_reducible exact spec_Serving.mono _ _ _ _)
      | (with_reducible exact LeO.refl _)
      | (with_reducible exact LeO.none _)
      | (with_reducible refine LeO.ite ?_ ?_)
      | (with_reducible refine LeO.bind ?_ (fun _ => ?_))
      | exact ih0 _ _ _ _ _ _
      | exact ih1 _ _ _ _ _
      | exact impl_Changes.mono _ _
      | exact impl_Serving.mono _ _ _ _
      | exact laws_sameInts.mono _ _ _
      | exact spec_DrawServing.mono _ _
      | exact spec_Serving.mono _ _ _ _
      | exact LeO.none _
      | refine LeO.ite ?_ ?_
      | refine LeO.bind ?_ (fun _ => ?_)
set_option maxHeartbeats 8000000 in
set_option maxRecDepth 100000 in
theorem laws_FnServed.calls (k : Nat) (A0 : Option Addr) (c0 : Nat) (l0 : List Int) (r : Bool) (w : World) (hr0 : Kd.C (Kd.int .u8) w A0 l0.length l0) (hc0 : l0.length ≤ c0) (h : laws_FnServed.f k l0 = some r) :
    Calls Try.prog 4 #[.slice A0 l0.length c0] w fun e w' => e = .returned (.bool r) ∧ Below w.heap.size w w' := by
  have HR0 := Aside0.mk hr0
  have HC0 := Aside0.mk hc0
  clear hr0 hc0
  have HB := Aside0.mk (Below.refl w.heap.size w)
  have H : ((laws_big.f l0).bind fun t331 => (if t331 = true then (some true) else ((spec_DrawServing.f k l0).bind fun bt332 => ((impl_Serving.f k bt332.1 bt332.2.1 bt332.2.2).bind fun bt337 => ((spec_Serving.f k bt332.1 bt332.2.1 bt332.2.2).bind fun bt341 => (if (bt337.2 != bt341.2) = true then (some false) else ((impl_Serving.f k (([(([(-50), (-60)] : List Int)), (([(-70), (-60)] : List Int))] : List (List Int))) 3 1).bind fun bt354 => (if bt354.2 = true then ((laws_sameInts.f k bt354.1 (([0, 1] : List Int))).bind fun t361 => (laws_FnServed.j0 k bt332.1 bt332.2.1 bt332.2.2 bt337.1 bt337.2 (!t361))) else (laws_FnServed.j0 k bt332.1 bt332.2.1 bt332.2.2 bt337.1 bt337.2 true))))))))) = some r := h
  clear h
  replace H := Option.bind_eq_some_iff.mp H
  obtain ⟨t331, A20, H⟩ := H
  replace H : (if t331 = true then (some true) else ((spec_DrawServing.f k l0).bind fun bt332 => ((impl_Serving.f k bt332.1 bt332.2.1 bt332.2.2).bind fun bt337 => ((spec_Serving.f k bt332.1 bt332.2.1 bt332.2.2).bind fun bt341 => (if (bt337.2 != bt341.2) = true then (some false) else ((impl_Serving.f k (([(([(-50), (-60)] : List Int)), (([(-70), (-60)] : List Int))] : List (List Int))) 3 1).bind fun bt354 => (if bt354.2 = true then ((laws_sameInts.f k bt354.1 (([0, 1] : List Int))).bind fun t361 => (laws_FnServed.j0 k bt332.1 bt332.2.1 bt332.2.2 bt337.1 bt337.2 (!t361))) else (laws_FnServed.j0 k bt332.1 bt332.2.1 bt332.2.2 bt337.1 bt337.2 true)))))))) = some r := H
  have A2 := Aside0.mk A20
  clear A20
  by_cases c3 : t331 = true
  · as_aux_lemma =>
      subst c3
      have H1 : (some true) = some r := by rw [if_pos rfl] at H; exact H
      clear H
      have H := H1
      clear H1
      obtain rfl := Option.some.inj H
      go_enter Try.func4, Try.ntmps4
      go_wp2_with (first | (go_at_call 18; (with_reducible refine (laws_big.calls _ _ l0 true _ ?side1 ?side2 A2.out).mono ?_); (case side1 => repeat (first | exact HR0.out | (with_reducible refine Kd.C_alloc ?_ _) | (with_reducible refine Kd.C_drewN ?_ _) | (with_reducible refine Kd.C_drew ?_))); (case side2 => exact HC0.out); rintro e w' ⟨rfl, ⟨nd, rfl⟩⟩; (try first | exact ⟨rfl, _, World.drewN_drewN _ _ _⟩ | exact ⟨rfl, _, Eq.trans (World.drewN_drewN _ _ _) (congrArg (World.drewN _) (Nat.add_assoc _ _ _))⟩)))
      repeat (go_quiet (first | (go_at_call 18; (with_reducible refine (laws_big.calls _ _ l0 true _ ?side1 ?side2 A2.out).mono ?_); (case side1 => repeat (first | exact HR0.out | (with_reducible refine Kd.C_alloc ?_ _) | (with_reducible refine Kd.C_drewN ?_ _) | (with_reducible refine Kd.C_drew ?_))); (case side2 => exact HC0.out); rintro e w' ⟨rfl, ⟨nd, rfl⟩⟩; (try first | exact ⟨rfl, _, World.drewN_drewN _ _ _⟩ | exact ⟨rfl, _, Eq.trans (World.drewN_drewN _ _ _) (congrArg (World.drewN _) (Nat.add_assoc _ _ _))⟩))); try go_wp2_with (first | (go_at_call 18; (with_reducible refine (laws_big.calls _ _ l0 true _ ?side1 ?side2 A2.out).mono ?_); (case side1 => repeat (first | exact HR0.out | (with_reducible refine Kd.C_alloc ?_ _) | (with_reducible refine Kd.C_drewN ?_ _) | (with_reducible refine Kd.C_drew ?_))); (case side2 => exact HC0.out); rintro e w' ⟨rfl, ⟨nd, rfl⟩⟩; (try first | exact ⟨rfl, _, World.drewN_drewN _ _ _⟩ | exact ⟨rfl, _, Eq.trans (World.drewN_drewN _ _ _) (congrArg (World.drewN _) (Nat.add_assoc _ _ _))⟩))))
      go_ret
      exact ⟨by first | rfl | (simp [errW_none, errW_some] <;> rfl) | (simp [*, errW_none, errW_some] <;> rfl), by repeat (first | (with_reducible first | exact HB.out | apply below_alloc | apply pw_below_drewN | apply below_drew1) | exact HB.out)⟩
  · as_aux_lemma =>
      replace c3 := Bool.eq_false_iff.mpr c3
      subst c3
      have H1 : ((spec_DrawServing.f k l0).bind fun bt332 => ((impl_Serving.f k bt332.1 bt332.2.1 bt332.2.2).bind fun bt337 => ((spec_Serving.f k bt332.1 bt332.2.1 bt332.2.2).bind fun bt341 => (if (bt337.2 != bt341.2) = true then (some false) else ((impl_Serving.f k (([(([(-50), (-60)] : List Int)), (([(-70), (-60)] : List Int))] : List (List Int))) 3 1).bind fun bt354 => (if bt354.2 = true then ((laws_sameInts.f k bt354.1 (([0, 1] : List Int))).bind fun t361 => (laws_FnServed.j0 k bt332.1 bt332.2.1 bt332.2.2 bt337.1 bt337.2 (!t361))) else (laws_FnServed.j0 k bt332.1 bt332.2.1 bt332.2.2 bt337.1 bt337.2 true))))))) = some r := by rw [if_neg (show ¬ (false = true) by decide)] at H; exact H
      clear H
      have H := H1
      clear H1
      replace H := Option.bind_eq_some_iff.mp H
      obtain ⟨⟨t332, t333, t334⟩, A40, H⟩ := H
      replace H : ((impl_Serving.f k t332 t333 t334).bind fun bt337 => ((spec_Serving.f k t332 t333 t334).bind fun bt341 => (if (bt337.2 != bt341.2) = true then (some false) else ((impl_Serving.f k (([(([(-50), (-60)] : List Int)), (([(-70), (-60)] : List Int))] : List (List Int))) 3 1).bind fun bt354 => (if bt354.2 = true then ((laws_sameInts.f k bt354.1 (([0, 1] : List Int))).bind fun t361 => (laws_FnServed.j0 k t332 t333 t334 bt337.1 bt337.2 (!t361))) else (laws_FnServed.j0 k t332 t333 t334 bt337.1 bt337.2 true)))))) = some r := H
      have A4 := Aside0.mk A40
      clear A40
      replace H := Option.bind_eq_some_iff.mp H
      obtain ⟨⟨t337, t338⟩, A50, H⟩ := H
      replace H : ((spec_Serving.f k t332 t333 t334).bind fun bt341 => (if (t338 != bt341.2) = true then (some false) else ((impl_Serving.f k (([(([(-50), (-60)] : List Int)), (([(-70), (-60)] : List Int))] : List (List Int))) 3 1).bind fun bt354 => (if bt354.2 = true then ((laws_sameInts.f k bt354.1 (([0, 1] : List Int))).bind fun t361 => (laws_FnServed.j0 k t332 t333 t334 t337 t338 (!t361))) else (laws_FnServed.j0 k t332 t333 t334 t337 t338 true))))) = some r := H
      have A5 := Aside0.mk A50
      clear A50
      replace H := Option.bind_eq_some_iff.mp H
      obtain ⟨⟨t341, t342⟩, A60, H⟩ := H
      replace H : (if (t338 != t342) = true then (some false) else ((impl_Serving.f k (([(([(-50), (-60)] : List Int)), (([(-70), (-60)] : List Int))] : List (List Int))) 3 1).bind fun bt354 => (if bt354.2 = true then ((laws_sameInts.f k bt354.1 (([0, 1] : List Int))).bind fun t361 => (laws_FnServed.j0 k t332 t333 t334 t337 t338 (!t361))) else (laws_FnServed.j0 k t332 t333 t334 t337 t338 true)))) = some r := H
      have A6 := Aside0.mk A60
      clear A60
      by_cases c7 : (t338 != t342) = true
      · as_aux_lemma =>
          rw [if_pos c7] at H
          have c7b0 : (t338 != t342) = true := c7
          (try (have c7b1 : decide (t338 = t342) = false := by simpa using c7))
          (try (have c7b2 : (t338 == t342) = false := by simpa using c7))
          (try (have c7b3 : ¬ (t338 = t342) := by simpa using c7))
          clear c7
          obtain rfl := Option.some.inj H
          go_enter Try.func4, Try.ntmps4
          go_wp2_with (first | (go_at_call 18; (with_reducible refine (laws_big.calls _ _ l0 false _ ?side1 ?side2 A2.out).mono ?_); (case side1 => repeat (first | exact HR0.out | (with_reducible refine Kd.C_alloc ?_ _) | (with_reducible refine Kd.C_drewN ?_ _) | (with_reducible refine Kd.C_drew ?_))); (case side2 => exact HC0.out); rintro e w' ⟨rfl, ⟨nd, rfl⟩⟩; (try first | exact ⟨rfl, _, World.drewN_drewN _ _ _⟩ | exact ⟨rfl, _, Eq.trans (World.drewN_drewN _ _ _) (congrArg (World.drewN _) (Nat.add_assoc _ _ _))⟩)) | (go_at_call 19; (with_reducible refine (spec_DrawServing.calls k _ _ l0 t332 t333 t334 _ ?side1 ?side2 A4.out).mono ?_); (case side1 => repeat (first | exact HR0.out | (with_reducible refine Kd.C_alloc ?_ _) | (with_reducible refine Kd.C_drewN ?_ _) | (with_reducible refine Kd.C_drew ?_))); (case side2 => exact HC0.out); rintro e w8 ⟨v335, rfl, ho0, hb⟩; have n0_ := Aside0.mk (Kd.N_lower (Kd.N_mono (ok' := fun k_ => True) (Kd.S_N (Kd.S_bound ho0)) (fun k_ hk_ => trivial)) (below_size (by repeat (first | (with_reducible first | exact HB.out | apply below_alloc | apply pw_below_drewN | apply below_drew1) | exact HB.out)))); have n1_ := Aside0.mk (below_step (by repeat (first | (with_reducible first | exact HB.out | apply below_alloc | apply pw_below_drewN | apply below_drew1) | exact HB.out)) hb); clear HB; have HO336 := n0_; have HB := n1_; clear n0_ n1_; (try clear hb); (try clear hb2); (try clear hk); (try clear hi); (try clear ho0); obtain ⟨Ao9, co9, eo9⟩ := Kd.N_slice HO336.out; subst eo9) | (go_at_call 12; (with_reducible refine (impl_Serving.calls k _ _ t332 t333 t334 t337 t338 _ ?side1 ?side2 A5.out).mono ?_); (case side1 => repeat (first | exact (Kd.N_reads' HO336.out).2.2 | (with_reducible refine Kd.C_alloc ?_ _) | (with_reducible refine Kd.C_drewN ?_ _) | (with_reducible refine Kd.C_drew ?_))); (case side2 => exact (Kd.N_reads' HO336.out).2.1); rintro e w10 ⟨v339, rfl, ho0, hb⟩; have n0_ := Aside0.mk (Kd.N_elder' (by (with_reducible repeat (first | apply Kd.N_alloc | apply Kd.N_drewN | apply Kd.N_drew)); exact HO336.out) (Kd.R_base ho0) hb); have n1_ := Aside0.mk (Kd.R_lower ho0 (below_size (by repeat (first | (with_reducible first | exact HB.out | apply below_alloc | apply pw_below_drewN | apply below_drew1) | exact HB.out)))); have n2_ := Aside0.mk (below_step (by repeat (first | (with_reducible first | exact HB.out | apply below_alloc | apply pw_below_drewN | apply below_drew1) | exact HB.out)) hb); clear HO336; clear HB; have HO336 := n0_; have HO340 := n1_; have HB := n2_; clear n0_ n1_ n2_; (try clear hb); (try clear hb2); (try clear hk); (try clear hi); (try clear ho0)) | (go_at_call 10; (with_reducible refine (spec_Serving.calls k _ _ t332 t333 t334 t341 t342 _ ?side1 ?side2 A6.out).mono ?_); (case side1 => repeat (first | exact (Kd.N_reads' HO336.out).2.2 | (with_reducible refine Kd.C_alloc ?_ _) | (with_reducible refine Kd.C_drewN ?_ _) | (with_reducible refine Kd.C_drew ?_))); (case side2 => exact (Kd.N_reads' HO336.out).2.1); rintro e w11 ⟨v343, rfl, ho0, hb⟩; have n0_ := Aside0.mk (Kd.N_elder' (by (with_reducible repeat (first | apply Kd.N_alloc | apply Kd.N_drewN | apply Kd.N_drew)); exact HO336.out) (Kd.R_base ho0) hb); have n1_ := Aside0.mk (Kd.R_elder' (by (with_reducible repeat (first | apply Kd.R_alloc | apply Kd.R_drewN | apply Kd.R_drew)); exact HO340.out) (Kd.R_base ho0) hb); have n2_ := Aside0.mk (Kd.R_lower (Kd.R_new' ho0 (Kd.R_lt (by (with_reducible repeat (first | apply Kd.R_alloc | apply Kd.R_drewN | apply Kd.R_drew)); exact HO340.out))) (below_size (by repeat (first | (with_reducible first | exact HB.out | apply below_alloc | apply pw_below_drewN | apply below_drew1) | exact HB.out)))); have n3_ := Aside0.mk (below_step (by repeat (first | (with_reducible first | exact HB.out | apply below_alloc | apply pw_below_drewN | apply below_drew1) | exact HB.out)) hb); clear HO336; clear HO340; clear HB; have HO336 := n0_; have HO340 := n1_; have HO344 := n2_; have HB := n3_; clear n0_ n1_ n2_ n3_; (try clear hb); (try clear hb2); (try clear hk); (try clear hi); (try clear ho0)))
          repeat (go_quiet (first | (go_at_call 18; (with_reducible refine (laws_big.calls _ _ l0 false _ ?side1 ?side2 A2.out).mono ?_); (case side1 => repeat (first | exact HR0.out | (with_reducible refine Kd.C_alloc ?_ _) | (with_reducible refine Kd.C_drewN ?_ _) | (with_reducible refine Kd.C_drew ?_))); (case side2 => exact HC0.out); rintro e w' ⟨rfl, ⟨nd, rfl⟩⟩; (try first | exact ⟨rfl, _, World.drewN_drewN _ _ _⟩ | exact ⟨rfl, _, Eq.trans (World.drewN_drewN _ _ _) (congrArg (World.drewN _) (Nat.add_assoc _ _ _))⟩)) | (go_at_call 19; (with_reducible refine (spec_DrawServing.calls k _ _ l0 t332 t333 t334 _ ?side1 ?side2 A4.out).mono ?_); (case side1 => repeat (first | exact HR0.out | (with_reducible refine Kd.C_alloc ?_ _) | (with_reducible refine Kd.C_drewN ?_ _) | (with_reducible refine Kd.C_drew ?_))); (case side2 => exact HC0.out); rintro e w8 ⟨v335, rfl, ho0, hb⟩; have n0_ := Aside0.mk (Kd.N_lower (Kd.N_mono (ok' := fun k_ => True) (Kd.S_N (Kd.S_bound ho0)) (fun k_ hk_ => trivial)) (below_size (by repeat (first | (with_reducible first | exact HB.out | apply below_alloc | apply pw_below_drewN | apply below_drew1) | exact HB.out)))); have n1_ := Aside0.mk (below_step (by repeat (first | (with_reducible first | exact HB.out | apply below_alloc | apply pw_below_drewN | apply below_drew1) | exact HB.out)) hb); clear HB; have HO336 := n0_; have HB := n1_; clear n0_ n1_; (try clear hb); (try clear hb2); (try clear hk); (try clear hi); (try clear ho0); obtain ⟨Ao9, co9, eo9⟩ := Kd.N_slice HO336.out; subst eo9) | (go_at_call 12; (with_reducible refine (impl_Serving.calls k _ _ t332 t333 t334 t337 t338 _ ?side1 ?side2 A5.out).mono ?_); (case side1 => repeat (first | exact (Kd.N_reads' HO336.out).2.2 | (with_reducible refine Kd.C_alloc ?_ _) | (with_reducible refine Kd.C_drewN ?_ _) | (with_reducible refine Kd.C_drew ?_))); (case side2 => exact (Kd.N_reads' HO336.out).2.1); rintro e w10 ⟨v339, rfl, ho0, hb⟩; have n0_ := Aside0.mk (Kd.N_elder' (by (with_reducible repeat (first | apply Kd.N_alloc | apply Kd.N_drewN | apply Kd.N_drew)); exact HO336.out) (Kd.R_base ho0) hb); have n1_ := Aside0.mk (Kd.R_lower ho0 (below_size (by repeat (first | (with_reducible first | exact HB.out | apply below_alloc | apply pw_below_drewN | apply below_drew1) | exact HB.out)))); have n2_ := Aside0.mk (below_step (by repeat (first | (with_reducible first | exact HB.out | apply below_alloc | apply pw_below_drewN | apply below_drew1) | exact HB.out)) hb); clear HO336; clear HB; have HO336 := n0_; have HO340 := n1_; have HB := n2_; clear n0_ n1_ n2_; (try clear hb); (try clear hb2); (try clear hk); (try clear hi); (try clear ho0)) | (go_at_call 10; (with_reducible refine (spec_Serving.calls k _ _ t332 t333 t334 t341 t342 _ ?side1 ?side2 A6.out).mono ?_); (case side1 => repeat (first | exact (Kd.N_reads' HO336.out).2.2 | (with_reducible refine Kd.C_alloc ?_ _) | (with_reducible refine Kd.C_drewN ?_ _) | (with_reducible refine Kd.C_drew ?_))); (case side2 => exact (Kd.N_reads' HO336.out).2.1); rintro e w11 ⟨v343, rfl, ho0, hb⟩; have n0_ := Aside0.mk (Kd.N_elder' (by (with_reducible repeat (first | apply Kd.N_alloc | apply Kd.N_drewN | apply Kd.N_drew)); exact HO336.out) (Kd.R_base ho0) hb); have n1_ := Aside0.mk (Kd.R_elder' (by (with_reducible repeat (first | apply Kd.R_alloc | apply Kd.R_drewN | apply Kd.R_drew)); exact HO340.out) (Kd.R_base ho0) hb); have n2_ := Aside0.mk (Kd.R_lower (Kd.R_new' ho0 (Kd.R_lt (by (with_reducible repeat (first | apply Kd.R_alloc | apply Kd.R_drewN | apply Kd.R_drew)); exact HO340.out))) (below_size (by repeat (first | (with_reducible first | exact HB.out | apply below_alloc | apply pw_below_drewN | apply below_drew1) | exact HB.out)))); have n3_ := Aside0.mk (below_step (by repeat (first | (with_reducible first | exact HB.out | apply below_alloc | apply pw_below_drewN | apply below_drew1) | exact HB.out)) hb); clear HO336; clear HO340; clear HB; have HO336 := n0_; have HO340 := n1_; have HO344 := n2_; have HB := n3_; clear n0_ n1_ n2_ n3_; (try clear hb); (try clear hb2); (try clear hk); (try clear hi); (try clear ho0))); try go_wp2_with (first | (go_at_call 18; (with_reducible refine (laws_big.calls _ _ l0 false _ ?side1 ?side2 A2.out).mono ?_); (case side1 => repeat (first | exact HR0.out | (with_reducible refine Kd.C_alloc ?_ _) | (with_reducible refine Kd.C_drewN ?_ _) | (with_reducible refine Kd.C_drew ?_))); (case side2 => exact HC0.out); rintro e w' ⟨rfl, ⟨nd, rfl⟩⟩; (try first | exact ⟨rfl, _, World.drewN_drewN _ _ _⟩ | exact ⟨rfl, _, Eq.trans (World.drewN_drewN _ _ _) (congrArg (World.drewN _) (Nat.add_assoc _ _ _))⟩)) | (go_at_call 19; (with_reducible refine (spec_DrawServing.calls k _ _ l0 t332 t333 t334 _ ?side1 ?side2 A4.out).mono ?_); (case side1 => repeat (first | exact HR0.out | (with_reducible refine Kd.C_alloc ?_ _) | (with_reducible refine Kd.C_drewN ?_ _) | (with_reducible refine Kd.C_drew ?_))); (case side2 => exact HC0.out); rintro e w8 ⟨v335, rfl, ho0, hb⟩; have n0_ := Aside0.mk (Kd.N_lower (Kd.N_mono (ok' := fun k_ => True) (Kd.S_N (Kd.S_bound ho0)) (fun k_ hk_ => trivial)) (below_size (by repeat (first | (with_reducible first | exact HB.out | apply below_alloc | apply pw_below_drewN | apply below_drew1) | exact HB.out)))); have n1_ := Aside0.mk (below_step (by repeat (first | (with_reducible first | exact HB.out | apply below_alloc | apply pw_below_drewN | apply below_drew1) | exact HB.out)) hb); clear HB; have HO336 := n0_; have HB := n1_; clear n0_ n1_; (try clear hb); (try clear hb2); (try clear hk); (try clear hi); (try clear ho0); obtain ⟨Ao9, co9, eo9⟩ := Kd.N_slice HO336.out; subst eo9) | (go_at_call 12; (with_reducible refine (impl_Serving.calls k _ _ t332 t333 t334 t337 t338 _ ?side1 ?side2 A5.out).mono ?_); (case side1 => repeat (first | exact (Kd.N_reads' HO336.out).2.2 | (with_reducible refine Kd.C_alloc ?_ _) | (with_reducible refine Kd.C_drewN ?_ _) | (with_reducible refine Kd.C_drew ?_))); (case side2 => exact (Kd.N_reads' HO336.out).2.1); rintro e w10 ⟨v339, rfl, ho0, hb⟩; have n0_ := Aside0.mk (Kd.N_elder' (by (with_reducible repeat (first | apply Kd.N_alloc | apply Kd.N_drewN | apply Kd.N_drew)); exact HO336.out) (Kd.R_base ho0) hb); have n1_ := Aside0.mk (Kd.R_lower ho0 (below_size (by repeat (first | (with_reducible first | exact HB.out | apply below_alloc | apply pw_below_drewN | apply below_drew1) | exact HB.out)))); have n2_ := Aside0.mk (below_step (by repeat (first | (with_reducible first | exact HB.out | apply below_alloc | apply pw_below_drewN | apply below_drew1) | exact HB.out)) hb); clear HO336; clear HB; have HO336 := n0_; have HO340 := n1_; have HB := n2_; clear n0_ n1_ n2_; (try clear hb); (try clear hb2); (try clear hk); (try clear hi); (try clear ho0)) | (go_at_call 10; (with_reducible refine (spec_Serving.calls k _ _ t332 t333 t334 t341 t342 _ ?side1 ?side2 A6.out).mono ?_); (case side1 => repeat (first | exact (Kd.N_reads' HO336.out).2.2 | (with_reducible refine Kd.C_alloc ?_ _) | (with_reducible refine Kd.C_drewN ?_ _) | (with_reducible refine Kd.C_drew ?_))); (case side2 => exact (Kd.N_reads' HO336.out).2.1); rintro e w11 ⟨v343, rfl, ho0, hb⟩; have n0_ := Aside0.mk (Kd.N_elder' (by (with_reducible repeat (first | apply Kd.N_alloc | apply Kd.N_drewN | apply Kd.N_drew)); exact HO336.out) (Kd.R_base ho0) hb); have n1_ := Aside0.mk (Kd.R_elder' (by (with_reducible repeat (first | apply Kd.R_alloc | apply Kd.R_drewN | apply Kd.R_drew)); exact HO340.out) (Kd.R_base ho0) hb); have n2_ := Aside0.mk (Kd.R_lower (Kd.R_new' ho0 (Kd.R_lt (by (with_reducible repeat (first | apply Kd.R_alloc | apply Kd.R_drewN | apply Kd.R_drew)); exact HO340.out))) (below_size (by repeat (first | (with_reducible first | exact HB.out | apply below_alloc | apply pw_below_drewN | apply below_drew1) | exact HB.out)))); have n3_ := Aside0.mk (below_step (by repeat (first | (with_reducible first | exact HB.out | apply below_alloc | apply pw_below_drewN | apply below_drew1) | exact HB.out)) hb); clear HO336; clear HO340; clear HB; have HO336 := n0_; have HO340 := n1_; have HO344 := n2_; have HB := n3_; clear n0_ n1_ n2_ n3_; (try clear hb); (try clear hb2); (try clear hk); (try clear hi); (try clear ho0))))
          go_ret
          exact ⟨by first | rfl | (simp [errW_none, errW_some] <;> rfl) | (simp [*, errW_none, errW_some] <;> rfl), by repeat (first | (with_reducible first | exact HB.out | apply below_alloc | apply pw_below_drewN | apply below_drew1) | exact HB.out)⟩
      · as_aux_lemma =>
          rw [if_neg c7] at H
          have c7b0 : (t338 != t342) = false := by simpa using c7
          (try (have c7b1 : decide (t338 = t342) = true := by simpa using c7))
          (try (have c7b2 : (t338 == t342) = true := by simpa using c7))
          clear c7
          obtain ⟨y345, hy345⟩ : ∃ y_ : List Int, y_ = (([(-50), (-60)] : List Int)) := ⟨_, rfl⟩
          replace H : ((impl_Serving.f k (([y345, (([(-70), (-60)] : List Int))] : List (List Int))) 3 1).bind fun bt354 => (if bt354.2 = true then ((laws_sameInts.f k bt354.1 (([0, 1] : List Int))).bind fun t361 => (laws_FnServed.j0 k t332 t333 t334 t337 t338 (!t361))) else (laws_FnServed.j0 k t332 t333 t334 t337 t338 true))) = some r := by first | (rw [hy345]; with_reducible exact H) | (have H2_ := (Option.bind_some _ _).symm.trans H; rw [hy345]; with_reducible exact H2_) | (have H2_ := (Option.bind_some _ _).symm.trans H; with_reducible exact H2_) | with_reducible exact H | (rw [hy345]; exact H) | exact H
          have Ny345 := Aside0.mk hy345
          clear hy345
          obtain ⟨y348, hy348⟩ : ∃ y_ : List Int, y_ = (([(-70), (-60)] : List Int)) := ⟨_, rfl⟩
          replace H : ((impl_Serving.f k (([y345, y348] : List (List Int))) 3 1).bind fun bt354 => (if bt354.2 = true then ((laws_sameInts.f k bt354.1 (([0, 1] : List Int))).bind fun t361 => (laws_FnServed.j0 k t332 t333 t334 t337 t338 (!t361))) else (laws_FnServed.j0 k t332 t333 t334 t337 t338 true))) = some r := by first | (rw [hy348]; with_reducible exact H) | (have H2_ := (Option.bind_some _ _).symm.trans H; rw [hy348]; with_reducible exact H2_) | (have H2_ := (Option.bind_some _ _).symm.trans H; with_reducible exact H2_) | with_reducible exact H | (rw [hy348]; exact H) | exact H
          have Ny348 := Aside0.mk hy348
          clear hy348
          obtain ⟨y351, hy351⟩ : ∃ y_ : List (List Int), y_ = (([y345, y348] : List (List Int))) := ⟨_, rfl⟩
          replace H : ((impl_Serving.f k y351 3 1).bind fun bt354 => (if bt354.2 = true then ((laws_sameInts.f k bt354.1 (([0, 1] : List Int))).bind fun t361 => (laws_FnServed.j0 k t332 t333 t334 t337 t338 (!t361))) else (laws_FnServed.j0 k t332 t333 t334 t337 t338 true))) = some r := by first | (rw [hy351]; with_reducible exact H) | (have H2_ := (Option.bind_some _ _).symm.trans H; rw [hy351]; with_reducible exact H2_) | (have H2_ := (Option.bind_some _ _).symm.trans H; with_reducible exact H2_) | with_reducible exact H | (rw [hy351]; exact H) | exact H
          have Ny351 := Aside0.mk hy351
          clear hy351
          replace H := Option.bind_eq_some_iff.mp H
          obtain ⟨⟨t354, t355⟩, A120, H⟩ := H
          replace H : (if t355 = true then ((laws_sameInts.f k t354 (([0, 1] : List Int))).bind fun t361 => (laws_FnServed.j0 k t332 t333 t334 t337 t338 (!t361))) else (laws_FnServed.j0 k t332 t333 t334 t337 t338 true)) = some r := H
          have A12 := Aside0.mk A120
          clear A120
          have HC13 := Aside0.mk H
          clear H
          go_enter Try.func4, Try.ntmps4
          go_upto_region 9 with (first | (go_at_call 18; (with_reducible refine (laws_big.calls _ _ l0 false _ ?side1 ?side2 A2.out).mono ?_); (case side1 => repeat (first | exact HR0.out | (with_reducible refine Kd.C_alloc ?_ _) | (with_reducible refine Kd.C_drewN ?_ _) | (with_reducible refine Kd.C_drew ?_))); (case side2 => exact HC0.out); rintro e w' ⟨rfl, ⟨nd, rfl⟩⟩; (try first | exact ⟨rfl, _, World.drewN_drewN _ _ _⟩ | exact ⟨rfl, _, Eq.trans (World.drewN_drewN _ _ _) (congrArg (World.drewN _) (Nat.add_assoc _ _ _))⟩)) | (go_at_call 19; (with_reducible refine (spec_DrawServing.calls k _ _ l0 t332 t333 t334 _ ?side1 ?side2 A4.out).mono ?_); (case side1 => repeat (first | exact HR0.out | (with_reducible refine Kd.C_alloc ?_ _) | (with_reducible refine Kd.C_drewN ?_ _) | (with_reducible refine Kd.C_drew ?_))); (case side2 => exact HC0.out); rintro e w14 ⟨v335, rfl, ho0, hb⟩; have n0_ := Aside0.mk (Kd.N_lower (Kd.N_mono (ok' := fun k_ => True) (Kd.S_N (Kd.S_bound ho0)) (fun k_ hk_ => trivial)) (below_size (by repeat (first | (with_reducible first | exact HB.out | apply below_alloc | apply pw_below_drewN | apply below_drew1) | exact HB.out)))); have n1_ := Aside0.mk (below_step (by repeat (first | (with_reducible first | exact HB.out | apply below_alloc | apply pw_below_drewN | apply below_drew1) | exact HB.out)) hb); clear HB; have HO336 := n0_; have HB := n1_; clear n0_ n1_; (try clear hb); (try clear hb2); (try clear hk); (try clear hi); (try clear ho0); obtain ⟨Ao15, co15, eo15⟩ := Kd.N_slice HO336.out; subst eo15) | (go_at_call 12; (with_reducible refine (impl_Serving.calls k _ _ t332 t333 t334 t337 t338 _ ?side1 ?side2 A5.out).mono ?_); (case side1 => repeat (first | exact (Kd.N_reads' HO336.out).2.2 | (with_reducible refine Kd.C_alloc ?_ _) | (with_reducible refine Kd.C_drewN ?_ _) | (with_reducible refine Kd.C_drew ?_))); (case side2 => exact (Kd.N_reads' HO336.out).2.1); rintro e w16 ⟨v339, rfl, ho0, hb⟩; have n0_ := Aside0.mk (Kd.N_elder' (by (with_reducible repeat (first | apply Kd.N_alloc | apply Kd.N_drewN | apply Kd.N_drew)); exact HO336.out) (Kd.R_base ho0) hb); have n1_ := Aside0.mk (Kd.R_lower ho0 (below_size (by repeat (first | (with_reducible first | exact HB.out | apply below_alloc | apply pw_below_drewN | apply below_drew1) | exact HB.out)))); have n2_ := Aside0.mk (below_step (by repeat (first | (with_reducible first | exact HB.out | apply below_alloc | apply pw_below_drewN | apply below_drew1) | exact HB.out)) hb); clear HO336; clear HB; have HO336 := n0_; have HO340 := n1_; have HB := n2_; clear n0_ n1_ n2_; (try clear hb); (try clear hb2); (try clear hk); (try clear hi); (try clear ho0)) | (go_at_call 10; (with_reducible refine (spec_Serving.calls k _ _ t332 t333 t334 t341 t342 _ ?side1 ?side2 A6.out).mono ?_); (case side1 => repeat (first | exact (Kd.N_reads' HO336.out).2.2 | (with_reducible refine Kd.C_alloc ?_ _) | (with_reducible refine Kd.C_drewN ?_ _) | (with_reducible refine Kd.C_drew ?_))); (case side2 => exact (Kd.N_reads' HO336.out).2.1); rintro e w17 ⟨v343, rfl, ho0, hb⟩; have n0_ := Aside0.mk (Kd.N_elder' (by (with_reducible repeat (first | apply Kd.N_alloc | apply Kd.N_drewN | apply Kd.N_drew)); exact HO336.out) (Kd.R_base ho0) hb); have n1_ := Aside0.mk (Kd.R_elder' (by (with_reducible repeat (first | apply Kd.R_alloc | apply Kd.R_drewN | apply Kd.R_drew)); exact HO340.out) (Kd.R_base ho0) hb); have n2_ := Aside0.mk (Kd.R_lower (Kd.R_new' ho0 (Kd.R_lt (by (with_reducible repeat (first | apply Kd.R_alloc | apply Kd.R_drewN | apply Kd.R_drew)); exact HO340.out))) (below_size (by repeat (first | (with_reducible first | exact HB.out | apply below_alloc | apply pw_below_drewN | apply below_drew1) | exact HB.out)))); have n3_ := Aside0.mk (below_step (by repeat (first | (with_reducible first | exact HB.out | apply below_alloc | apply pw_below_drewN | apply below_drew1) | exact HB.out)) hb); clear HO336; clear HO340; clear HB; have HO336 := n0_; have HO340 := n1_; have HO344 := n2_; have HB := n3_; clear n0_ n1_ n2_ n3_; (try clear hb); (try clear hb2); (try clear hk); (try clear hi); (try clear ho0)) | ((with_reducible refine gate_dst (N := 41) rfl ?_); (try (refine gate_guard (by rfl) ?_; dsimp only)); refine Kd.R_lit (Kd.int .i64) _ 3 ?hg (N := 41) ?hd (xs := ([(-50), (-60)] : List Int)) (inner := [.int .i64 (-50), .int .i64 (-60)]) (ok := fun _ => True) (okp := fun _ => True) ?hr ?hp (fun _ hk => hk) trivial (Below.refl _ _) (Nat.le_refl _) (by simp) ?_; (case hd => rfl); (case hg => rfl); (case hr => first | (go_simp; done) | (go_simp; rfl)); (case hp => exact (Reps.one (show Kd.M (Kd.int .i64) _ _ _ (-50) [.int .i64 (-50)] from rfl) (Reps.one (show Kd.M (Kd.int .i64) _ _ _ (-60) [.int .i64 (-60)] from rfl) (Reps.none _ _)))); intro v346 w18 ho19 hb hg_ hnew_; clear hg_ hnew_; (first | rw [← Ny345.out] at ho19 | (simp only [Int.reduceToNat] at ho19; rw [← Ny345.out] at ho19)); have n0_ := Aside0.mk (Kd.N_elder' (by (with_reducible repeat (first | apply Kd.N_alloc | apply Kd.N_drewN | apply Kd.N_drew)); exact HO336.out) (Kd.R_base ho19) hb); have n1_ := Aside0.mk (Kd.R_elder' (by (with_reducible repeat (first | apply Kd.R_alloc | apply Kd.R_drewN | apply Kd.R_drew)); exact HO340.out) (Kd.R_base ho19) hb); have n2_ := Aside0.mk (Kd.R_elder' (by (with_reducible repeat (first | apply Kd.R_alloc | apply Kd.R_drewN | apply Kd.R_drew)); exact HO344.out) (Kd.R_base ho19) hb); have n3_ := Aside0.mk (Kd.R_lower (Kd.R_new' (Kd.R_new' ho19 (Kd.R_lt (by (with_reducible repeat (first | apply Kd.R_alloc | apply Kd.R_drewN | apply Kd.R_drew)); exact HO340.out))) (Kd.R_lt (by (with_reducible repeat (first | apply Kd.R_alloc | apply Kd.R_drewN | apply Kd.R_drew)); exact HO344.out))) (below_size (by repeat (first | (with_reducible first | exact HB.out | apply below_alloc | apply pw_below_drewN | apply below_drew1) | exact HB.out)))); have n4_ := Aside0.mk (below_step (by repeat (first | (with_reducible first | exact HB.out | apply below_alloc | apply pw_below_drewN | apply below_drew1) | exact HB.out)) hb); clear HO336; clear HO340; clear HO344; clear HB; have HO336 := n0_; have HO340 := n1_; have HO344 := n2_; have HO347 := n3_; have HB := n4_; clear n0_ n1_ n2_ n3_ n4_; clear hb ho19) | ((with_reducible refine gate_dst (N := 42) rfl ?_); (try (refine gate_guard (by rfl) ?_; dsimp only)); refine Kd.R_lit (Kd.int .i64) _ 3 ?hg (N := 42) ?hd (xs := ([(-70), (-60)] : List Int)) (inner := [.int .i64 (-70), .int .i64 (-60)]) (ok := fun _ => True) (okp := fun _ => True) ?hr ?hp (fun _ hk => hk) trivial (Below.refl _ _) (Nat.le_refl _) (by simp) ?_; (case hd => rfl); (case hg => rfl); (case hr => first | (go_simp; done) | (go_simp; rfl)); (case hp => exact (Reps.one (show Kd.M (Kd.int .i64) _ _ _ (-70) [.int .i64 (-70)] from rfl) (Reps.one (show Kd.M (Kd.int .i64) _ _ _ (-60) [.int .i64 (-60)] from rfl) (Reps.none _ _)))); intro v349 w20 ho21 hb hg_ hnew_; clear hg_ hnew_; (first | rw [← Ny348.out] at ho21 | (simp only [Int.reduceToNat] at ho21; rw [← Ny348.out] at ho21)); have n0_ := Aside0.mk (Kd.N_elder' (by (with_reducible repeat (first | apply Kd.N_alloc | apply Kd.N_drewN | apply Kd.N_drew)); exact HO336.out) (Kd.R_base ho21) hb); have n1_ := Aside0.mk (Kd.R_elder' (by (with_reducible repeat (first | apply Kd.R_alloc | apply Kd.R_drewN | apply Kd.R_drew)); exact HO340.out) (Kd.R_base ho21) hb); have n2_ := Aside0.mk (Kd.R_elder' (by (with_reducible repeat (first | apply Kd.R_alloc | apply Kd.R_drewN | apply Kd.R_drew)); exact HO344.out) (Kd.R_base ho21) hb); have n3_ := Aside0.mk (Kd.R_elder' (by (with_reducible repeat (first | apply Kd.R_alloc | apply Kd.R_drewN | apply Kd.R_drew)); exact HO347.out) (Kd.R_base ho21) hb); have n4_ := Aside0.mk (Kd.R_lower (Kd.R_new' (Kd.R_new' (Kd.R_new' ho21 (Kd.R_lt (by (with_reducible repeat (first | apply Kd.R_alloc | apply Kd.R_drewN | apply Kd.R_drew)); exact HO340.out))) (Kd.R_lt (by (with_reducible repeat (first | apply Kd.R_alloc | apply Kd.R_drewN | apply Kd.R_drew)); exact HO344.out))) (Kd.R_lt (by (with_reducible repeat (first | apply Kd.R_alloc | apply Kd.R_drewN | apply Kd.R_drew)); exact HO347.out))) (below_size (by repeat (first | (with_reducible first | exact HB.out | apply below_alloc | apply pw_below_drewN | apply below_drew1) | exact HB.out)))); have n5_ := Aside0.mk (below_step (by repeat (first | (with_reducible first | exact HB.out | apply below_alloc | apply pw_below_drewN | apply below_drew1) | exact HB.out)) hb); clear HO336; clear HO340; clear HO344; clear HO347; clear HB; have HO336 := n0_; have HO340 := n1_; have HO344 := n2_; have HO347 := n3_; have HO350 := n4_; have HB := n5_; clear n0_ n1_ n2_ n3_ n4_ n5_; clear hb ho21; obtain ⟨Ao22, co22, eo22⟩ := Kd.R_slice HO347.out; subst eo22; obtain ⟨Ao23, co23, eo23⟩ := Kd.R_slice HO350.out; subst eo23) | ((with_reducible refine gate_dst (N := 43) rfl ?_); (try (refine gate_guard (by rfl) ?_; dsimp only)); refine Kd.N_lit (Kd.slice 3 (Kd.int .i64)) _ 24 ?hg (N' := 43) ?hd (xs := ([y345, y348] : List (List Int))) (inner := [.slice Ao22 y345.length co22, .slice Ao23 y348.length co23]) (ok := (fun k_ => some k_ ≠ (.slice Ao15 t332.length co15 : Value).ownBlock ∧ some k_ ≠ (v339 : Value).ownBlock ∧ some k_ ≠ (v343 : Value).ownBlock)) (okp := (fun k_ => some k_ ≠ (.slice Ao15 t332.length co15 : Value).ownBlock ∧ some k_ ≠ (v339 : Value).ownBlock ∧ some k_ ≠ (v343 : Value).ownBlock)) ?hr ?hp (fun _ hk => hk) ((show ∀ k_, w20.heap.size ≤ k_ → (fun k_ => some k_ ≠ (.slice Ao15 t332.length co15 : Value).ownBlock ∧ some k_ ≠ (v339 : Value).ownBlock ∧ some k_ ≠ (v343 : Value).ownBlock) k_ from fun k_ hk => ⟨Kd.fresh' (Kd.N_lt (by (with_reducible repeat (first | apply Kd.N_alloc | apply Kd.N_drewN | apply Kd.N_drew)); exact HO336.out)) k_ hk, Kd.fresh' (Kd.R_lt (by (with_reducible repeat (first | apply Kd.R_alloc | apply Kd.R_drewN | apply Kd.R_drew)); exact HO340.out)) k_ hk, Kd.fresh' (Kd.R_lt (by (with_reducible repeat (first | apply Kd.R_alloc | apply Kd.R_drewN | apply Kd.R_drew)); exact HO344.out)) k_ hk⟩) _ (Nat.le_refl _)) (Below.refl _ _) (Nat.le_refl _) (by simp) ?_; (case hd => rfl); (case hg => rfl); (case hr => first | (go_simp; done) | (go_simp; rfl)); (case hp => exact (Reps.one (show Kd.FK (Kd.slice 3 (Kd.int .i64)) _ _ y345 [.slice Ao22 y345.length co22] from (Kd.FK_slice_mk (Kd.R_reads' (Kd.R_mono (ok' := (fun k_ => some k_ ≠ (.slice Ao15 t332.length co15 : Value).ownBlock ∧ some k_ ≠ (v339 : Value).ownBlock ∧ some k_ ≠ (v343 : Value).ownBlock)) (Kd.R_apart' (HO347.out) (Kd.N_typed HO336.out) (by decide)) (fun k_ hk => ⟨hk.2, ⟨hk.1.1.1.2, hk.1.1.2⟩⟩))).2.1 (Kd.R_F (Kd.R_mono (ok' := (fun k_ => some k_ ≠ (.slice Ao15 t332.length co15 : Value).ownBlock ∧ some k_ ≠ (v339 : Value).ownBlock ∧ some k_ ≠ (v343 : Value).ownBlock)) (Kd.R_apart' (HO347.out) (Kd.N_typed HO336.out) (by decide)) (fun k_ hk => ⟨hk.2, ⟨hk.1.1.1.2, hk.1.1.2⟩⟩))))) (Reps.one (show Kd.FK (Kd.slice 3 (Kd.int .i64)) _ _ y348 [.slice Ao23 y348.length co23] from (Kd.FK_slice_mk (Kd.R_reads' (Kd.R_mono (ok' := (fun k_ => some k_ ≠ (.slice Ao15 t332.length co15 : Value).ownBlock ∧ some k_ ≠ (v339 : Value).ownBlock ∧ some k_ ≠ (v343 : Value).ownBlock)) (Kd.R_apart' (HO350.out) (Kd.N_typed HO336.out) (by decide)) (fun k_ hk => ⟨hk.2, ⟨hk.1.1.1.2, hk.1.1.2⟩⟩))).2.1 (Kd.R_F (Kd.R_mono (ok' := (fun k_ => some k_ ≠ (.slice Ao15 t332.length co15 : Value).ownBlock ∧ some k_ ≠ (v339 : Value).ownBlock ∧ some k_ ≠ (v343 : Value).ownBlock)) (Kd.R_apart' (HO350.out) (Kd.N_typed HO336.out) (by decide)) (fun k_ hk => ⟨hk.2, ⟨hk.1.1.1.2, hk.1.1.2⟩⟩))))) (Reps.none _ _)))); intro v352 w24 ho25 hb hg_ hnew_; clear hg_ hnew_; (first | rw [← Ny351.out] at ho25 | (simp only [Int.reduceToNat] at ho25; rw [← Ny351.out] at ho25)); have n0_ := Aside0.mk (Kd.N_elder' (by (with_reducible repeat (first | apply Kd.N_alloc | apply Kd.N_drewN | apply Kd.N_drew)); exact HO336.out) (Kd.N_base ho25) hb); have n1_ := Aside0.mk (Kd.R_below (by (with_reducible repeat (first | apply Kd.R_alloc | apply Kd.R_drewN | apply Kd.R_drew)); exact HO340.out) hb); have n2_ := Aside0.mk (Kd.R_below (by (with_reducible repeat (first | apply Kd.R_alloc | apply Kd.R_drewN | apply Kd.R_drew)); exact HO344.out) hb); have n3_ := Aside0.mk (Kd.N_lower ho25 (below_size (by repeat (first | (with_reducible first | exact HB.out | apply below_alloc | apply pw_below_drewN | apply below_drew1) | exact HB.out)))); have n4_ := Aside0.mk (below_step (by repeat (first | (with_reducible first | exact HB.out | apply below_alloc | apply pw_below_drewN | apply below_drew1) | exact HB.out)) hb); clear HO336; clear HO340; clear HO344; clear HB; clear HO347; clear HO350; have HO336 := n0_; have HO340 := n1_; have HO344 := n2_; have HO353 := n3_; have HB := n4_; clear n0_ n1_ n2_ n3_ n4_; clear hb ho25; obtain ⟨Ao26, co26, eo26⟩ := Kd.N_slice HO353.out; subst eo26) | (go_at_call 12; (with_reducible refine (impl_Serving.calls k _ _ y351 3 1 t354 t355 _ ?side1 ?side2 A12.out).mono ?_); (case side1 => repeat (first | exact (Kd.N_reads' HO353.out).2.2 | (with_reducible refine Kd.C_alloc ?_ _) | (with_reducible refine Kd.C_drewN ?_ _) | (with_reducible refine Kd.C_drew ?_))); (case side2 => exact (Kd.N_reads' HO353.out).2.1); rintro e w27 ⟨v356, rfl, ho0, hb⟩; have n0_ := Aside0.mk (Kd.N_elder' (by (with_reducible repeat (first | apply Kd.N_alloc | apply Kd.N_drewN | apply Kd.N_drew)); exact HO336.out) (Kd.R_base ho0) hb); have n1_ := Aside0.mk (Kd.R_elder' (by (with_reducible repeat (first | apply Kd.R_alloc | apply Kd.R_drewN | apply Kd.R_drew)); exact HO340.out) (Kd.R_base ho0) hb); have n2_ := Aside0.mk (Kd.R_elder' (by (with_reducible repeat (first | apply Kd.R_alloc | apply Kd.R_drewN | apply Kd.R_drew)); exact HO344.out) (Kd.R_base ho0) hb); have n3_ := Aside0.mk (Kd.N_elder' (by (with_reducible repeat (first | apply Kd.N_alloc | apply Kd.N_drewN | apply Kd.N_drew)); exact HO353.out) (Kd.R_base ho0) hb); have n4_ := Aside0.mk (Kd.R_lower (Kd.R_new' (Kd.R_new' ho0 (Kd.R_lt (by (with_reducible repeat (first | apply Kd.R_alloc | apply Kd.R_drewN | apply Kd.R_drew)); exact HO340.out))) (Kd.R_lt (by (with_reducible repeat (first | apply Kd.R_alloc | apply Kd.R_drewN | apply Kd.R_drew)); exact HO344.out))) (below_size (by repeat (first | (with_reducible first | exact HB.out | apply below_alloc | apply pw_below_drewN | apply below_drew1) | exact HB.out)))); have n5_ := Aside0.mk (below_step (by repeat (first | (with_reducible first | exact HB.out | apply below_alloc | apply pw_below_drewN | apply below_drew1) | exact HB.out)) hb); clear HO336; clear HO340; clear HO344; clear HO353; clear HB; have HO336 := n0_; have HO340 := n1_; have HO344 := n2_; have HO353 := n3_; have HO357 := n4_; have HB := n5_; clear n0_ n1_ n2_ n3_ n4_ n5_; (try clear hb); (try clear hb2); (try clear hk); (try clear hi); (try clear ho0)))
          repeat (go_quiet (first | (go_at_call 18; (with_reducible refine (laws_big.calls _ _ l0 false _ ?side1 ?side2 A2.out).mono ?_); (case side1 => repeat (first | exact HR0.out | (with_reducible refine Kd.C_alloc ?_ _) | (with_reducible refine Kd.C_drewN ?_ _) | (with_reducible refine Kd.C_drew ?_))); (case side2 => exact HC0.out); rintro e w' ⟨rfl, ⟨nd, rfl⟩⟩; (try first | exact ⟨rfl, _, World.drewN_drewN _ _ _⟩ | exact ⟨rfl, _, Eq.trans (World.drewN_drewN _ _ _) (congrArg (World.drewN _) (Nat.add_assoc _ _ _))⟩)) | (go_at_call 19; (with_reducible refine (spec_DrawServing.calls k _ _ l0 t332 t333 t334 _ ?side1 ?side2 A4.out).mono ?_); (case side1 => repeat (first | exact HR0.out | (with_reducible refine Kd.C_alloc ?_ _) | (with_reducible refine Kd.C_drewN ?_ _) | (with_reducible refine Kd.C_drew ?_))); (case side2 => exact HC0.out); rintro e w14 ⟨v335, rfl, ho0, hb⟩; have n0_ := Aside0.mk (Kd.N_lower (Kd.N_mono (ok' := fun k_ => True) (Kd.S_N (Kd.S_bound ho0)) (fun k_ hk_ => trivial)) (below_size (by repeat (first | (with_reducible first | exact HB.out | apply below_alloc | apply pw_below_drewN | apply below_drew1) | exact HB.out)))); have n1_ := Aside0.mk (below_step (by repeat (first | (with_reducible first | exact HB.out | apply below_alloc | apply pw_below_drewN | apply below_drew1) | exact HB.out)) hb); clear HB; have HO336 := n0_; have HB := n1_; clear n0_ n1_; (try clear hb); (try clear hb2); (try clear hk); (try clear hi); (try clear ho0); obtain ⟨Ao15, co15, eo15⟩ := Kd.N_slice HO336.out; subst eo15) | (go_at_call 12; (with_reducible refine (impl_Serving.calls k _ _ t332 t333 t334 t337 t338 _ ?side1 ?side2 A5.out).mono ?_); (case side1 => repeat (first | exact (Kd.N_reads' HO336.out).2.2 | (with_reducible refine Kd.C_alloc ?_ _) | (with_reducible refine Kd.C_drewN ?_ _) | (with_reducible refine Kd.C_drew ?_))); (case side2 => exact (Kd.N_reads' HO336.out).2.1); rintro e w16 ⟨v339, rfl, ho0, hb⟩; have n0_ := Aside0.mk (Kd.N_elder' (by (with_reducible repeat (first | apply Kd.N_alloc | apply Kd.N_drewN | apply Kd.N_drew)); exact HO336.out) (Kd.R_base ho0) hb); have n1_ := Aside0.mk (Kd.R_lower ho0 (below_size (by repeat (first | (with_reducible first | exact HB.out | apply below_alloc | apply pw_below_drewN | apply below_drew1) | exact HB.out)))); have n2_ := Aside0.mk (below_step (by repeat (first | (with_reducible first | exact HB.out | apply below_alloc | apply pw_below_drewN | apply below_drew1) | exact HB.out)) hb); clear HO336; clear HB; have HO336 := n0_; have HO340 := n1_; have HB := n2_; clear n0_ n1_ n2_; (try clear hb); (try clear hb2); (try clear hk); (try clear hi); (try clear ho0)) | (go_at_call 10; (with_reducible refine (spec_Serving.calls k _ _ t332 t333 t334 t341 t342 _ ?side1 ?side2 A6.out).mono ?_); (case side1 => repeat (first | exact (Kd.N_reads' HO336.out).2.2 | (with_reducible refine Kd.C_alloc ?_ _) | (with_reducible refine Kd.C_drewN ?_ _) | (with_reducible refine Kd.C_drew ?_))); (case side2 => exact (Kd.N_reads' HO336.out).2.1); rintro e w17 ⟨v343, rfl, ho0, hb⟩; have n0_ := Aside0.mk (Kd.N_elder' (by (with_reducible repeat (first | apply Kd.N_alloc | apply Kd.N_drewN | apply Kd.N_drew)); exact HO336.out) (Kd.R_base ho0) hb); have n1_ := Aside0.mk (Kd.R_elder' (by (with_reducible repeat (first | apply Kd.R_alloc | apply Kd.R_drewN | apply Kd.R_drew)); exact HO340.out) (Kd.R_base ho0) hb); have n2_ := Aside0.mk (Kd.R_lower (Kd.R_new' ho0 (Kd.R_lt (by (with_reducible repeat (first | apply Kd.R_alloc | apply Kd.R_drewN | apply Kd.R_drew)); exact HO340.out))) (below_size (by repeat (first | (with_reducible first | exact HB.out | apply below_alloc | apply pw_below_drewN | apply below_drew1) | exact HB.out)))); have n3_ := Aside0.mk (below_step (by repeat (first | (with_reducible first | exact HB.out | apply below_alloc | apply pw_below_drewN | apply below_drew1) | exact HB.out)) hb); clear HO336; clear HO340; clear HB; have HO336 := n0_; have HO340 := n1_; have HO344 := n2_; have HB := n3_; clear n0_ n1_ n2_ n3_; (try clear hb); (try clear hb2); (try clear hk); (try clear hi); (try clear ho0)) | ((with_reducible refine gate_dst (N := 41) rfl ?_); (try (refine gate_guard (by rfl) ?_; dsimp only)); refine Kd.R_lit (Kd.int .i64) _ 3 ?hg (N := 41) ?hd (xs := ([(-50), (-60)] : List Int)) (inner := [.int .i64 (-50), .int .i64 (-60)]) (ok := fun _ => True) (okp := fun _ => True) ?hr ?hp (fun _ hk => hk) trivial (Below.refl _ _) (Nat.le_refl _) (by simp) ?_; (case hd => rfl); (case hg => rfl); (case hr => first | (go_simp; done) | (go_simp; rfl)); (case hp => exact (Reps.one (show Kd.M (Kd.int .i64) _ _ _ (-50) [.int .i64 (-50)] from rfl) (Reps.one (show Kd.M (Kd.int .i64) _ _ _ (-60) [.int .i64 (-60)] from rfl) (Reps.none _ _)))); intro v346 w18 ho19 hb hg_ hnew_; clear hg_ hnew_; (first | rw [← Ny345.out] at ho19 | (simp only [Int.reduceToNat] at ho19; rw [← Ny345.out] at ho19)); have n0_ := Aside0.mk (Kd.N_elder' (by (with_reducible repeat (first | apply Kd.N_alloc | apply Kd.N_drewN | apply Kd.N_drew)); exact HO336.out) (Kd.R_base ho19) hb); have n1_ := Aside0.mk (Kd.R_elder' (by (with_reducible repeat (first | apply Kd.R_alloc | apply Kd.R_drewN | apply Kd.R_drew)); exact HO340.out) (Kd.R_base ho19) hb); have n2_ := Aside0.mk (Kd.R_elder' (by (with_reducible repeat (first | apply Kd.R_alloc | apply Kd.R_drewN | apply Kd.R_drew)); exact HO344.out) (Kd.R_base ho19) hb); have n3_ := Aside0.mk (Kd.R_lower (Kd.R_new' (Kd.R_new' ho19 (Kd.R_lt (by (with_reducible repeat (first | apply Kd.R_alloc | apply Kd.R_drewN | apply Kd.R_drew)); exact HO340.out))) (Kd.R_lt (by (with_reducible repeat (first | apply Kd.R_alloc | apply Kd.R_drewN | apply Kd.R_drew)); exact HO344.out))) (below_size (by repeat (first | (with_reducible first | exact HB.out | apply below_alloc | apply pw_below_drewN | apply below_drew1) | exact HB.out)))); have n4_ := Aside0.mk (below_step (by repeat (first | (with_reducible first | exact HB.out | apply below_alloc | apply pw_below_drewN | apply below_drew1) | exact HB.out)) hb); clear HO336; clear HO340; clear HO344; clear HB; have HO336 := n0_; have HO340 := n1_; have HO344 := n2_; have HO347 := n3_; have HB := n4_; clear n0_ n1_ n2_ n3_ n4_; clear hb ho19) | ((with_reducible refine gate_dst (N := 42) rfl ?_); (try (refine gate_guard (by rfl) ?_; dsimp only)); refine Kd.R_lit (Kd.int .i64) _ 3 ?hg (N := 42) ?hd (xs := ([(-70), (-60)] : List Int)) (inner := [.int .i64 (-70), .int .i64 (-60)]) (ok := fun _ => True) (okp := fun _ => True) ?hr ?hp (fun _ hk => hk) trivial (Below.refl _ _) (Nat.le_refl _) (by simp) ?_; (case hd => rfl); (case hg => rfl); (case hr => first | (go_simp; done) | (go_simp; rfl)); (case hp => exact (Reps.one (show Kd.M (Kd.int .i64) _ _ _ (-70) [.int .i64 (-70)] from rfl) (Reps.one (show Kd.M (Kd.int .i64) _ _ _ (-60) [.int .i64 (-60)] from rfl) (Reps.none _ _)))); intro v349 w20 ho21 hb hg_ hnew_; clear hg_ hnew_; (first | rw [← Ny348.out] at ho21 | (simp only [Int.reduceToNat] at ho21; rw [← Ny348.out] at ho21)); have n0_ := Aside0.mk (Kd.N_elder' (by (with_reducible repeat (first | apply Kd.N_alloc | apply Kd.N_drewN | apply Kd.N_drew)); exact HO336.out) (Kd.R_base ho21) hb); have n1_ := Aside0.mk (Kd.R_elder' (by (with_reducible repeat (first | apply Kd.R_alloc | apply Kd.R_drewN | apply Kd.R_drew)); exact HO340.out) (Kd.R_base ho21) hb); have n2_ := Aside0.mk (Kd.R_elder' (by (with_reducible repeat (first | apply Kd.R_alloc | apply Kd.R_drewN | apply Kd.R_drew)); exact HO344.out) (Kd.R_base ho21) hb); have n3_ := Aside0.mk (Kd.R_elder' (by (with_reducible repeat (first | apply Kd.R_alloc | apply Kd.R_drewN | apply Kd.R_drew)); exact HO347.out) (Kd.R_base ho21) hb); have n4_ := Aside0.mk (Kd.R_lower (Kd.R_new' (Kd.R_new' (Kd.R_new' ho21 (Kd.R_lt (by (with_reducible repeat (first | apply Kd.R_alloc | apply Kd.R_drewN | apply Kd.R_drew)); exact HO340.out))) (Kd.R_lt (by (with_reducible repeat (first | apply Kd.R_alloc | apply Kd.R_drewN | apply Kd.R_drew)); exact HO344.out))) (Kd.R_lt (by (with_reducible repeat (first | apply Kd.R_alloc | apply Kd.R_drewN | apply Kd.R_drew)); exact HO347.out))) (below_size (by repeat (first | (with_reducible first | exact HB.out | apply below_alloc | apply pw_below_drewN | apply below_drew1) | exact HB.out)))); have n5_ := Aside0.mk (below_step (by repeat (first | (with_reducible first | exact HB.out | apply below_alloc | apply pw_below_drewN | apply below_drew1) | exact HB.out)) hb); clear HO336; clear HO340; clear HO344; clear HO347; clear HB; have HO336 := n0_; have HO340 := n1_; have HO344 := n2_; have HO347 := n3_; have HO350 := n4_; have HB := n5_; clear n0_ n1_ n2_ n3_ n4_ n5_; clear hb ho21; obtain ⟨Ao22, co22, eo22⟩ := Kd.R_slice HO347.out; subst eo22; obtain ⟨Ao23, co23, eo23⟩ := Kd.R_slice HO350.out; subst eo23) | ((with_reducible refine gate_dst (N := 43) rfl ?_); (try (refine gate_guard (by rfl) ?_; dsimp only)); refine Kd.N_lit (Kd.slice 3 (Kd.int .i64)) _ 24 ?hg (N' := 43) ?hd (xs := ([y345, y348] : List (List Int))) (inner := [.slice Ao22 y345.length co22, .slice Ao23 y348.length co23]) (ok := (fun k_ => some k_ ≠ (.slice Ao15 t332.length co15 : Value).ownBlock ∧ some k_ ≠ (v339 : Value).ownBlock ∧ some k_ ≠ (v343 : Value).ownBlock)) (okp := (fun k_ => some k_ ≠ (.slice Ao15 t332.length co15 : Value).ownBlock ∧ some k_ ≠ (v339 : Value).ownBlock ∧ some k_ ≠ (v343 : Value).ownBlock)) ?hr ?hp (fun _ hk => hk) ((show ∀ k_, w20.heap.size ≤ k_ → (fun k_ => some k_ ≠ (.slice Ao15 t332.length co15 : Value).ownBlock ∧ some k_ ≠ (v339 : Value).ownBlock ∧ some k_ ≠ (v343 : Value).ownBlock) k_ from fun k_ hk => ⟨Kd.fresh' (Kd.N_lt (by (with_reducible repeat (first | apply Kd.N_alloc | apply Kd.N_drewN | apply Kd.N_drew)); exact HO336.out)) k_ hk, Kd.fresh' (Kd.R_lt (by (with_reducible repeat (first | apply Kd.R_alloc | apply Kd.R_drewN | apply Kd.R_drew)); exact HO340.out)) k_ hk, Kd.fresh' (Kd.R_lt (by (with_reducible repeat (first | apply Kd.R_alloc | apply Kd.R_drewN | apply Kd.R_drew)); exact HO344.out)) k_ hk⟩) _ (Nat.le_refl _)) (Below.refl _ _) (Nat.le_refl _) (by simp) ?_; (case hd => rfl); (case hg => rfl); (case hr => first | (go_simp; done) | (go_simp; rfl)); (case hp => exact (Reps.one (show Kd.FK (Kd.slice 3 (Kd.int .i64)) _ _ y345 [.slice Ao22 y345.length co22] from (Kd.FK_slice_mk (Kd.R_reads' (Kd.R_mono (ok' := (fun k_ => some k_ ≠ (.slice Ao15 t332.length co15 : Value).ownBlock ∧ some k_ ≠ (v339 : Value).ownBlock ∧ some k_ ≠ (v343 : Value).ownBlock)) (Kd.R_apart' (HO347.out) (Kd.N_typed HO336.out) (by decide)) (fun k_ hk => ⟨hk.2, ⟨hk.1.1.1.2, hk.1.1.2⟩⟩))).2.1 (Kd.R_F (Kd.R_mono (ok' := (fun k_ => some k_ ≠ (.slice Ao15 t332.length co15 : Value).ownBlock ∧ some k_ ≠ (v339 : Value).ownBlock ∧ some k_ ≠ (v343 : Value).ownBlock)) (Kd.R_apart' (HO347.out) (Kd.N_typed HO336.out) (by decide)) (fun k_ hk => ⟨hk.2, ⟨hk.1.1.1.2, hk.1.1.2⟩⟩))))) (Reps.one (show Kd.FK (Kd.slice 3 (Kd.int .i64)) _ _ y348 [.slice Ao23 y348.length co23] from (Kd.FK_slice_mk (Kd.R_reads' (Kd.R_mono (ok' := (fun k_ => some k_ ≠ (.slice Ao15 t332.length co15 : Value).ownBlock ∧ some k_ ≠ (v339 : Value).ownBlock ∧ some k_ ≠ (v343 : Value).ownBlock)) (Kd.R_apart' (HO350.out) (Kd.N_typed HO336.out) (by decide)) (fun k_ hk => ⟨hk.2, ⟨hk.1.1.1.2, hk.1.1.2⟩⟩))).2.1 (Kd.R_F (Kd.R_mono (ok' := (fun k_ => some k_ ≠ (.slice Ao15 t332.length co15 : Value).ownBlock ∧ some k_ ≠ (v339 : Value).ownBlock ∧ some k_ ≠ (v343 : Value).ownBlock)) (Kd.R_apart' (HO350.out) (Kd.N_typed HO336.out) (by decide)) (fun k_ hk => ⟨hk.2, ⟨hk.1.1.1.2, hk.1.1.2⟩⟩))))) (Reps.none _ _)))); intro v352 w24 ho25 hb hg_ hnew_; clear hg_ hnew_; (first | rw [← Ny351.out] at ho25 | (simp only [Int.reduceToNat] at ho25; rw [← Ny351.out] at ho25)); have n0_ := Aside0.mk (Kd.N_elder' (by (with_reducible repeat (first | apply Kd.N_alloc | apply Kd.N_drewN | apply Kd.N_drew)); exact HO336.out) (Kd.N_base ho25) hb); have n1_ := Aside0.mk (Kd.R_below (by (with_reducible repeat (first | apply Kd.R_alloc | apply Kd.R_drewN | apply Kd.R_drew)); exact HO340.out) hb); have n2_ := Aside0.mk (Kd.R_below (by (with_reducible repeat (first | apply Kd.R_alloc | apply Kd.R_drewN | apply Kd.R_drew)); exact HO344.out) hb); have n3_ := Aside0.mk (Kd.N_lower ho25 (below_size (by repeat (first | (with_reducible first | exact HB.out | apply below_alloc | apply pw_below_drewN | apply below_drew1) | exact HB.out)))); have n4_ := Aside0.mk (below_step (by repeat (first | (with_reducible first | exact HB.out | apply below_alloc | apply pw_below_drewN | apply below_drew1) | exact HB.out)) hb); clear HO336; clear HO340; clear HO344; clear HB; clear HO347; clear HO350; have HO336 := n0_; have HO340 := n1_; have HO344 := n2_; have HO353 := n3_; have HB := n4_; clear n0_ n1_ n2_ n3_ n4_; clear hb ho25; obtain ⟨Ao26, co26, eo26⟩ := Kd.N_slice HO353.out; subst eo26) | (go_at_call 12; (with_reducible refine (impl_Serving.calls k _ _ y351 3 1 t354 t355 _ ?side1 ?side2 A12.out).mono ?_); (case side1 => repeat (first | exact (Kd.N_reads' HO353.out).2.2 | (with_reducible refine Kd.C_alloc ?_ _) | (with_reducible refine Kd.C_drewN ?_ _) | (with_reducible refine Kd.C_drew ?_))); (case side2 => exact (Kd.N_reads' HO353.out).2.1); rintro e w27 ⟨v356, rfl, ho0, hb⟩; have n0_ := Aside0.mk (Kd.N_elder' (by (with_reducible repeat (first | apply Kd.N_alloc | apply Kd.N_drewN | apply Kd.N_drew)); exact HO336.out) (Kd.R_base ho0) hb); have n1_ := Aside0.mk (Kd.R_elder' (by (with_reducible repeat (first | apply Kd.R_alloc | apply Kd.R_drewN | apply Kd.R_drew)); exact HO340.out) (Kd.R_base ho0) hb); have n2_ := Aside0.mk (Kd.R_elder' (by (with_reducible repeat (first | apply Kd.R_alloc | apply Kd.R_drewN | apply Kd.R_drew)); exact HO344.out) (Kd.R_base ho0) hb); have n3_ := Aside0.mk (Kd.N_elder' (by (with_reducible repeat (first | apply Kd.N_alloc | apply Kd.N_drewN | apply Kd.N_drew)); exact HO353.out) (Kd.R_base ho0) hb); have n4_ := Aside0.mk (Kd.R_lower (Kd.R_new' (Kd.R_new' ho0 (Kd.R_lt (by (with_reducible repeat (first | apply Kd.R_alloc | apply Kd.R_drewN | apply Kd.R_drew)); exact HO340.out))) (Kd.R_lt (by (with_reducible repeat (first | apply Kd.R_alloc | apply Kd.R_drewN | apply Kd.R_drew)); exact HO344.out))) (below_size (by repeat (first | (with_reducible first | exact HB.out | apply below_alloc | apply pw_below_drewN | apply below_drew1) | exact HB.out)))); have n5_ := Aside0.mk (below_step (by repeat (first | (with_reducible first | exact HB.out | apply below_alloc | apply pw_below_drewN | apply below_drew1) | exact HB.out)) hb); clear HO336; clear HO340; clear HO344; clear HO353; clear HB; have HO336 := n0_; have HO340 := n1_; have HO344 := n2_; have HO353 := n3_; have HO357 := n4_; have HB := n5_; clear n0_ n1_ n2_ n3_ n4_ n5_; (try clear hb); (try clear hb2); (try clear hk); (try clear hi); (try clear ho0))); go_upto_region 9 with (first | (go_at_call 18; (with_reducible refine (laws_big.calls _ _ l0 false _ ?side1 ?side2 A2.out).mono ?_); (case side1 => repeat (first | exact HR0.out | (with_reducible refine Kd.C_alloc ?_ _) | (with_reducible refine Kd.C_drewN ?_ _) | (with_reducible refine Kd.C_drew ?_))); (case side2 => exact HC0.out); rintro e w' ⟨rfl, ⟨nd, rfl⟩⟩; (try first | exact ⟨rfl, _, World.drewN_drewN _ _ _⟩ | exact ⟨rfl, _, Eq.trans (World.drewN_drewN _ _ _) (congrArg (World.drewN _) (Nat.add_assoc _ _ _))⟩)) | (go_at_call 19; (with_reducible refine (spec_DrawServing.calls k _ _ l0 t332 t333 t334 _ ?side1 ?side2 A4.out).mono ?_); (case side1 => repeat (first | exact HR0.out | (with_reducible refine Kd.C_alloc ?_ _) | (with_reducible refine Kd.C_drewN ?_ _) | (with_reducible refine Kd.C_drew ?_))); (case side2 => exact HC0.out); rintro e w14 ⟨v335, rfl, ho0, hb⟩; have n0_ := Aside0.mk (Kd.N_lower (Kd.N_mono (ok' := fun k_ => True) (Kd.S_N (Kd.S_bound ho0)) (fun k_ hk_ => trivial)) (below_size (by repeat (first | (with_reducible first | exact HB.out | apply below_alloc | apply pw_below_drewN | apply below_drew1) | exact HB.out)))); have n1_ := Aside0.mk (below_step (by repeat (first | (with_reducible first | exact HB.out | apply below_alloc | apply pw_below_drewN | apply below_drew1) | exact HB.out)) hb); clear HB; have HO336 := n0_; have HB := n1_; clear n0_ n1_; (try clear hb); (try clear hb2); (try clear hk); (try clear hi); (try clear ho0); obtain ⟨Ao15, co15, eo15⟩ := Kd.N_slice HO336.out; subst eo15) | (go_at_call 12; (with_reducible refine (impl_Serving.calls k _ _ t332 t333 t334 t337 t338 _ ?side1 ?side2 A5.out).mono ?_); (case side1 => repeat (first | exact (Kd.N_reads' HO336.out).2.2 | (with_reducible refine Kd.C_alloc ?_ _) | (with_reducible refine Kd.C_drewN ?_ _) | (with_reducible refine Kd.C_drew ?_))); (case side2 => exact (Kd.N_reads' HO336.out).2.1); rintro e w16 ⟨v339, rfl, ho0, hb⟩; have n0_ := Aside0.mk (Kd.N_elder' (by (with_reducible repeat (first | apply Kd.N_alloc | apply Kd.N_drewN | apply Kd.N_drew)); exact HO336.out) (Kd.R_base ho0) hb); have n1_ := Aside0.mk (Kd.R_lower ho0 (below_size (by repeat (first | (with_reducible first | exact HB.out | apply below_alloc | apply pw_below_drewN | apply below_drew1) | exact HB.out)))); have n2_ := Aside0.mk (below_step (by repeat (first | (with_reducible first | exact HB.out | apply below_alloc | apply pw_below_drewN | apply below_drew1) | exact HB.out)) hb); clear HO336; clear HB; have HO336 := n0_; have HO340 := n1_; have HB := n2_; clear n0_ n1_ n2_; (try clear hb); (try clear hb2); (try clear hk); (try clear hi); (try clear ho0)) | (go_at_call 10; (with_reducible refine (spec_Serving.calls k _ _ t332 t333 t334 t341 t342 _ ?side1 ?side2 A6.out).mono ?_); (case side1 => repeat (first | exact (Kd.N_reads' HO336.out).2.2 | (with_reducible refine Kd.C_alloc ?_ _) | (with_reducible refine Kd.C_drewN ?_ _) | (with_reducible refine Kd.C_drew ?_))); (case side2 => exact (Kd.N_reads' HO336.out).2.1); rintro e w17 ⟨v343, rfl, ho0, hb⟩; have n0_ := Aside0.mk (Kd.N_elder' (by (with_reducible repeat (first | apply Kd.N_alloc | apply Kd.N_drewN | apply Kd.N_drew)); exact HO336.out) (Kd.R_base ho0) hb); have n1_ := Aside0.mk (Kd.R_elder' (by (with_reducible repeat (first | apply Kd.R_alloc | apply Kd.R_drewN | apply Kd.R_drew)); exact HO340.out) (Kd.R_base ho0) hb); have n2_ := Aside0.mk (Kd.R_lower (Kd.R_new' ho0 (Kd.R_lt (by (with_reducible repeat (first | apply Kd.R_alloc | apply Kd.R_drewN | apply Kd.R_drew)); exact HO340.out))) (below_size (by repeat (first | (with_reducible first | exact HB.out | apply below_alloc | apply pw_below_drewN | apply below_drew1) | exact HB.out)))); have n3_ := Aside0.mk (below_step (by repeat (first | (with_reducible first | exact HB.out | apply below_alloc | apply pw_below_drewN | apply below_drew1) | exact HB.out)) hb); clear HO336; clear HO340; clear HB; have HO336 := n0_; have HO340 := n1_; have HO344 := n2_; have HB := n3_; clear n0_ n1_ n2_ n3_; (try clear hb); (try clear hb2); (try clear hk); (try clear hi); (try clear ho0)) | ((with_reducible refine gate_dst (N := 41) rfl ?_); (try (refine gate_guard (by rfl) ?_; dsimp only)); refine Kd.R_lit (Kd.int .i64) _ 3 ?hg (N := 41) ?hd (xs := ([(-50), (-60)] : List Int)) (inner := [.int .i64 (-50), .int .i64 (-60)]) (ok := fun _ => True) (okp := fun _ => True) ?hr ?hp (fun _ hk => hk) trivial (Below.refl _ _) (Nat.le_refl _) (by simp) ?_; (case hd => rfl); (case hg => rfl); (case hr => first | (go_simp; done) | (go_simp; rfl)); (case hp => exact (Reps.one (show Kd.M (Kd.int .i64) _ _ _ (-50) [.int .i64 (-50)] from rfl) (Reps.one (show Kd.M (Kd.int .i64) _ _ _ (-60) [.int .i64 (-60)] from rfl) (Reps.none _ _)))); intro v346 w18 ho19 hb hg_ hnew_; clear hg_ hnew_; (first | rw [← Ny345.out] at ho19 | (simp only [Int.reduceToNat] at ho19; rw [← Ny345.out] at ho19)); have n0_ := Aside0.mk (Kd.N_elder' (by (with_reducible repeat (first | apply Kd.N_alloc | apply Kd.N_drewN | apply Kd.N_drew)); exact HO336.out) (Kd.R_base ho19) hb); have n1_ := Aside0.mk (Kd.R_elder' (by (with_reducible repeat (first | apply Kd.R_alloc | apply Kd.R_drewN | apply Kd.R_drew)); exact HO340.out) (Kd.R_base ho19) hb); have n2_ := Aside0.mk (Kd.R_elder' (by (with_reducible repeat (first | apply Kd.R_alloc | apply Kd.R_drewN | apply Kd.R_drew)); exact HO344.out) (Kd.R_base ho19) hb); have n3_ := Aside0.mk (Kd.R_lower (Kd.R_new' (Kd.R_new' ho19 (Kd.R_lt (by (with_reducible repeat (first | apply Kd.R_alloc | apply Kd.R_drewN | apply Kd.R_drew)); exact HO340.out))) (Kd.R_lt (by (with_reducible repeat (first | apply Kd.R_alloc | apply Kd.R_drewN | apply Kd.R_drew)); exact HO344.out))) (below_size (by repeat (first | (with_reducible first | exact HB.out | apply below_alloc | apply pw_below_drewN | apply below_drew1) | exact HB.out)))); have n4_ := Aside0.mk (below_step (by repeat (first | (with_reducible first | exact HB.out | apply below_alloc | apply pw_below_drewN | apply below_drew1) | exact HB.out)) hb); clear HO336; clear HO340; clear HO344; clear HB; have HO336 := n0_; have HO340 := n1_; have HO344 := n2_; have HO347 := n3_; have HB := n4_; clear n0_ n1_ n2_ n3_ n4_; clear hb ho19) | ((with_reducible refine gate_dst (N := 42) rfl ?_); (try (refine gate_guard (by rfl) ?_; dsimp only)); refine Kd.R_lit (Kd.int .i64) _ 3 ?hg (N := 42) ?hd (xs := ([(-70), (-60)] : List Int)) (inner := [.int .i64 (-70), .int .i64 (-60)]) (ok := fun _ => True) (okp := fun _ => True) ?hr ?hp (fun _ hk => hk) trivial (Below.refl _ _) (Nat.le_refl _) (by simp) ?_; (case hd => rfl); (case hg => rfl); (case hr => first | (go_simp; done) | (go_simp; rfl)); (case hp => exact (Reps.one (show Kd.M (Kd.int .i64) _ _ _ (-70) [.int .i64 (-70)] from rfl) (Reps.one (show Kd.M (Kd.int .i64) _ _ _ (-60) [.int .i64 (-60)] from rfl) (Reps.none _ _)))); intro v349 w20 ho21 hb hg_ hnew_; clear hg_ hnew_; (first | rw [← Ny348.out] at ho21 | (simp only [Int.reduceToNat] at ho21; rw [← Ny348.out] at ho21)); have n0_ := Aside0.mk (Kd.N_elder' (by (with_reducible repeat (first | apply Kd.N_alloc | apply Kd.N_drewN | apply Kd.N_drew)); exact HO336.out) (Kd.R_base ho21) hb); have n1_ := Aside0.mk (Kd.R_elder' (by (with_reducible repeat (first | apply Kd.R_alloc | apply Kd.R_drewN | apply Kd.R_drew)); exact HO340.out) (Kd.R_base ho21) hb); have n2_ := Aside0.mk (Kd.R_elder' (by (with_reducible repeat (first | apply Kd.R_alloc | apply Kd.R_drewN | apply Kd.R_drew)); exact HO344.out) (Kd.R_base ho21) hb); have n3_ := Aside0.mk (Kd.R_elder' (by (with_reducible repeat (first | apply Kd.R_alloc | apply Kd.R_drewN | apply Kd.R_drew)); exact HO347.out) (Kd.R_base ho21) hb); have n4_ := Aside0.mk (Kd.R_lower (Kd.R_new' (Kd.R_new' (Kd.R_new' ho21 (Kd.R_lt (by (with_reducible repeat (first | apply Kd.R_alloc | apply Kd.R_drewN | apply Kd.R_drew)); exact HO340.out))) (Kd.R_lt (by (with_reducible repeat (first | apply Kd.R_alloc | apply Kd.R_drewN | apply Kd.R_drew)); exact HO344.out))) (Kd.R_lt (by (with_reducible repeat (first | apply Kd.R_alloc | apply Kd.R_drewN | apply Kd.R_drew)); exact HO347.out))) (below_size (by repeat (first | (with_reducible first | exact HB.out | apply below_alloc | apply pw_below_drewN | apply below_drew1) | exact HB.out)))); have n5_ := Aside0.mk (below_step (by repeat (first | (with_reducible first | exact HB.out | apply below_alloc | apply pw_below_drewN | apply below_drew1) | exact HB.out)) hb); clear HO336; clear HO340; clear HO344; clear HO347; clear HB; have HO336 := n0_; have HO340 := n1_; have HO344 := n2_; have HO347 := n3_; have HO350 := n4_; have HB := n5_; clear n0_ n1_ n2_ n3_ n4_ n5_; clear hb ho21; obtain ⟨Ao22, co22, eo22⟩ := Kd.R_slice HO347.out; subst eo22; obtain ⟨Ao23, co23, eo23⟩ := Kd.R_slice HO350.out; subst eo23) | ((with_reducible refine gate_dst (N := 43) rfl ?_); (try (refine gate_guard (by rfl) ?_; dsimp only)); refine Kd.N_lit (Kd.slice 3 (Kd.int .i64)) _ 24 ?hg (N' := 43) ?hd (xs := ([y345, y348] : List (List Int))) (inner := [.slice Ao22 y345.length co22, .slice Ao23 y348.length co23]) (ok := (fun k_ => some k_ ≠ (.slice Ao15 t332.length co15 : Value).ownBlock ∧ some k_ ≠ (v339 : Value).ownBlock ∧ some k_ ≠ (v343 : Value).ownBlock)) (okp := (fun k_ => some k_ ≠ (.slice Ao15 t332.length co15 : Value).ownBlock ∧ some k_ ≠ (v339 : Value).ownBlock ∧ some k_ ≠ (v343 : Value).ownBlock)) ?hr ?hp (fun _ hk => hk) ((show ∀ k_, w20.heap.size ≤ k_ → (fun k_ => some k_ ≠ (.slice Ao15 t332.length co15 : Value).ownBlock ∧ some k_ ≠ (v339 : Value).ownBlock ∧ some k_ ≠ (v343 : Value).ownBlock) k_ from fun k_ hk => ⟨Kd.fresh' (Kd.N_lt (by (with_reducible repeat (first | apply Kd.N_alloc | apply Kd.N_drewN | apply Kd.N_drew)); exact HO336.out)) k_ hk, Kd.fresh' (Kd.R_lt (by (with_reducible repeat (first | apply Kd.R_alloc | apply Kd.R_drewN | apply Kd.R_drew)); exact HO340.out)) k_ hk, Kd.fresh' (Kd.R_lt (by (with_reducible repeat (first | apply Kd.R_alloc | apply Kd.R_drewN | apply Kd.R_drew)); exact HO344.out)) k_ hk⟩) _ (Nat.le_refl _)) (Below.refl _ _) (Nat.le_refl _) (by simp) ?_; (case hd => rfl); (case hg => rfl); (case hr => first | (go_simp; done) | (go_simp; rfl)); (case hp => exact (Reps.one (show Kd.FK (Kd.slice 3 (Kd.int .i64)) _ _ y345 [.slice Ao22 y345.length co22] from (Kd.FK_slice_mk (Kd.R_reads' (Kd.R_mono (ok' := (fun k_ => some k_ ≠ (.slice Ao15 t332.length co15 : Value).ownBlock ∧ some k_ ≠ (v339 : Value).ownBlock ∧ some k_ ≠ (v343 : Value).ownBlock)) (Kd.R_apart' (HO347.out) (Kd.N_typed HO336.out) (by decide)) (fun k_ hk => ⟨hk.2, ⟨hk.1.1.1.2, hk.1.1.2⟩⟩))).2.1 (Kd.R_F (Kd.R_mono (ok' := (fun k_ => some k_ ≠ (.slice Ao15 t332.length co15 : Value).ownBlock ∧ some k_ ≠ (v339 : Value).ownBlock ∧ some k_ ≠ (v343 : Value).ownBlock)) (Kd.R_apart' (HO347.out) (Kd.N_typed HO336.out) (by decide)) (fun k_ hk => ⟨hk.2, ⟨hk.1.1.1.2, hk.1.1.2⟩⟩))))) (Reps.one (show Kd.FK (Kd.slice 3 (Kd.int .i64)) _ _ y348 [.slice Ao23 y348.length co23] from (Kd.FK_slice_mk (Kd.R_reads' (Kd.R_mono (ok' := (fun k_ => some k_ ≠ (.slice Ao15 t332.length co15 : Value).ownBlock ∧ some k_ ≠ (v339 : Value).ownBlock ∧ some k_ ≠ (v343 : Value).ownBlock)) (Kd.R_apart' (HO350.out) (Kd.N_typed HO336.out) (by decide)) (fun k_ hk => ⟨hk.2, ⟨hk.1.1.1.2, hk.1.1.2⟩⟩))).2.1 (Kd.R_F (Kd.R_mono (ok' := (fun k_ => some k_ ≠ (.slice Ao15 t332.length co15 : Value).ownBlock ∧ some k_ ≠ (v339 : Value).ownBlock ∧ some k_ ≠ (v343 : Value).ownBlock)) (Kd.R_apart' (HO350.out) (Kd.N_typed HO336.out) (by decide)) (fun k_ hk => ⟨hk.2, ⟨hk.1.1.1.2, hk.1.1.2⟩⟩))))) (Reps.none _ _)))); intro v352 w24 ho25 hb hg_ hnew_; clear hg_ hnew_; (first | rw [← Ny351.out] at ho25 | (simp only [Int.reduceToNat] at ho25; rw [← Ny351.out] at ho25)); have n0_ := Aside0.mk (Kd.N_elder' (by (with_reducible repeat (first | apply Kd.N_alloc | apply Kd.N_drewN | apply Kd.N_drew)); exact HO336.out) (Kd.N_base ho25) hb); have n1_ := Aside0.mk (Kd.R_below (by (with_reducible repeat (first | apply Kd.R_alloc | apply Kd.R_drewN | apply Kd.R_drew)); exact HO340.out) hb); have n2_ := Aside0.mk (Kd.R_below (by (with_reducible repeat (first | apply Kd.R_alloc | apply Kd.R_drewN | apply Kd.R_drew)); exact HO344.out) hb); have n3_ := Aside0.mk (Kd.N_lower ho25 (below_size (by repeat (first | (with_reducible first | exact HB.out | apply below_alloc | apply pw_below_drewN | apply below_drew1) | exact HB.out)))); have n4_ := Aside0.mk (below_step (by repeat (first | (with_reducible first | exact HB.out | apply below_alloc | apply pw_below_drewN | apply below_drew1) | exact HB.out)) hb); clear HO336; clear HO340; clear HO344; clear HB; clear HO347; clear HO350; have HO336 := n0_; have HO340 := n1_; have HO344 := n2_; have HO353 := n3_; have HB := n4_; clear n0_ n1_ n2_ n3_ n4_; clear hb ho25; obtain ⟨Ao26, co26, eo26⟩ := Kd.N_slice HO353.out; subst eo26) | (go_at_call 12; (with_reducible refine (impl_Serving.calls k _ _ y351 3 1 t354 t355 _ ?side1 ?side2 A12.out).mono ?_); (case side1 => repeat (first | exact (Kd.N_reads' HO353.out).2.2 | (with_reducible refine Kd.C_alloc ?_ _) | (with_reducible refine Kd.C_drewN ?_ _) | (with_reducible refine Kd.C_drew ?_))); (case side2 => exact (Kd.N_reads' HO353.out).2.1); rintro e w27 ⟨v356, rfl, ho0, hb⟩; have n0_ := Aside0.mk (Kd.N_elder' (by (with_reducible repeat (first | apply Kd.N_alloc | apply Kd.N_drewN | apply Kd.N_drew)); exact HO336.out) (Kd.R_base ho0) hb); have n1_ := Aside0.mk (Kd.R_elder' (by (with_reducible repeat (first | apply Kd.R_alloc | apply Kd.R_drewN | apply Kd.R_drew)); exact HO340.out) (Kd.R_base ho0) hb); have n2_ := Aside0.mk (Kd.R_elder' (by (with_reducible repeat (first | apply Kd.R_alloc | apply Kd.R_drewN | apply Kd.R_drew)); exact HO344.out) (Kd.R_base ho0) hb); have n3_ := Aside0.mk (Kd.N_elder' (by (with_reducible repeat (first | apply Kd.N_alloc | apply Kd.N_drewN | apply Kd.N_drew)); exact HO353.out) (Kd.R_base ho0) hb); have n4_ := Aside0.mk (Kd.R_lower (Kd.R_new' (Kd.R_new' ho0 (Kd.R_lt (by (with_reducible repeat (first | apply Kd.R_alloc | apply Kd.R_drewN | apply Kd.R_drew)); exact HO340.out))) (Kd.R_lt (by (with_reducible repeat (first | apply Kd.R_alloc | apply Kd.R_drewN | apply Kd.R_drew)); exact HO344.out))) (below_size (by repeat (first | (with_reducible first | exact HB.out | apply below_alloc | apply pw_below_drewN | apply below_drew1) | exact HB.out)))); have n5_ := Aside0.mk (below_step (by repeat (first | (with_reducible first | exact HB.out | apply below_alloc | apply pw_below_drewN | apply below_drew1) | exact HB.out)) hb); clear HO336; clear HO340; clear HO344; clear HO353; clear HB; have HO336 := n0_; have HO340 := n1_; have HO344 := n2_; have HO353 := n3_; have HO357 := n4_; have HB := n5_; clear n0_ n1_ n2_ n3_ n4_ n5_; (try clear hb); (try clear hb2); (try clear hk); (try clear hi); (try clear ho0))))
          (try simp only [Act.put, List.setIfInBounds_toArray, List.set_cons_zero, List.set_cons_succ])
          go_cut [54] (fun v54 wc => ∃ (kq : Nat) (x54_12 : Bool), v54 = .bool x54_12 ∧ Aside0 (laws_FnServed.j0 kq t332 t333 t334 t337 t338 x54_12 = some r) ∧ Aside0 (kq ≤ k) ∧ Aside0 (Kd.N (Kd.slice 3 (Kd.int .i64)) 24 wc w.heap.size (fun k_ => some k_ ≠ (v339 : Value).ownBlock) (.slice Ao15 t332.length co15) t332) ∧ Aside0 (Kd.R (Kd.int .i64) 3 wc w.heap.size (fun _ => True) v339 t337) ∧ Aside0 (Below w.heap.size w wc))
          case first =>
            have H := HC13.out
            clear HC13
            by_cases c28 : t355 = true
            · as_aux_lemma =>
                subst c28
                have H1 : ((laws_sameInts.f k t354 (([0, 1] : List Int))).bind fun t361 => (laws_FnServed.j0 k t332 t333 t334 t337 t338 (!t361))) = some r := by rw [if_pos rfl] at H; exact H
                clear H
                have H := H1
                clear H1
                obtain ⟨y358, hy358⟩ : ∃ y_ : List Int, y_ = (([0, 1] : List Int)) := ⟨_, rfl⟩
                replace H : ((laws_sameInts.f k t354 y358).bind fun t361 => (laws_FnServed.j0 k t332 t333 t334 t337 t338 (!t361))) = some r := by first | (rw [hy358]; with_reducible exact H) | (have H2_ := (Option.bind_some _ _).symm.trans H; rw [hy358]; with_reducible exact H2_) | (have H2_ := (Option.bind_some _ _).symm.trans H; with_reducible exact H2_) | with_reducible exact H | (rw [hy358]; exact H) | exact H
                have Ny358 := Aside0.mk hy358
                clear hy358
                replace H := Option.bind_eq_some_iff.mp H
                obtain ⟨t361, A290, H⟩ := H
                replace H : (laws_FnServed.j0 k t332 t333 t334 t337 t338 (!t361)) = some r := H
                have A29 := Aside0.mk A290
                clear A290
                have H' := Aside0.mk H
                clear H
                go_wp2_with (first | ((with_reducible refine gate_dst (N := 51) rfl ?_); (try (refine gate_guard (by rfl) ?_; dsimp only)); refine Kd.R_lit (Kd.int .i64) _ 3 ?hg (N := 51) ?hd (xs := ([0, 1] : List Int)) (inner := [.int .i64 0, .int .i64 1]) (ok := fun _ => True) (okp := fun _ => True) ?hr ?hp (fun _ hk => hk) trivial (Below.refl _ _) (Nat.le_refl _) (by simp) ?_; (case hd => rfl); (case hg => rfl); (case hr => first | (go_simp; done) | (go_simp; rfl)); (case hp => exact (Reps.one (show Kd.M (Kd.int .i64) _ _ _ 0 [.int .i64 0] from rfl) (Reps.one (show Kd.M (Kd.int .i64) _ _ _ 1 [.int .i64 1] from rfl) (Reps.none _ _)))); intro v359 w30 ho31 hb hg_ hnew_; clear hg_ hnew_; (first | rw [← Ny358.out] at ho31 | (simp only [Int.reduceToNat] at ho31; rw [← Ny358.out] at ho31)); have n0_ := Aside0.mk (Kd.N_elder' (by (with_reducible repeat (first | apply Kd.N_alloc | apply Kd.N_drewN | apply Kd.N_drew)); exact HO336.out) (Kd.R_base ho31) hb); have n1_ := Aside0.mk (Kd.R_elder' (by (with_reducible repeat (first | apply Kd.R_alloc | apply Kd.R_drewN | apply Kd.R_drew)); exact HO340.out) (Kd.R_base ho31) hb); have n2_ := Aside0.mk (Kd.R_elder' (by (with_reducible repeat (first | apply Kd.R_alloc | apply Kd.R_drewN | apply Kd.R_drew)); exact HO344.out) (Kd.R_base ho31) hb); have n3_ := Aside0.mk (Kd.N_elder' (by (with_reducible repeat (first | apply Kd.N_alloc | apply Kd.N_drewN | apply Kd.N_drew)); exact HO353.out) (Kd.R_base ho31) hb); have n4_ := Aside0.mk (Kd.R_elder' (by (with_reducible repeat (first | apply Kd.R_alloc | apply Kd.R_drewN | apply Kd.R_drew)); exact HO357.out) (Kd.R_base ho31) hb); have n5_ := Aside0.mk (Kd.R_lower (Kd.R_new' (Kd.R_new' (Kd.R_new' ho31 (Kd.R_lt (by (with_reducible repeat (first | apply Kd.R_alloc | apply Kd.R_drewN | apply Kd.R_drew)); exact HO340.out))) (Kd.R_lt (by (with_reducible repeat (first | apply Kd.R_alloc | apply Kd.R_drewN | apply Kd.R_drew)); exact HO344.out))) (Kd.R_lt (by (with_reducible repeat (first | apply Kd.R_alloc | apply Kd.R_drewN | apply Kd.R_drew)); exact HO357.out))) (below_size (by repeat (first | (with_reducible first | exact HB.out | apply below_alloc | apply pw_below_drewN | apply below_drew1) | exact HB.out)))); have n6_ := Aside0.mk (below_step (by repeat (first | (with_reducible first | exact HB.out | apply below_alloc | apply pw_below_drewN | apply below_drew1) | exact HB.out)) hb); clear HO336; clear HO340; clear HO344; clear HO353; clear HO357; clear HB; have HO336 := n0_; have HO340 := n1_; have HO344 := n2_; have HO353 := n3_; have HO357 := n4_; have HO360 := n5_; have HB := n6_; clear n0_ n1_ n2_ n3_ n4_ n5_ n6_; clear hb ho31; obtain ⟨Ao32, co32, eo32⟩ := Kd.R_slice HO357.out; subst eo32; obtain ⟨Ao33, co33, eo33⟩ := Kd.R_slice HO360.out; subst eo33) | (go_at_call 20; (with_reducible refine (laws_sameInts.calls k _ _ t354 _ _ y358 t361 _ ?side1 ?side2 ?side3 ?side4 A29.out).mono ?_); (case side1 => repeat (first | exact (Kd.R_reads' HO357.out).2.2 | (with_reducible refine Kd.C_alloc ?_ _) | (with_reducible refine Kd.C_drewN ?_ _) | (with_reducible refine Kd.C_drew ?_))); (case side2 => exact (Kd.R_reads' HO357.out).2.1); (case side3 => repeat (first | exact (Kd.R_reads' HO360.out).2.2 | (with_reducible refine Kd.C_alloc ?_ _) | (with_reducible refine Kd.C_drewN ?_ _) | (with_reducible refine Kd.C_drew ?_))); (case side4 => exact (Kd.R_reads' HO360.out).2.1); rintro e w' ⟨rfl, ⟨nd, rfl⟩⟩; (try first | exact ⟨rfl, _, World.drewN_drewN _ _ _⟩ | exact ⟨rfl, _, Eq.trans (World.drewN_drewN _ _ _) (congrArg (World.drewN _) (Nat.add_assoc _ _ _))⟩)))
                repeat (go_quiet (first | ((with_reducible refine gate_dst (N := 51) rfl ?_); (try (refine gate_guard (by rfl) ?_; dsimp only)); refine Kd.R_lit (Kd.int .i64) _ 3 ?hg (N := 51) ?hd (xs := ([0, 1] : List Int)) (inner := [.int .i64 0, .int .i64 1]) (ok := fun _ => True) (okp := fun _ => True) ?hr ?hp (fun _ hk => hk) trivial (Below.refl _ _) (Nat.le_refl _) (by simp) ?_; (case hd => rfl); (case hg => rfl); (case hr => first | (go_simp; done) | (go_simp; rfl)); (case hp => exact (Reps.one (show Kd.M (Kd.int .i64) _ _ _ 0 [.int .i64 0] from rfl) (Reps.one (show Kd.M (Kd.int .i64) _ _ _ 1 [.int .i64 1] from rfl) (Reps.none _ _)))); intro v359 w30 ho31 hb hg_ hnew_; clear hg_ hnew_; (first | rw [← Ny358.out] at ho31 | (simp only [Int.reduceToNat] at ho31; rw [← Ny358.out] at ho31)); have n0_ := Aside0.mk (Kd.N_elder' (by (with_reducible repeat (first | apply Kd.N_alloc | apply Kd.N_drewN | apply Kd.N_drew)); exact HO336.out) (Kd.R_base ho31) hb); have n1_ := Aside0.mk (Kd.R_elder' (by (with_reducible repeat (first | apply Kd.R_alloc | apply Kd.R_drewN | apply Kd.R_drew)); exact HO340.out) (Kd.R_base ho31) hb); have n2_ := Aside0.mk (Kd.R_elder' (by (with_reducible repeat (first | apply Kd.R_alloc | apply Kd.R_drewN | apply Kd.R_drew)); exact HO344.out) (Kd.R_base ho31) hb); have n3_ := Aside0.mk (Kd.N_elder' (by (with_reducible repeat (first | apply Kd.N_alloc | apply Kd.N_drewN | apply Kd.N_drew)); exact HO353.out) (Kd.R_base ho31) hb); have n4_ := Aside0.mk (Kd.R_elder' (by (with_reducible repeat (first | apply Kd.R_alloc | apply Kd.R_drewN | apply Kd.R_drew)); exact HO357.out) (Kd.R_base ho31) hb); have n5_ := Aside0.mk (Kd.R_lower (Kd.R_new' (Kd.R_new' (Kd.R_new' ho31 (Kd.R_lt (by (with_reducible repeat (first | apply Kd.R_alloc | apply Kd.R_drewN | apply Kd.R_drew)); exact HO340.out))) (Kd.R_lt (by (with_reducible repeat (first | apply Kd.R_alloc | apply Kd.R_drewN | apply Kd.R_drew)); exact HO344.out))) (Kd.R_lt (by (with_reducible repeat (first | apply Kd.R_alloc | apply Kd.R_drewN | apply Kd.R_drew)); exact HO357.out))) (below_size (by repeat (first | (with_reducible first | exact HB.out | apply below_alloc | apply pw_below_drewN | apply below_drew1) | exact HB.out)))); have n6_ := Aside0.mk (below_step (by repeat (first | (with_reducible first | exact HB.out | apply below_alloc | apply pw_below_drewN | apply below_drew1) | exact HB.out)) hb); clear HO336; clear HO340; clear HO344; clear HO353; clear HO357; clear HB; have HO336 := n0_; have HO340 := n1_; have HO344 := n2_; have HO353 := n3_; have HO357 := n4_; have HO360 := n5_; have HB := n6_; clear n0_ n1_ n2_ n3_ n4_ n5_ n6_; clear hb ho31; obtain ⟨Ao32, co32, eo32⟩ := Kd.R_slice HO357.out; subst eo32; obtain ⟨Ao33, co33, eo33⟩ := Kd.R_slice HO360.out; subst eo33) | (go_at_call 20; (with_reducible refine (laws_sameInts.calls k _ _ t354 _ _ y358 t361 _ ?side1 ?side2 ?side3 ?side4 A29.out).mono ?_); (case side1 => repeat (first | exact (Kd.R_reads' HO357.out).2.2 | (with_reducible refine Kd.C_alloc ?_ _) | (with_reducible refine Kd.C_drewN ?_ _) | (with_reducible refine Kd.C_drew ?_))); (case side2 => exact (Kd.R_reads' HO357.out).2.1); (case side3 => repeat (first | exact (Kd.R_reads' HO360.out).2.2 | (with_reducible refine Kd.C_alloc ?_ _) | (with_reducible refine Kd.C_drewN ?_ _) | (with_reducible refine Kd.C_drew ?_))); (case side4 => exact (Kd.R_reads' HO360.out).2.1); rintro e w' ⟨rfl, ⟨nd, rfl⟩⟩; (try first | exact ⟨rfl, _, World.drewN_drewN _ _ _⟩ | exact ⟨rfl, _, Eq.trans (World.drewN_drewN _ _ _) (congrArg (World.drewN _) (Nat.add_assoc _ _ _))⟩))); try go_wp2_with (first | ((with_reducible refine gate_dst (N := 51) rfl ?_); (try (refine gate_guard (by rfl) ?_; dsimp only)); refine Kd.R_lit (Kd.int .i64) _ 3 ?hg (N := 51) ?hd (xs := ([0, 1] : List Int)) (inner := [.int .i64 0, .int .i64 1]) (ok := fun _ => True) (okp := fun _ => True) ?hr ?hp (fun _ hk => hk) trivial (Below.refl _ _) (Nat.le_refl _) (by simp) ?_; (case hd => rfl); (case hg => rfl); (case hr => first | (go_simp; done) | (go_simp; rfl)); (case hp => exact (Reps.one (show Kd.M (Kd.int .i64) _ _ _ 0 [.int .i64 0] from rfl) (Reps.one (show Kd.M (Kd.int .i64) _ _ _ 1 [.int .i64 1] from rfl) (Reps.none _ _)))); intro v359 w30 ho31 hb hg_ hnew_; clear hg_ hnew_; (first | rw [← Ny358.out] at ho31 | (simp only [Int.reduceToNat] at ho31; rw [← Ny358.out] at ho31)); have n0_ := Aside0.mk (Kd.N_elder' (by (with_reducible repeat (first | apply Kd.N_alloc | apply Kd.N_drewN | apply Kd.N_drew)); exact HO336.out) (Kd.R_base ho31) hb); have n1_ := Aside0.mk (Kd.R_elder' (by (with_reducible repeat (first | apply Kd.R_alloc | apply Kd.R_drewN | apply Kd.R_drew)); exact HO340.out) (Kd.R_base ho31) hb); have n2_ := Aside0.mk (Kd.R_elder' (by (with_reducible repeat (first | apply Kd.R_alloc | apply Kd.R_drewN | apply Kd.R_drew)); exact HO344.out) (Kd.R_base ho31) hb); have n3_ := Aside0.mk (Kd.N_elder' (by (with_reducible repeat (first | apply Kd.N_alloc | apply Kd.N_drewN | apply Kd.N_drew)); exact HO353.out) (Kd.R_base ho31) hb); have n4_ := Aside0.mk (Kd.R_elder' (by (with_reducible repeat (first | apply Kd.R_alloc | apply Kd.R_drewN | apply Kd.R_drew)); exact HO357.out) (Kd.R_base ho31) hb); have n5_ := Aside0.mk (Kd.R_lower (Kd.R_new' (Kd.R_new' (Kd.R_new' ho31 (Kd.R_lt (by (with_reducible repeat (first | apply Kd.R_alloc | apply Kd.R_drewN | apply Kd.R_drew)); exact HO340.out))) (Kd.R_lt (by (with_reducible repeat (first | apply Kd.R_alloc | apply Kd.R_drewN | apply Kd.R_drew)); exact HO344.out))) (Kd.R_lt (by (with_reducible repeat (first | apply Kd.R_alloc | apply Kd.R_drewN | apply Kd.R_drew)); exact HO357.out))) (below_size (by repeat (first | (with_reducible first | exact HB.out | apply below_alloc | apply pw_below_drewN | apply below_drew1) | exact HB.out)))); have n6_ := Aside0.mk (below_step (by repeat (first | (with_reducible first | exact HB.out | apply below_alloc | apply pw_below_drewN | apply below_drew1) | exact HB.out)) hb); clear HO336; clear HO340; clear HO344; clear HO353; clear HO357; clear HB; have HO336 := n0_; have HO340 := n1_; have HO344 := n2_; have HO353 := n3_; have HO357 := n4_; have HO360 := n5_; have HB := n6_; clear n0_ n1_ n2_ n3_ n4_ n5_ n6_; clear hb ho31; obtain ⟨Ao32, co32, eo32⟩ := Kd.R_slice HO357.out; subst eo32; obtain ⟨Ao33, co33, eo33⟩ := Kd.R_slice HO360.out; subst eo33) | (go_at_call 20; (with_reducible refine (laws_sameInts.calls k _ _ t354 _ _ y358 t361 _ ?side1 ?side2 ?side3 ?side4 A29.out).mono ?_); (case side1 => repeat (first | exact (Kd.R_reads' HO357.out).2.2 | (with_reducible refine Kd.C_alloc ?_ _) | (with_reducible refine Kd.C_drewN ?_ _) | (with_reducible refine Kd.C_drew ?_))); (case side2 => exact (Kd.R_reads' HO357.out).2.1); (case side3 => repeat (first | exact (Kd.R_reads' HO360.out).2.2 | (with_reducible refine Kd.C_alloc ?_ _) | (with_reducible refine Kd.C_drewN ?_ _) | (with_reducible refine Kd.C_drew ?_))); (case side4 => exact (Kd.R_reads' HO360.out).2.1); rintro e w' ⟨rfl, ⟨nd, rfl⟩⟩; (try first | exact ⟨rfl, _, World.drewN_drewN _ _ _⟩ | exact ⟨rfl, _, Eq.trans (World.drewN_drewN _ _ _) (congrArg (World.drewN _) (Nat.add_assoc _ _ _))⟩))))
                go_meet
                case rel => exact ⟨_, (!t361), (by first | rfl | (simp; done) | (simp [*]; done)), H', ⟨by first | omega | exact Nat.le_refl _⟩, ⟨by (with_reducible repeat (first | apply Kd.N_alloc | apply Kd.N_drewN | apply Kd.N_drew)); exact Kd.N_mono HO336.out (fun _ hk => hk.1.1.1.1.1.1.2)⟩, ⟨by (with_reducible repeat (first | apply Kd.R_alloc | apply Kd.R_drewN | apply Kd.R_drew)); exact Kd.R_mono HO340.out (fun _ hk => trivial)⟩, ⟨by repeat (first | (with_reducible first | exact HB.out | apply below_alloc | apply pw_below_drewN | apply below_drew1) | exact HB.out)⟩⟩
            · as_aux_lemma =>
                replace c28 := Bool.eq_false_iff.mpr c28
                subst c28
                have H1 : (laws_FnServed.j0 k t332 t333 t334 t337 t338 true) = some r := by rw [if_neg (show ¬ (false = true) by decide)] at H; exact H
                clear H
                have H := H1
                clear H1
                have H' := Aside0.mk H
                clear H
                go_wp2
                repeat (go_quiet (fail); try go_wp2)
                go_meet
                case rel => exact ⟨_, (true), (by first | rfl | (simp; done) | (simp [*]; done)), H', ⟨by first | omega | exact Nat.le_refl _⟩, ⟨by (with_reducible repeat (first | apply Kd.N_alloc | apply Kd.N_drewN | apply Kd.N_drew)); exact Kd.N_mono HO336.out (fun _ hk => hk.1.1.1.1.1.2)⟩, ⟨by (with_reducible repeat (first | apply Kd.R_alloc | apply Kd.R_drewN | apply Kd.R_drew)); exact Kd.R_mono HO340.out (fun _ hk => trivial)⟩, ⟨by repeat (first | (with_reducible first | exact HB.out | apply below_alloc | apply pw_below_drewN | apply below_drew1) | exact HB.out)⟩⟩
          case rest =>
            clear HC13
            try clear c2
            try clear p2
            try clear c3
            try clear c4
            try clear c7
            try clear c7b0
            try clear c7b1
            try clear c7b2
            try clear c28
            obtain ⟨kq, x54_12, rfl, HA, HJ12, HO_3, HO_6, HB⟩ := hcut
            cases kq with
            | zero => exact absurd HA.out (by simp [laws_FnServed.j0])
            | succ kj12 =>
              have H := HA.out
              clear HA
              simp only [laws_FnServed.j0] at H
              by_cases c34 : x54_12 = true
              · as_aux_lemma =>
                  subst c34
                  have H1 : (some false) = some r := by rw [if_pos rfl] at H; exact H
                  clear H
                  have H := H1
                  clear H1
                  obtain rfl := Option.some.inj H
                  go_wp2
                  repeat (go_quiet (fail); try go_wp2)
                  go_ret
                  exact ⟨by first | rfl | (simp [errW_none, errW_some] <;> rfl) | (simp [*, errW_none, errW_some] <;> rfl), by repeat (first | (with_reducible first | exact HB.out | apply below_alloc | apply pw_below_drewN | apply below_drew1) | exact HB.out)⟩
              · as_aux_lemma =>
                  replace c34 := Bool.eq_false_iff.mpr c34
                  subst c34
                  have H1 : (if t338 = true then (laws_FnServed.l0 kj12 t332 t333 t334 t337 0) else (some ((t337.length : Int) == 0))) = some r := by rw [if_neg (show ¬ (false = true) by decide)] at H; exact H
                  clear H
                  have H := H1
                  clear H1
                  by_cases c35 : t338 = true
                  · as_aux_lemma =>
                      subst c35
                      have H1 : (laws_FnServed.l0 kj12 t332 t333 t334 t337 0) = some r := by rw [if_pos rfl] at H; exact H
                      clear H
                      have H := H1
                      clear H1
                      have H' := Aside0.mk H
                      clear H
                      go_wp2
                      repeat (go_quiet (fail); try go_wp2)
                      go_loopg [12] kj12 (fun kq v12 w' => ∃ (x12_2 : Int), v12 = .int .i64 x12_2 ∧ Aside0 (laws_FnServed.l0 kq t332 t333 t334 t337 x12_2 = some r) ∧ Aside0 (kq ≤ kj12) ∧ Aside0 (Kd.N (Kd.slice 3 (Kd.int .i64)) 24 w' w.heap.size (fun k_ => some k_ ≠ (v339 : Value).ownBlock) (.slice Ao15 t332.length co15) t332) ∧ Aside0 (Kd.R (Kd.int .i64) 3 w' w.heap.size (fun _ => True) v339 t337) ∧ Aside0 (Below w.heap.size w w'))
                      case atStart => exact ⟨(0), (by first | rfl | (simp; done) | (simp [*]; done)), H', ⟨Nat.le_refl _⟩, ⟨by (with_reducible repeat (first | apply Kd.N_alloc | apply Kd.N_drewN | apply Kd.N_drew)); exact HO_3.out⟩, ⟨by (with_reducible repeat (first | apply Kd.R_alloc | apply Kd.R_drewN | apply Kd.R_drew)); exact HO_6.out⟩, ⟨by repeat (first | (with_reducible first | exact HB.out | apply below_alloc | apply pw_below_drewN | apply below_drew1) | exact HB.out)⟩⟩
                      case round =>
                        clear H'
                        try clear c2
                        try clear p2
                        try clear c3
                        try clear c4
                        try clear c7
                        try clear c7b0
                        try clear c7b1
                        try clear c7b2
                        try clear c28
                        try clear c34
                        try clear c35
                        try clear p2
                        obtain ⟨x12_2, rfl, HA, HK2, HO_3, HO_6, HB⟩ := hrel
                        cases gk with
                        | zero => exact absurd HA.out (by simp [laws_FnServed.l0])
                        | succ k2 =>
                          have H := HA.out
                          clear HA
                          simp only [laws_FnServed.l0] at H
                          by_cases c36 : x12_2 < (t337.length : Int)
                          · as_aux_lemma =>
                              rw [if_pos c36] at H
                              have c36b0 : decide (x12_2 < (t337.length : Int)) = true := decide_eq_true c36
                              clear c36
                              by_cases c37 : 0 ≤ x12_2
                              · as_aux_lemma =>
                                  rw [if_pos c37] at H
                                  have c37b0 : decide (0 ≤ x12_2) = true := decide_eq_true c37
                                  clear c37
                                  by_cases c38 : (rd t337 x12_2) < 0
                                  · as_aux_lemma =>
                                      rw [if_pos c38] at H
                                      have c38b0 : decide ((rd t337 x12_2) < 0) = true := decide_eq_true c38
                                      clear c38
                                      obtain rfl := Option.some.inj H
                                      obtain ⟨Ao39, co39, eo39⟩ := Kd.R_slice HO_6.out
                                      subst eo39
                                      have p362 : 0 ≤ (x12_2 : Int) := of_decide_eq_true (by first | (with_reducible assumption) | assumption)
                                      have q362 : x12_2 < (t337.length : Int) := of_decide_eq_true (by first | (with_reducible assumption) | assumption)
                                      obtain ⟨ad362, e362, hx362_0⟩ := Kd.at_int (Kd.R_reads' HO_6.out).2.2 x12_2 p362 q362
                                      cases e362
                                      replace p362 := eq_true p362
                                      replace q362 := eq_true q362
                                      go_wp2
                                      repeat (go_quiet (fail); try go_wp2)
                                      go_ret
                                      exact ⟨by first | rfl | (simp [errW_none, errW_some] <;> rfl) | (simp [*, errW_none, errW_some] <;> rfl), by repeat (first | (with_reducible first | exact HB.out | apply below_alloc | apply pw_below_drewN | apply below_drew1) | exact HB.out)⟩
                                  · as_aux_lemma =>
                                      rw [if_neg c38] at H
                                      have c38b0 : decide ((rd t337 x12_2) < 0) = false := decide_eq_false c38
                                      clear c38
                                      by_cases c40 : x12_2 < (t332.length : Int)
                                      · as_aux_lemma =>
                                          rw [if_pos c40] at H
                                          have c40b0 : decide (x12_2 < (t332.length : Int)) = true := decide_eq_true c40
                                          clear c40
                                          by_cases c41 : (rd t337 x12_2) ≥ ((rd_L1 t332 x12_2).length : Int)
                                          · as_aux_lemma =>
                                              rw [if_pos c41] at H
                                              have c41b0 : decide (((rd_L1 t332 x12_2).length : Int) ≤ (rd t337 x12_2)) = true := decide_eq_true c41
                                              clear c41
                                              obtain rfl := Option.some.inj H
                                              obtain ⟨Ao42, co42, eo42⟩ := Kd.R_slice HO_6.out
                                              subst eo42
                                              have p362 : 0 ≤ (x12_2 : Int) := of_decide_eq_true (by first | (with_reducible assumption) | assumption)
                                              have q362 : x12_2 < (t337.length : Int) := of_decide_eq_true (by first | (with_reducible assumption) | assumption)
                                              obtain ⟨ad362, e362, hx362_0⟩ := Kd.at_int (Kd.R_reads' HO_6.out).2.2 x12_2 p362 q362
                                              cases e362
                                              replace p362 := eq_true p362
                                              replace q362 := eq_true q362
                                              have p363 : 0 ≤ (x12_2 : Int) := of_decide_eq_true (by first | (with_reducible assumption) | assumption)
                                              have q363 : x12_2 < (t337.length : Int) := of_decide_eq_true (by first | (with_reducible assumption) | assumption)
                                              obtain ⟨ad363, e363, hx363_0⟩ := Kd.at_int (Kd.R_reads' HO_6.out).2.2 x12_2 p363 q363
                                              obtain rfl : ad362 = ad363 := (by injection e363)
                                              replace p363 := eq_true p363
                                              replace q363 := eq_true q363
                                              have p364 : 0 ≤ (x12_2 : Int) := of_decide_eq_true (by first | (with_reducible assumption) | assumption)
                                              have q364 : x12_2 < (t332.length : Int) := of_decide_eq_true (by first | (with_reducible assumption) | assumption)
                                              obtain ⟨ad364, A364_0, c364_0, e364, hx364_0, hl364_0, hi364_0⟩ := at_L1 (Kd.N_reads' HO_3.out).2.2 x12_2 p364 q364
                                              cases e364
                                              obtain ⟨ce364, hce364, hMe364, hcc364⟩ := Kd.N_get HO_3.out [] x12_2 p364 (by first | exact q364 | exact of_decide_eq_true (by first | (with_reducible assumption) | assumption) | (have e_ := (Kd.N_reads' HO_3.out).1; omega))
                                              obtain ⟨ua364_0, uc364_0, rfl, ul364_0, ge364_0⟩ := Kd.FK_slice_open hMe364
                                              have hv364_0 := hcc364 0 _ rfl
                                              rw [Nat.add_zero, show ((Kd.slice 3 (Kd.int .i64))).sz = 1 from rfl, Nat.mul_one] at hv364_0
                                              replace hv364_0 := Option.some.inj (hv364_0.symm.trans hx364_0)
                                              injection hv364_0 with hva_ hvn_ hvc_
                                              rw [hva_] at ge364_0
                                              rw [hvc_] at ul364_0
                                              have HL364_0 := Aside0.mk (show Kd.V (Kd.int .i64) 3 _ w.heap.size _ _ (rd_L1 t332 x12_2) from Kd.V_mk ul364_0 ge364_0)
                                              clear hva_ hvn_ hvc_ ge364_0 ul364_0
                                              clear hcc364 hce364
                                              have HR364_0 := Aside0.mk hi364_0
                                              have HC364_0 := Aside0.mk hl364_0
                                              clear hi364_0 hl364_0
                                              replace p364 := eq_true p364
                                              replace q364 := eq_true q364
                                              go_wp2
                                              repeat (go_quiet (fail); try go_wp2)
                                              go_ret
                                              exact ⟨by first | rfl | (simp [errW_none, errW_some] <;> rfl) | (simp [*, errW_none, errW_some] <;> rfl), by repeat (first | (with_reducible first | exact HB.out | apply below_alloc | apply pw_below_drewN | apply below_drew1) | exact HB.out)⟩
                                          · as_aux_lemma =>
                                              rw [if_neg c41] at H
                                              have c41b0 : decide (((rd_L1 t332 x12_2).length : Int) ≤ (rd t337 x12_2)) = false := decide_eq_false c41
                                              clear c41
                                              by_cases c43 : x12_2 > 0
                                              · as_aux_lemma =>
                                                  rw [if_pos c43] at H
                                                  have c43b0 : decide (0 < x12_2) = true := decide_eq_true c43
                                                  clear c43
                                                  obtain ⟨ji44, hji44⟩ : ∃ j_ : Int, (wrap64 (x12_2 - 1)) = j_ := ⟨_, rfl⟩
                                                  replace H : (if 0 ≤ (ji44) then (if (ji44) < (t337.length : Int) then (if (rd t337 x12_2) = (rd t337 (ji44)) then (laws_FnServed.l0 k2 t332 t333 t334 t337 (wrap64 (x12_2 + 1))) else (if 0 ≤ (rd t337 x12_2) then (if (rd t337 x12_2) < ((rd_L1 t332 x12_2).length : Int) then (if 0 ≤ (rd t337 (ji44)) then (if (rd t337 (ji44)) < ((rd_L1 t332 x12_2).length : Int) then (if (rd (rd_L1 t332 x12_2) (rd t337 x12_2)) < (wrap64 ((rd (rd_L1 t332 x12_2) (rd t337 (ji44))) + t333)) then (some false) else (if (rd (rd_L1 t332 x12_2) (rd t337 x12_2)) ≤ (rd (rd_L1 t332 x12_2) (rd t337 (ji44))) then (some false) else (laws_FnServed.l0 k2 t332 t333 t334 t337 (wrap64 (x12_2 + 1))))) else (none)) else (none)) else (none)) else (none))) else (none)) else (none)) = some r := by first | (rw [hji44] at H; exact H) | (simp only [hji44] at H ⊢; exact H)
                                                  have hji44w : (IntKind.i64.wrap (x12_2 - 1)) = ji44 := (i64_w _).trans hji44
                                                  by_cases c45 : 0 ≤ (ji44)
                                                  · as_aux_lemma =>
                                                      rw [if_pos c45] at H
                                                      have c45b0 : decide (0 ≤ (ji44)) = true := decide_eq_true c45
                                                      clear c45
                                                      by_cases c46 : (ji44) < (t337.length : Int)
                                                      · as_aux_lemma =>
                                                          rw [if_pos c46] at H
                                                          have c46b0 : decide ((ji44) < (t337.length : Int)) = true := decide_eq_true c46
                                                          clear c46
                                                          by_cases c47 : (rd t337 x12_2) = (rd t337 (ji44))
                                                          · as_aux_lemma =>
                                                              rw [if_pos c47] at H
                                                              have c47b0 : ((rd t337 x12_2) == (rd t337 (ji44))) = true := beq_iff_eq.mpr c47
                                                              have c47b1 : ((rd t337 x12_2) != (rd t337 (ji44))) = false := bne_eq_false_iff_eq.mpr c47
                                                              clear c47
                                                              have H' := Aside0.mk H
                                                              clear H
                                                              obtain ⟨Ao48, co48, eo48⟩ := Kd.R_slice HO_6.out
                                                              subst eo48
                                                              have p362 : 0 ≤ (x12_2 : Int) := of_decide_eq_true (by first | (with_reducible assumption) | assumption)
                                                              have q362 : x12_2 < (t337.length : Int) := of_decide_eq_true (by first | (with_reducible assumption) | assumption)
                                                              obtain ⟨ad362, e362, hx362_0⟩ := Kd.at_int (Kd.R_reads' HO_6.out).2.2 x12_2 p362 q362
                                                              cases e362
                                                              replace p362 := eq_true p362
                                                              replace q362 := eq_true q362
                                                              have p363 : 0 ≤ (x12_2 : Int) := of_decide_eq_true (by first | (with_reducible assumption) | assumption)
                                                              have q363 : x12_2 < (t337.length : Int) := of_decide_eq_true (by first | (with_reducible assumption) | assumption)
                                                              obtain ⟨ad363, e363, hx363_0⟩ := Kd.at_int (Kd.R_reads' HO_6.out).2.2 x12_2 p363 q363
                                                              obtain rfl : ad362 = ad363 := (by injection e363)
                                                              replace p363 := eq_true p363
                                                              replace q363 := eq_true q363
                                                              have p364 : 0 ≤ (x12_2 : Int) := of_decide_eq_true (by first | (with_reducible assumption) | assumption)
                                                              have q364 : x12_2 < (t332.length : Int) := of_decide_eq_true (by first | (with_reducible assumption) | assumption)
                                                              obtain ⟨ad364, A364_0, c364_0, e364, hx364_0, hl364_0, hi364_0⟩ := at_L1 (Kd.N_reads' HO_3.out).2.2 x12_2 p364 q364
                                                              cases e364
                                                              obtain ⟨ce364, hce364, hMe364, hcc364⟩ := Kd.N_get HO_3.out [] x12_2 p364 (by first | exact q364 | exact of_decide_eq_true (by first | (with_reducible assumption) | assumption) | (have e_ := (Kd.N_reads' HO_3.out).1; omega))
                                                              obtain ⟨ua364_0, uc364_0, rfl, ul364_0, ge364_0⟩ := Kd.FK_slice_open hMe364
                                                              have hv364_0 := hcc364 0 _ rfl
                                                              rw [Nat.add_zero, show ((Kd.slice 3 (Kd.int .i64))).sz = 1 from rfl, Nat.mul_one] at hv364_0
                                                              replace hv364_0 := Option.some.inj (hv364_0.symm.trans hx364_0)
                                                              injection hv364_0 with hva_ hvn_ hvc_
                                                              rw [hva_] at ge364_0
                                                              rw [hvc_] at ul364_0
                                                              have HL364_0 := Aside0.mk (show Kd.V (Kd.int .i64) 3 _ w.heap.size _ _ (rd_L1 t332 x12_2) from Kd.V_mk ul364_0 ge364_0)
                                                              clear hva_ hvn_ hvc_ ge364_0 ul364_0
                                                              clear hcc364 hce364
                                                              have HR364_0 := Aside0.mk hi364_0
                                                              have HC364_0 := Aside0.mk hl364_0
                                                              clear hi364_0 hl364_0
                                                              replace p364 := eq_true p364
                                                              replace q364 := eq_true q364
                                                              have p365 : 0 ≤ (x12_2 : Int) := of_decide_eq_true (by first | (with_reducible assumption) | assumption)
                                                              have q365 : x12_2 < (t337.length : Int) := of_decide_eq_true (by first | (with_reducible assumption) | assumption)
                                                              obtain ⟨ad365, e365, hx365_0⟩ := Kd.at_int (Kd.R_reads' HO_6.out).2.2 x12_2 p365 q365
                                                              obtain rfl : ad362 = ad365 := (by injection e365)
                                                              replace p365 := eq_true p365
                                                              replace q365 := eq_true q365
                                                              have p366 : 0 ≤ ((ji44) : Int) := of_decide_eq_true (by first | (with_reducible assumption) | assumption)
                                                              have q366 : (ji44) < (t337.length : Int) := of_decide_eq_true (by first | (with_reducible assumption) | assumption)
                                                              obtain ⟨ad366, e366, hx366_0⟩ := Kd.at_int (Kd.R_reads' HO_6.out).2.2 (ji44) p366 q366
                                                              obtain rfl : ad362 = ad366 := (by injection e366)
                                                              replace p366 := eq_true p366
                                                              replace q366 := eq_true q366
                                                              go_wp2
                                                              repeat (go_quiet (fail); try go_wp2)
                                                              go_roundg k2
                                                              case measure => have := HJ12.out; have := HK2.out; omega
                                                              case rel => exact ⟨(wrap64 (x12_2 + 1)), (by first | rfl | (simp; done) | (simp [*]; done)), H', ⟨by have := HJ12.out; have := HK2.out; omega⟩, ⟨by (with_reducible repeat (first | apply Kd.N_alloc | apply Kd.N_drewN | apply Kd.N_drew)); exact HO_3.out⟩, ⟨by (with_reducible repeat (first | apply Kd.R_alloc | apply Kd.R_drewN | apply Kd.R_drew)); exact HO_6.out⟩, ⟨by repeat (first | (with_reducible first | exact HB.out | apply below_alloc | apply pw_below_drewN | apply below_drew1) | exact HB.out)⟩⟩
                                                          · as_aux_lemma =>
                                                              rw [if_neg c47] at H
                                                              have c47b0 : ((rd t337 x12_2) == (rd t337 (ji44))) = false := beq_eq_false_iff_ne.mpr c47
                                                              have c47b1 : ((rd t337 x12_2) != (rd t337 (ji44))) = true := bne_iff_ne.mpr c47
                                                              by_cases c49 : 0 ≤ (rd t337 x12_2)
                                                              · as_aux_lemma =>
                                                                  rw [if_pos c49] at H
                                                                  have c49b0 : decide (0 ≤ (rd t337 x12_2)) = true := decide_eq_true c49
                                                                  clear c49
                                                                  by_cases c50 : (rd t337 x12_2) < ((rd_L1 t332 x12_2).length : Int)
                                                                  · as_aux_lemma =>
                                                                      rw [if_pos c50] at H
                                                                      have c50b0 : decide ((rd t337 x12_2) < ((rd_L1 t332 x12_2).length : Int)) = true := decide_eq_true c50
                                                                      clear c50
                                                                      by_cases c51 : 0 ≤ (rd t337 (ji44))
                                                                      · as_aux_lemma =>
                                                                          rw [if_pos c51] at H
                                                                          have c51b0 : decide (0 ≤ (rd t337 (ji44))) = true := decide_eq_true c51
                                                                          clear c51
                                                                          by_cases c52 : (rd t337 (ji44)) < ((rd_L1 t332 x12_2).length : Int)
                                                                          · as_aux_lemma =>
                                                                              rw [if_pos c52] at H
                                                                              have c52b0 : decide ((rd t337 (ji44)) < ((rd_L1 t332 x12_2).length : Int)) = true := decide_eq_true c52
                                                                              clear c52
                                                                              by_cases c53 : (rd (rd_L1 t332 x12_2) (rd t337 x12_2)) < (wrap64 ((rd (rd_L1 t332 x12_2) (rd t337 (ji44))) + t333))
                                                                              · as_aux_lemma =>
                                                                                  rw [if_pos c53] at H
                                                                                  have c53b0 : decide ((rd (rd_L1 t332 x12_2) (rd t337 x12_2)) < (wrap64 ((rd (rd_L1 t332 x12_2) (rd t337 (ji44))) + t333))) = true := decide_eq_true c53
                                                                                  clear c53
                                                                                  obtain rfl := Option.some.inj H
                                                                                  obtain ⟨Ao54, co54, eo54⟩ := Kd.R_slice HO_6.out
                                                                                  subst eo54
                                                                                  have p362 : 0 ≤ (x12_2 : Int) := of_decide_eq_true (by first | (with_reducible assumption) | assumption)
                                                                                  have q362 : x12_2 < (t337.length : Int) := of_decide_eq_true (by first | (with_reducible assumption) | assumption)
                                                                                  obtain ⟨ad362, e362, hx362_0⟩ := Kd.at_int (Kd.R_reads' HO_6.out).2.2 x12_2 p362 q362
                                                                                  cases e362
                                                                                  replace p362 := eq_true p362
                                                                                  replace q362 := eq_true q362
                                                                                  have p363 : 0 ≤ (x12_2 : Int) := of_decide_eq_true (by first | (with_reducible assumption) | assumption)
                                                                                  have q363 : x12_2 < (t337.length : Int) := of_decide_eq_true (by first | (with_reducible assumption) | assumption)
                                                                                  obtain ⟨ad363, e363, hx363_0⟩ := Kd.at_int (Kd.R_reads' HO_6.out).2.2 x12_2 p363 q363
                                                                                  obtain rfl : ad362 = ad363 := (by injection e363)
                                                                                  replace p363 := eq_true p363
                                                                                  replace q363 := eq_true q363
                                                                                  have p364 : 0 ≤ (x12_2 : Int) := of_decide_eq_true (by first | (with_reducible assumption) | assumption)
                                                                                  have q364 : x12_2 < (t332.length : Int) := of_decide_eq_true (by first | (with_reducible assumption) | assumption)
                                                                                  obtain ⟨ad364, A364_0, c364_0, e364, hx364_0, hl364_0, hi364_0⟩ := at_L1 (Kd.N_reads' HO_3.out).2.2 x12_2 p364 q364
                                                                                  cases e364
                                                                                  obtain ⟨ce364, hce364, hMe364, hcc364⟩ := Kd.N_get HO_3.out [] x12_2 p364 (by first | exact q364 | exact of_decide_eq_true (by first | (with_reducible assumption) | assumption) | (have e_ := (Kd.N_reads' HO_3.out).1; omega))
                                                                                  obtain ⟨ua364_0, uc364_0, rfl, ul364_0, ge364_0⟩ := Kd.FK_slice_open hMe364
                                                                                  have hv364_0 := hcc364 0 _ rfl
                                                                                  rw [Nat.add_zero, show ((Kd.slice 3 (Kd.int .i64))).sz = 1 from rfl, Nat.mul_one] at hv364_0
                                                                                  replace hv364_0 := Option.some.inj (hv364_0.symm.trans hx364_0)
                                                                                  injection hv364_0 with hva_ hvn_ hvc_
                                                                                  rw [hva_] at ge364_0
                                                                                  rw [hvc_] at ul364_0
                                                                                  have HL364_0 := Aside0.mk (show Kd.V (Kd.int .i64) 3 _ w.heap.size _ _ (rd_L1 t332 x12_2) from Kd.V_mk ul364_0 ge364_0)
                                                                                  clear hva_ hvn_ hvc_ ge364_0 ul364_0
                                                                                  clear hcc364 hce364
                                                                                  have HR364_0 := Aside0.mk hi364_0
                                                                                  have HC364_0 := Aside0.mk hl364_0
                                                                                  clear hi364_0 hl364_0
                                                                                  replace p364 := eq_true p364
                                                                                  replace q364 := eq_true q364
                                                                                  have p365 : 0 ≤ (x12_2 : Int) := of_decide_eq_true (by first | (with_reducible assumption) | assumption)
                                                                                  have q365 : x12_2 < (t337.length : Int) := of_decide_eq_true (by first | (with_reducible assumption) | assumption)
                                                                                  obtain ⟨ad365, e365, hx365_0⟩ := Kd.at_int (Kd.R_reads' HO_6.out).2.2 x12_2 p365 q365
                                                                                  obtain rfl : ad362 = ad365 := (by injection e365)
                                                                                  replace p365 := eq_true p365
                                                                                  replace q365 := eq_true q365
                                                                                  have p366 : 0 ≤ ((ji44) : Int) := of_decide_eq_true (by first | (with_reducible assumption) | assumption)
                                                                                  have q366 : (ji44) < (t337.length : Int) := of_decide_eq_true (by first | (with_reducible assumption) | assumption)
                                                                                  obtain ⟨ad366, e366, hx366_0⟩ := Kd.at_int (Kd.R_reads' HO_6.out).2.2 (ji44) p366 q366
                                                                                  obtain rfl : ad362 = ad366 := (by injection e366)
                                                                                  replace p366 := eq_true p366
                                                                                  replace q366 := eq_true q366
                                                                                  have p367 : 0 ≤ (x12_2 : Int) := of_decide_eq_true (by first | (with_reducible assumption) | assumption)
                                                                                  have q367 : x12_2 < (t332.length : Int) := of_decide_eq_true (by first | (with_reducible assumption) | assumption)
                                                                                  obtain ⟨ad367, A367_0, c367_0, e367, hx367_0, hl367_0, hi367_0⟩ := at_L1 (Kd.N_reads' HO_3.out).2.2 x12_2 p367 q367
                                                                                  obtain rfl : ad364 = ad367 := (by injection e367)
                                                                                  obtain ⟨ce367, hce367, hMe367, hcc367⟩ := Kd.N_get HO_3.out [] x12_2 p367 (by first | exact q367 | exact of_decide_eq_true (by first | (with_reducible assumption) | assumption) | (have e_ := (Kd.N_reads' HO_3.out).1; omega))
                                                                                  obtain ⟨ua367_0, uc367_0, rfl, ul367_0, ge367_0⟩ := Kd.FK_slice_open hMe367
                                                                                  have hv367_0 := hcc367 0 _ rfl
                                                                                  rw [Nat.add_zero, show ((Kd.slice 3 (Kd.int .i64))).sz = 1 from rfl, Nat.mul_one] at hv367_0
                                                                                  replace hv367_0 := Option.some.inj (hv367_0.symm.trans hx367_0)
                                                                                  injection hv367_0 with hva_ hvn_ hvc_
                                                                                  rw [hva_] at ge367_0
                                                                                  rw [hvc_] at ul367_0
                                                                                  have HL367_0 := Aside0.mk (show Kd.V (Kd.int .i64) 3 _ w.heap.size _ _ (rd_L1 t332 x12_2) from Kd.V_mk ul367_0 ge367_0)
                                                                                  clear hva_ hvn_ hvc_ ge367_0 ul367_0
                                                                                  clear hcc367 hce367
                                                                                  have HR367_0 := Aside0.mk hi367_0
                                                                                  have HC367_0 := Aside0.mk hl367_0
                                                                                  clear hi367_0 hl367_0
                                                                                  replace p367 := eq_true p367
                                                                                  replace q367 := eq_true q367
                                                                                  have ea_ := Option.some.inj (hx364_0.symm.trans hx367_0)
                                                                                  injection ea_ with ea_ en_ ec_
                                                                                  subst ea_
                                                                                  subst ec_
                                                                                  clear en_
                                                                                  have p368 : 0 ≤ (x12_2 : Int) := of_decide_eq_true (by first | (with_reducible assumption) | assumption)
                                                                                  have q368 : x12_2 < (t337.length : Int) := of_decide_eq_true (by first | (with_reducible assumption) | assumption)
                                                                                  obtain ⟨ad368, e368, hx368_0⟩ := Kd.at_int (Kd.R_reads' HO_6.out).2.2 x12_2 p368 q368
                                                                                  obtain rfl : ad362 = ad368 := (by injection e368)
                                                                                  replace p368 := eq_true p368
                                                                                  replace q368 := eq_true q368
                                                                                  have p369 : 0 ≤ ((rd t337 x12_2) : Int) := of_decide_eq_true (by first | (with_reducible assumption) | assumption)
                                                                                  have q369 : (rd t337 x12_2) < ((rd_L1 t332 x12_2).length : Int) := of_decide_eq_true (by first | (with_reducible assumption) | assumption)
                                                                                  obtain ⟨ad369, e369, hx369_0⟩ := Kd.at_int (by repeat (first | (with_reducible exact HR367_0.out) | (with_reducible refine Kd.C_alloc ?_ _) | (with_reducible refine Kd.C_drewN ?_ _) | (with_reducible refine Kd.C_drew ?_) | exact HR367_0.out)) (rd t337 x12_2) p369 q369
                                                                                  cases e369
                                                                                  replace p369 := eq_true p369
                                                                                  replace q369 := eq_true q369
                                                                                  have p370 : 0 ≤ (x12_2 : Int) := of_decide_eq_true (by first | (with_reducible assumption) | assumption)
                                                                                  have q370 : x12_2 < (t332.length : Int) := of_decide_eq_true (by first | (with_reducible assumption) | assumption)
                                                                                  obtain ⟨ad370, A370_0, c370_0, e370, hx370_0, hl370_0, hi370_0⟩ := at_L1 (Kd.N_reads' HO_3.out).2.2 x12_2 p370 q370
                                                                                  obtain rfl : ad364 = ad370 := (by injection e370)
                                                                                  obtain ⟨ce370, hce370, hMe370, hcc370⟩ := Kd.N_get HO_3.out [] x12_2 p370 (by first | exact q370 | exact of_decide_eq_true (by first | (with_reducible assumption) | assumption) | (have e_ := (Kd.N_reads' HO_3.out).1; omega))
                                                                                  obtain ⟨ua370_0, uc370_0, rfl, ul370_0, ge370_0⟩ := Kd.FK_slice_open hMe370
                                                                                  have hv370_0 := hcc370 0 _ rfl
                                                                                  rw [Nat.add_zero, show ((Kd.slice 3 (Kd.int .i64))).sz = 1 from rfl, Nat.mul_one] at hv370_0
                                                                                  replace hv370_0 := Option.some.inj (hv370_0.symm.trans hx370_0)
                                                                                  injection hv370_0 with hva_ hvn_ hvc_
                                                                                  rw [hva_] at ge370_0
                                                                                  rw [hvc_] at ul370_0
                                                                                  have HL370_0 := Aside0.mk (show Kd.V (Kd.int .i64) 3 _ w.heap.size _ _ (rd_L1 t332 x12_2) from Kd.V_mk ul370_0 ge370_0)
                                                                                  clear hva_ hvn_ hvc_ ge370_0 ul370_0
                                                                                  clear hcc370 hce370
                                                                                  have HR370_0 := Aside0.mk hi370_0
                                                                                  have HC370_0 := Aside0.mk hl370_0
                                                                                  clear hi370_0 hl370_0
                                                                                  replace p370 := eq_true p370
                                                                                  replace q370 := eq_true q370
                                                                                  have ea_ := Option.some.inj (hx364_0.symm.trans hx370_0)
                                                                                  injection ea_ with ea_ en_ ec_
                                                                                  subst ea_
                                                                                  subst ec_
                                                                                  clear en_
                                                                                  have p371 : 0 ≤ ((ji44) : Int) := of_decide_eq_true (by first | (with_reducible assumption) | assumption)
                                                                                  have q371 : (ji44) < (t337.length : Int) := of_decide_eq_true (by first | (with_reducible assumption) | assumption)
                                                                                  obtain ⟨ad371, e371, hx371_0⟩ := Kd.at_int (Kd.R_reads' HO_6.out).2.2 (ji44) p371 q371
                                                                                  obtain rfl : ad362 = ad371 := (by injection e371)
                                                                                  replace p371 := eq_true p371
                                                                                  replace q371 := eq_true q371
                                                                                  have p372 : 0 ≤ ((rd t337 (ji44)) : Int) := of_decide_eq_true (by first | (with_reducible assumption) | assumption)
                                                                                  have q372 : (rd t337 (ji44)) < ((rd_L1 t332 x12_2).length : Int) := of_decide_eq_true (by first | (with_reducible assumption) | assumption)
                                                                                  obtain ⟨ad372, e372, hx372_0⟩ := Kd.at_int (by repeat (first | (with_reducible exact HR370_0.out) | (with_reducible refine Kd.C_alloc ?_ _) | (with_reducible refine Kd.C_drewN ?_ _) | (with_reducible refine Kd.C_drew ?_) | exact HR370_0.out)) (rd t337 (ji44)) p372 q372
                                                                                  cases e372
                                                                                  replace p372 := eq_true p372
                                                                                  replace q372 := eq_true q372
                                                                                  go_wp2
                                                                                  repeat (go_quiet (fail); try go_wp2)
                                                                                  go_ret
                                                                                  exact ⟨by first | rfl | (simp [errW_none, errW_some] <;> rfl) | (simp only [← hji44]; first | rfl | (simp [errW_none, errW_some] <;> rfl)) | (simp [*, errW_none, errW_some] <;> rfl), by repeat (first | (with_reducible first | exact HB.out | apply below_alloc | apply pw_below_drewN | apply below_drew1) | exact HB.out)⟩
                                                                              · as_aux_lemma =>
                                                                                  rw [if_neg c53] at H
                                                                                  have c53b0 : decide ((rd (rd_L1 t332 x12_2) (rd t337 x12_2)) < (wrap64 ((rd (rd_L1 t332 x12_2) (rd t337 (ji44))) + t333))) = false := decide_eq_false c53
                                                                                  clear c53
                                                                                  by_cases c55 : (rd (rd_L1 t332 x12_2) (rd t337 x12_2)) ≤ (rd (rd_L1 t332 x12_2) (rd t337 (ji44)))
                                                                                  · as_aux_lemma =>
                                                                                      rw [if_pos c55] at H
                                                                                      have c55b0 : decide ((rd (rd_L1 t332 x12_2) (rd t337 x12_2)) ≤ (rd (rd_L1 t332 x12_2) (rd t337 (ji44)))) = true := decide_eq_true c55
                                                                                      clear c55
                                                                                      obtain rfl := Option.some.inj H
                                                                                      obtain ⟨Ao56, co56, eo56⟩ := Kd.R_slice HO_6.out
                                                                                      subst eo56
                                                                                      have p362 : 0 ≤ (x12_2 : Int) := of_decide_eq_true (by first | (with_reducible assumption) | assumption)
                                                                                      have q362 : x12_2 < (t337.length : Int) := of_decide_eq_true (by first | (with_reducible assumption) | assumption)
                                                                                      obtain ⟨ad362, e362, hx362_0⟩ := Kd.at_int (Kd.R_reads' HO_6.out).2.2 x12_2 p362 q362
                                                                                      cases e362
                                                                                      replace p362 := eq_true p362
                                                                                      replace q362 := eq_true q362
                                                                                      have p363 : 0 ≤ (x12_2 : Int) := of_decide_eq_true (by first | (with_reducible assumption) | assumption)
                                                                                      have q363 : x12_2 < (t337.length : Int) := of_decide_eq_true (by first | (with_reducible assumption) | assumption)
                                                                                      obtain ⟨ad363, e363, hx363_0⟩ := Kd.at_int (Kd.R_reads' HO_6.out).2.2 x12_2 p363 q363
                                                                                      obtain rfl : ad362 = ad363 := (by injection e363)
                                                                                      replace p363 := eq_true p363
                                                                                      replace q363 := eq_true q363
                                                                                      have p364 : 0 ≤ (x12_2 : Int) := of_decide_eq_true (by first | (with_reducible assumption) | assumption)
                                                                                      have q364 : x12_2 < (t332.length : Int) := of_decide_eq_true (by first | (with_reducible assumption) | assumption)
                                                                                      obtain ⟨ad364, A364_0, c364_0, e364, hx364_0, hl364_0, hi364_0⟩ := at_L1 (Kd.N_reads' HO_3.out).2.2 x12_2 p364 q364
                                                                                      cases e364
                                                                                      obtain ⟨ce364, hce364, hMe364, hcc364⟩ := Kd.N_get HO_3.out [] x12_2 p364 (by first | exact q364 | exact of_decide_eq_true (by first | (with_reducible assumption) | assumption) | (have e_ := (Kd.N_reads' HO_3.out).1; omega))
                                                                                      obtain ⟨ua364_0, uc364_0, rfl, ul364_0, ge364_0⟩ := Kd.FK_slice_open hMe364
                                                                                      have hv364_0 := hcc364 0 _ rfl
                                                                                      rw [Nat.add_zero, show ((Kd.slice 3 (Kd.int .i64))).sz = 1 from rfl, Nat.mul_one] at hv364_0
                                                                                      replace hv364_0 := Option.some.inj (hv364_0.symm.trans hx364_0)
                                                                                      injection hv364_0 with hva_ hvn_ hvc_
                                                                                      rw [hva_] at ge364_0
                                                                                      rw [hvc_] at ul364_0
                                                                                      have HL364_0 := Aside0.mk (show Kd.V (Kd.int .i64) 3 _ w.heap.size _ _ (rd_L1 t332 x12_2) from Kd.V_mk ul364_0 ge364_0)
                                                                                      clear hva_ hvn_ hvc_ ge364_0 ul364_0
                                                                                      clear hcc364 hce364
                                                                                      have HR364_0 := Aside0.mk hi364_0
                                                                                      have HC364_0 := Aside0.mk hl364_0
                                                                                      clear hi364_0 hl364_0
                                                                                      replace p364 := eq_true p364
                                                                                      replace q364 := eq_true q364
                                                                                      have p365 : 0 ≤ (x12_2 : Int) := of_decide_eq_true (by first | (with_reducible assumption) | assumption)
                                                                                      have q365 : x12_2 < (t337.length : Int) := of_decide_eq_true (by first | (with_reducible assumption) | assumption)
                                                                                      obtain ⟨ad365, e365, hx365_0⟩ := Kd.at_int (Kd.R_reads' HO_6.out).2.2 x12_2 p365 q365
                                                                                      obtain rfl : ad362 = ad365 := (by injection e365)
                                                                                      replace p365 := eq_true p365
                                                                                      replace q365 := eq_true q365
                                                                                      have p366 : 0 ≤ ((ji44) : Int) := of_decide_eq_true (by first | (with_reducible assumption) | assumption)
                                                                                      have q366 : (ji44) < (t337.length : Int) := of_decide_eq_true (by first | (with_reducible assumption) | assumption)
                                                                                      obtain ⟨ad366, e366, hx366_0⟩ := Kd.at_int (Kd.R_reads' HO_6.out).2.2 (ji44) p366 q366
                                                                                      obtain rfl : ad362 = ad366 := (by injection e366)
                                                                                      replace p366 := eq_true p366
                                                                                      replace q366 := eq_true q366
                                                                                      have p367 : 0 ≤ (x12_2 : Int) := of_decide_eq_true (by first | (with_reducible assumption) | assumption)
                                                                                      have q367 : x12_2 < (t332.length : Int) := of_decide_eq_true (by first | (with_reducible assumption) | assumption)
                                                                                      obtain ⟨ad367, A367_0, c367_0, e367, hx367_0, hl367_0, hi367_0⟩ := at_L1 (Kd.N_reads' HO_3.out).2.2 x12_2 p367 q367
                                                                                      obtain rfl : ad364 = ad367 := (by injection e367)
                                                                                      obtain ⟨ce367, hce367, hMe367, hcc367⟩ := Kd.N_get HO_3.out [] x12_2 p367 (by first | exact q367 | exact of_decide_eq_true (by first | (with_reducible assumption) | assumption) | (have e_ := (Kd.N_reads' HO_3.out).1; omega))
                                                                                      obtain ⟨ua367_0, uc367_0, rfl, ul367_0, ge367_0⟩ := Kd.FK_slice_open hMe367
                                                                                      have hv367_0 := hcc367 0 _ rfl
                                                                                      rw [Nat.add_zero, show ((Kd.slice 3 (Kd.int .i64))).sz = 1 from rfl, Nat.mul_one] at hv367_0
                                                                                      replace hv367_0 := Option.some.inj (hv367_0.symm.trans hx367_0)
                                                                                      injection hv367_0 with hva_ hvn_ hvc_
                                                                                      rw [hva_] at ge367_0
                                                                                      rw [hvc_] at ul367_0
                                                                                      have HL367_0 := Aside0.mk (show Kd.V (Kd.int .i64) 3 _ w.heap.size _ _ (rd_L1 t332 x12_2) from Kd.V_mk ul367_0 ge367_0)
                                                                                      clear hva_ hvn_ hvc_ ge367_0 ul367_0
                                                                                      clear hcc367 hce367
                                                                                      have HR367_0 := Aside0.mk hi367_0
                                                                                      have HC367_0 := Aside0.mk hl367_0
                                                                                      clear hi367_0 hl367_0
                                                                                      replace p367 := eq_true p367
                                                                                      replace q367 := eq_true q367
                                                                                      have ea_ := Option.some.inj (hx364_0.symm.trans hx367_0)
                                                                                      injection ea_ with ea_ en_ ec_
                                                                                      subst ea_
                                                                                      subst ec_
                                                                                      clear en_
                                                                                      have p368 : 0 ≤ (x12_2 : Int) := of_decide_eq_true (by first | (with_reducible assumption) | assumption)
                                                                                      have q368 : x12_2 < (t337.length : Int) := of_decide_eq_true (by first | (with_reducible assumption) | assumption)
                                                                                      obtain ⟨ad368, e368, hx368_0⟩ := Kd.at_int (Kd.R_reads' HO_6.out).2.2 x12_2 p368 q368
                                                                                      obtain rfl : ad362 = ad368 := (by injection e368)
                                                                                      replace p368 := eq_true p368
                                                                                      replace q368 := eq_true q368
                                                                                      have p369 : 0 ≤ ((rd t337 x12_2) : Int) := of_decide_eq_true (by first | (with_reducible assumption) | assumption)
                                                                                      have q369 : (rd t337 x12_2) < ((rd_L1 t332 x12_2).length : Int) := of_decide_eq_true (by first | (with_reducible assumption) | assumption)
                                                                                      obtain ⟨ad369, e369, hx369_0⟩ := Kd.at_int (by repeat (first | (with_reducible exact HR367_0.out) | (with_reducible refine Kd.C_alloc ?_ _) | (with_reducible refine Kd.C_drewN ?_ _) | (with_reducible refine Kd.C_drew ?_) | exact HR367_0.out)) (rd t337 x12_2) p369 q369
                                                                                      cases e369
                                                                                      replace p369 := eq_true p369
                                                                                      replace q369 := eq_true q369
                                                                                      have p370 : 0 ≤ (x12_2 : Int) := of_decide_eq_true (by first | (with_reducible assumption) | assumption)
                                                                                      have q370 : x12_2 < (t332.length : Int) := of_decide_eq_true (by first | (with_reducible assumption) | assumption)
                                                                                      obtain ⟨ad370, A370_0, c370_0, e370, hx370_0, hl370_0, hi370_0⟩ := at_L1 (Kd.N_reads' HO_3.out).2.2 x12_2 p370 q370
                                                                                      obtain rfl : ad364 = ad370 := (by injection e370)
                                                                                      obtain ⟨ce370, hce370, hMe370, hcc370⟩ := Kd.N_get HO_3.out [] x12_2 p370 (by first | exact q370 | exact of_decide_eq_true (by first | (with_reducible assumption) | assumption) | (have e_ := (Kd.N_reads' HO_3.out).1; omega))
                                                                                      obtain ⟨ua370_0, uc370_0, rfl, ul370_0, ge370_0⟩ := Kd.FK_slice_open hMe370
                                                                                      have hv370_0 := hcc370 0 _ rfl
                                                                                      rw [Nat.add_zero, show ((Kd.slice 3 (Kd.int .i64))).sz = 1 from rfl, Nat.mul_one] at hv370_0
                                                                                      replace hv370_0 := Option.some.inj (hv370_0.symm.trans hx370_0)
                                                                                      injection hv370_0 with hva_ hvn_ hvc_
                                                                                      rw [hva_] at ge370_0
                                                                                      rw [hvc_] at ul370_0
                                                                                      have HL370_0 := Aside0.mk (show Kd.V (Kd.int .i64) 3 _ w.heap.size _ _ (rd_L1 t332 x12_2) from Kd.V_mk ul370_0 ge370_0)
                                                                                      clear hva_ hvn_ hvc_ ge370_0 ul370_0
                                                                                      clear hcc370 hce370
                                                                                      have HR370_0 := Aside0.mk hi370_0
                                                                                      have HC370_0 := Aside0.mk hl370_0
                                                                                      clear hi370_0 hl370_0
                                                                                      replace p370 := eq_true p370
                                                                                      replace q370 := eq_true q370
                                                                                      have ea_ := Option.some.inj (hx364_0.symm.trans hx370_0)
                                                                                      injection ea_ with ea_ en_ ec_
                                                                                      subst ea_
                                                                                      subst ec_
                                                                                      clear en_
                                                                                      have p371 : 0 ≤ ((ji44) : Int) := of_decide_eq_true (by first | (with_reducible assumption) | assumption)
                                                                                      have q371 : (ji44) < (t337.length : Int) := of_decide_eq_true (by first | (with_reducible assumption) | assumption)
                                                                                      obtain ⟨ad371, e371, hx371_0⟩ := Kd.at_int (Kd.R_reads' HO_6.out).2.2 (ji44) p371 q371
                                                                                      obtain rfl : ad362 = ad371 := (by injection e371)
                                                                                      replace p371 := eq_true p371
                                                                                      replace q371 := eq_true q371
                                                                                      have p372 : 0 ≤ ((rd t337 (ji44)) : Int) := of_decide_eq_true (by first | (with_reducible assumption) | assumption)
                                                                                      have q372 : (rd t337 (ji44)) < ((rd_L1 t332 x12_2).length : Int) := of_decide_eq_true (by first | (with_reducible assumption) | assumption)
                                                                                      obtain ⟨ad372, e372, hx372_0⟩ := Kd.at_int (by repeat (first | (with_reducible exact HR370_0.out) | (with_reducible refine Kd.C_alloc ?_ _) | (with_reducible refine Kd.C_drewN ?_ _) | (with_reducible refine Kd.C_drew ?_) | exact HR370_0.out)) (rd t337 (ji44)) p372 q372
                                                                                      cases e372
                                                                                      replace p372 := eq_true p372
                                                                                      replace q372 := eq_true q372
                                                                                      have p373 : 0 ≤ (x12_2 : Int) := of_decide_eq_true (by first | (with_reducible assumption) | assumption)
                                                                                      have q373 : x12_2 < (t332.length : Int) := of_decide_eq_true (by first | (with_reducible assumption) | assumption)
                                                                                      obtain ⟨ad373, A373_0, c373_0, e373, hx373_0, hl373_0, hi373_0⟩ := at_L1 (Kd.N_reads' HO_3.out).2.2 x12_2 p373 q373
                                                                                      obtain rfl : ad364 = ad373 := (by injection e373)
                                                                                      obtain ⟨ce373, hce373, hMe373, hcc373⟩ := Kd.N_get HO_3.out [] x12_2 p373 (by first | exact q373 | exact of_decide_eq_true (by first | (with_reducible assumption) | assumption) | (have e_ := (Kd.N_reads' HO_3.out).1; omega))
                                                                                      obtain ⟨ua373_0, uc373_0, rfl, ul373_0, ge373_0⟩ := Kd.FK_slice_open hMe373
                                                                                      have hv373_0 := hcc373 0 _ rfl
                                                                                      rw [Nat.add_zero, show ((Kd.slice 3 (Kd.int .i64))).sz = 1 from rfl, Nat.mul_one] at hv373_0
                                                                                      replace hv373_0 := Option.some.inj (hv373_0.symm.trans hx373_0)
                                                                                      injection hv373_0 with hva_ hvn_ hvc_
                                                                                      rw [hva_] at ge373_0
                                                                                      rw [hvc_] at ul373_0
                                                                                      have HL373_0 := Aside0.mk (show Kd.V (Kd.int .i64) 3 _ w.heap.size _ _ (rd_L1 t332 x12_2) from Kd.V_mk ul373_0 ge373_0)
                                                                                      clear hva_ hvn_ hvc_ ge373_0 ul373_0
                                                                                      clear hcc373 hce373
                                                                                      have HR373_0 := Aside0.mk hi373_0
                                                                                      have HC373_0 := Aside0.mk hl373_0
                                                                                      clear hi373_0 hl373_0
                                                                                      replace p373 := eq_true p373
                                                                                      replace q373 := eq_true q373
                                                                                      have ea_ := Option.some.inj (hx364_0.symm.trans hx373_0)
                                                                                      injection ea_ with ea_ en_ ec_
                                                                                      subst ea_
                                                                                      subst ec_
                                                                                      clear en_
                                                                                      have p374 : 0 ≤ (x12_2 : Int) := of_decide_eq_true (by first | (with_reducible assumption) | assumption)
                                                                                      have q374 : x12_2 < (t337.length : Int) := of_decide_eq_true (by first | (with_reducible assumption) | assumption)
                                                                                      obtain ⟨ad374, e374, hx374_0⟩ := Kd.at_int (Kd.R_reads' HO_6.out).2.2 x12_2 p374 q374
                                                                                      obtain rfl : ad362 = ad374 := (by injection e374)
                                                                                      replace p374 := eq_true p374
                                                                                      replace q374 := eq_true q374
                                                                                      have p375 : 0 ≤ ((rd t337 x12_2) : Int) := of_decide_eq_true (by first | (with_reducible assumption) | assumption)
                                                                                      have q375 : (rd t337 x12_2) < ((rd_L1 t332 x12_2).length : Int) := of_decide_eq_true (by first | (with_reducible assumption) | assumption)
                                                                                      obtain ⟨ad375, e375, hx375_0⟩ := Kd.at_int (by repeat (first | (with_reducible exact HR373_0.out) | (with_reducible refine Kd.C_alloc ?_ _) | (with_reducible refine Kd.C_drewN ?_ _) | (with_reducible refine Kd.C_drew ?_) | exact HR373_0.out)) (rd t337 x12_2) p375 q375
                                                                                      cases e375
                                                                                      replace p375 := eq_true p375
                                                                                      replace q375 := eq_true q375
                                                                                      have p376 : 0 ≤ (x12_2 : Int) := of_decide_eq_true (by first | (with_reducible assumption) | assumption)
                                                                                      have q376 : x12_2 < (t332.length : Int) := of_decide_eq_true (by first | (with_reducible assumption) | assumption)
                                                                                      obtain ⟨ad376, A376_0, c376_0, e376, hx376_0, hl376_0, hi376_0⟩ := at_L1 (Kd.N_reads' HO_3.out).2.2 x12_2 p376 q376
                                                                                      obtain rfl : ad364 = ad376 := (by injection e376)
                                                                                      obtain ⟨ce376, hce376, hMe376, hcc376⟩ := Kd.N_get HO_3.out [] x12_2 p376 (by first | exact q376 | exact of_decide_eq_true (by first | (with_reducible assumption) | assumption) | (have e_ := (Kd.N_reads' HO_3.out).1; omega))
                                                                                      obtain ⟨ua376_0, uc376_0, rfl, ul376_0, ge376_0⟩ := Kd.FK_slice_open hMe376
                                                                                      have hv376_0 := hcc376 0 _ rfl
                                                                                      rw [Nat.add_zero, show ((Kd.slice 3 (Kd.int .i64))).sz = 1 from rfl, Nat.mul_one] at hv376_0
                                                                                      replace hv376_0 := Option.some.inj (hv376_0.symm.trans hx376_0)
                                                                                      injection hv376_0 with hva_ hvn_ hvc_
                                                                                      rw [hva_] at ge376_0
                                                                                      rw [hvc_] at ul376_0
                                                                                      have HL376_0 := Aside0.mk (show Kd.V (Kd.int .i64) 3 _ w.heap.size _ _ (rd_L1 t332 x12_2) from Kd.V_mk ul376_0 ge376_0)
                                                                                      clear hva_ hvn_ hvc_ ge376_0 ul376_0
                                                                                      clear hcc376 hce376
                                                                                      have HR376_0 := Aside0.mk hi376_0
                                                                                      have HC376_0 := Aside0.mk hl376_0
                                                                                      clear hi376_0 hl376_0
                                                                                      replace p376 := eq_true p376
                                                                                      replace q376 := eq_true q376
                                                                                      have ea_ := Option.some.inj (hx364_0.symm.trans hx376_0)
                                                                                      injection ea_ with ea_ en_ ec_
                                                                                      subst ea_
                                                                                      subst ec_
                                                                                      clear en_
                                                                                      have p377 : 0 ≤ ((ji44) : Int) := of_decide_eq_true (by first | (with_reducible assumption) | assumption)
                                                                                      have q377 : (ji44) < (t337.length : Int) := of_decide_eq_true (by first | (with_reducible assumption) | assumption)
                                                                                      obtain ⟨ad377, e377, hx377_0⟩ := Kd.at_int (Kd.R_reads' HO_6.out).2.2 (ji44) p377 q377
                                                                                      obtain rfl : ad362 = ad377 := (by injection e377)
                                                                                      replace p377 := eq_true p377
                                                                                      replace q377 := eq_true q377
                                                                                      have p378 : 0 ≤ ((rd t337 (ji44)) : Int) := of_decide_eq_true (by first | (with_reducible assumption) | assumption)
                                                                                      have q378 : (rd t337 (ji44)) < ((rd_L1 t332 x12_2).length : Int) := of_decide_eq_true (by first | (with_reducible assumption) | assumption)
                                                                                      obtain ⟨ad378, e378, hx378_0⟩ := Kd.at_int (by repeat (first | (with_reducible exact HR376_0.out) | (with_reducible refine Kd.C_alloc ?_ _) | (with_reducible refine Kd.C_drewN ?_ _) | (with_reducible refine Kd.C_drew ?_) | exact HR376_0.out)) (rd t337 (ji44)) p378 q378
                                                                                      cases e378
                                                                                      replace p378 := eq_true p378
                                                                                      replace q378 := eq_true q378
                                                                                      go_wp2
                                                                                      repeat (go_quiet (fail); try go_wp2)
                                                                                      go_ret
                                                                                      exact ⟨by first | rfl | (simp [errW_none, errW_some] <;> rfl) | (simp only [← hji44]; first | rfl | (simp [errW_none, errW_some] <;> rfl)) | (simp [*, errW_none, errW_some] <;> rfl), by repeat (first | (with_reducible first | exact HB.out | apply below_alloc | apply pw_below_drewN | apply below_drew1) | exact HB.out)⟩
                                                                                  · as_aux_lemma =>
                                                                                      rw [if_neg c55] at H
                                                                                      have c55b0 : decide ((rd (rd_L1 t332 x12_2) (rd t337 x12_2)) ≤ (rd (rd_L1 t332 x12_2) (rd t337 (ji44)))) = false := decide_eq_false c55
                                                                                      clear c55
                                                                                      have H' := Aside0.mk H
                                                                                      clear H
                                                                                      obtain ⟨Ao57, co57, eo57⟩ := Kd.R_slice HO_6.out
                                                                                      subst eo57
                                                                                      have p362 : 0 ≤ (x12_2 : Int) := of_decide_eq_true (by first | (with_reducible assumption) | assumption)
                                                                                      have q362 : x12_2 < (t337.length : Int) := of_decide_eq_true (by first | (with_reducible assumption) | assumption)
                                                                                      obtain ⟨ad362, e362, hx362_0⟩ := Kd.at_int (Kd.R_reads' HO_6.out).2.2 x12_2 p362 q362
                                                                                      cases e362
                                                                                      replace p362 := eq_true p362
                                                                                      replace q362 := eq_true q362
                                                                                      have p363 : 0 ≤ (x12_2 : Int) := of_decide_eq_true (by first | (with_reducible assumption) | assumption)
                                                                                      have q363 : x12_2 < (t337.length : Int) := of_decide_eq_true (by first | (with_reducible assumption) | assumption)
                                                                                      obtain ⟨ad363, e363, hx363_0⟩ := Kd.at_int (Kd.R_reads' HO_6.out).2.2 x12_2 p363 q363
                                                                                      obtain rfl : ad362 = ad363 := (by injection e363)
                                                                                      replace p363 := eq_true p363
                                                                                      replace q363 := eq_true q363
                                                                                      have p364 : 0 ≤ (x12_2 : Int) := of_decide_eq_true (by first | (with_reducible assumption) | assumption)
                                                                                      have q364 : x12_2 < (t332.length : Int) := of_decide_eq_true (by first | (with_reducible assumption) | assumption)
                                                                                      obtain ⟨ad364, A364_0, c364_0, e364, hx364_0, hl364_0, hi364_0⟩ := at_L1 (Kd.N_reads' HO_3.out).2.2 x12_2 p364 q364
                                                                                      cases e364
                                                                                      obtain ⟨ce364, hce364, hMe364, hcc364⟩ := Kd.N_get HO_3.out [] x12_2 p364 (by first | exact q364 | exact of_decide_eq_true (by first | (with_reducible assumption) | assumption) | (have e_ := (Kd.N_reads' HO_3.out).1; omega))
                                                                                      obtain ⟨ua364_0, uc364_0, rfl, ul364_0, ge364_0⟩ := Kd.FK_slice_open hMe364
                                                                                      have hv364_0 := hcc364 0 _ rfl
                                                                                      rw [Nat.add_zero, show ((Kd.slice 3 (Kd.int .i64))).sz = 1 from rfl, Nat.mul_one] at hv364_0
                                                                                      replace hv364_0 := Option.some.inj (hv364_0.symm.trans hx364_0)
                                                                                      injection hv364_0 with hva_ hvn_ hvc_
                                                                                      rw [hva_] at ge364_0
                                                                                      rw [hvc_] at ul364_0
                                                                                      have HL364_0 := Aside0.mk (show Kd.V (Kd.int .i64) 3 _ w.heap.size _ _ (rd_L1 t332 x12_2) from Kd.V_mk ul364_0 ge364_0)
                                                                                      clear hva_ hvn_ hvc_ ge364_0 ul364_0
                                                                                      clear hcc364 hce364
                                                                                      have HR364_0 := Aside0.mk hi364_0
                                                                                      have HC364_0 := Aside0.mk hl364_0
                                                                                      clear hi364_0 hl364_0
                                                                                      replace p364 := eq_true p364
                                                                                      replace q364 := eq_true q364
                                                                                      have p365 : 0 ≤ (x12_2 : Int) := of_decide_eq_true (by first | (with_reducible assumption) | assumption)
                                                                                      have q365 : x12_2 < (t337.length : Int) := of_decide_eq_true (by first | (with_reducible assumption) | assumption)
                                                                                      obtain ⟨ad365, e365, hx365_0⟩ := Kd.at_int (Kd.R_reads' HO_6.out).2.2 x12_2 p365 q365
                                                                                      obtain rfl : ad362 = ad365 := (by injection e365)
                                                                                      replace p365 := eq_true p365
                                                                                      replace q365 := eq_true q365
                                                                                      have p366 : 0 ≤ ((ji44) : Int) := of_decide_eq_true (by first | (with_reducible assumption) | assumption)
                                                                                      have q366 : (ji44) < (t337.length : Int) := of_decide_eq_true (by first | (with_reducible assumption) | assumption)
                                                                                      obtain ⟨ad366, e366, hx366_0⟩ := Kd.at_int (Kd.R_reads' HO_6.out).2.2 (ji44) p366 q366
                                                                                      obtain rfl : ad362 = ad366 := (by injection e366)
                                                                                      replace p366 := eq_true p366
                                                                                      replace q366 := eq_true q366
                                                                                      have p367 : 0 ≤ (x12_2 : Int) := of_decide_eq_true (by first | (with_reducible assumption) | assumption)
                                                                                      have q367 : x12_2 < (t332.length : Int) := of_decide_eq_true (by first | (with_reducible assumption) | assumption)
                                                                                      obtain ⟨ad367, A367_0, c367_0, e367, hx367_0, hl367_0, hi367_0⟩ := at_L1 (Kd.N_reads' HO_3.out).2.2 x12_2 p367 q367
                                                                                      obtain rfl : ad364 = ad367 := (by injection e367)
                                                                                      obtain ⟨ce367, hce367, hMe367, hcc367⟩ := Kd.N_get HO_3.out [] x12_2 p367 (by first | exact q367 | exact of_decide_eq_true (by first | (with_reducible assumption) | assumption) | (have e_ := (Kd.N_reads' HO_3.out).1; omega))
                                                                                      obtain ⟨ua367_0, uc367_0, rfl, ul367_0, ge367_0⟩ := Kd.FK_slice_open hMe367
                                                                                      have hv367_0 := hcc367 0 _ rfl
                                                                                      rw [Nat.add_zero, show ((Kd.slice 3 (Kd.int .i64))).sz = 1 from rfl, Nat.mul_one] at hv367_0
                                                                                      replace hv367_0 := Option.some.inj (hv367_0.symm.trans hx367_0)
                                                                                      injection hv367_0 with hva_ hvn_ hvc_
                                                                                      rw [hva_] at ge367_0
                                                                                      rw [hvc_] at ul367_0
                                                                                      have HL367_0 := Aside0.mk (show Kd.V (Kd.int .i64) 3 _ w.heap.size _ _ (rd_L1 t332 x12_2) from Kd.V_mk ul367_0 ge367_0)
                                                                                      clear hva_ hvn_ hvc_ ge367_0 ul367_0
                                                                                      clear hcc367 hce367
                                                                                      have HR367_0 := Aside0.mk hi367_0
                                                                                      have HC367_0 := Aside0.mk hl367_0
                                                                                      clear hi367_0 hl367_0
                                                                                      replace p367 := eq_true p367
                                                                                      replace q367 := eq_true q367
                                                                                      have ea_ := Option.some.inj (hx364_0.symm.trans hx367_0)
                                                                                      injection ea_ with ea_ en_ ec_
                                                                                      subst ea_
                                                                                      subst ec_
                                                                                      clear en_
                                                                                      have p368 : 0 ≤ (x12_2 : Int) := of_decide_eq_true (by first | (with_reducible assumption) | assumption)
                                                                                      have q368 : x12_2 < (t337.length : Int) := of_decide_eq_true (by first | (with_reducible assumption) | assumption)
                                                                                      obtain ⟨ad368, e368, hx368_0⟩ := Kd.at_int (Kd.R_reads' HO_6.out).2.2 x12_2 p368 q368
                                                                                      obtain rfl : ad362 = ad368 := (by injection e368)
                                                                                      replace p368 := eq_true p368
                                                                                      replace q368 := eq_true q368
                                                                                      have p369 : 0 ≤ ((rd t337 x12_2) : Int) := of_decide_eq_true (by first | (with_reducible assumption) | assumption)
                                                                                      have q369 : (rd t337 x12_2) < ((rd_L1 t332 x12_2).length : Int) := of_decide_eq_true (by first | (with_reducible assumption) | assumption)
                                                                                      obtain ⟨ad369, e369, hx369_0⟩ := Kd.at_int (by repeat (first | (with_reducible exact HR367_0.out) | (with_reducible refine Kd.C_alloc ?_ _) | (with_reducible refine Kd.C_drewN ?_ _) | (with_reducible refine Kd.C_drew ?_) | exact HR367_0.out)) (rd t337 x12_2) p369 q369
                                                                                      cases e369
                                                                                      replace p369 := eq_true p369
                                                                                      replace q369 := eq_true q369
                                                                                      have p370 : 0 ≤ (x12_2 : Int) := of_decide_eq_true (by first | (with_reducible assumption) | assumption)
                                                                                      have q370 : x12_2 < (t332.length : Int) := of_decide_eq_true (by first | (with_reducible assumption) | assumption)
                                                                                      obtain ⟨ad370, A370_0, c370_0, e370, hx370_0, hl370_0, hi370_0⟩ := at_L1 (Kd.N_reads' HO_3.out).2.2 x12_2 p370 q370
                                                                                      obtain rfl : ad364 = ad370 := (by injection e370)
                                                                                      obtain ⟨ce370, hce370, hMe370, hcc370⟩ := Kd.N_get HO_3.out [] x12_2 p370 (by first | exact q370 | exact of_decide_eq_true (by first | (with_reducible assumption) | assumption) | (have e_ := (Kd.N_reads' HO_3.out).1; omega))
                                                                                      obtain ⟨ua370_0, uc370_0, rfl, ul370_0, ge370_0⟩ := Kd.FK_slice_open hMe370
                                                                                      have hv370_0 := hcc370 0 _ rfl
                                                                                      rw [Nat.add_zero, show ((Kd.slice 3 (Kd.int .i64))).sz = 1 from rfl, Nat.mul_one] at hv370_0
                                                                                      replace hv370_0 := Option.some.inj (hv370_0.symm.trans hx370_0)
                                                                                      injection hv370_0 with hva_ hvn_ hvc_
                                                                                      rw [hva_] at ge370_0
                                                                                      rw [hvc_] at ul370_0
                                                                                      have HL370_0 := Aside0.mk (show Kd.V (Kd.int .i64) 3 _ w.heap.size _ _ (rd_L1 t332 x12_2) from Kd.V_mk ul370_0 ge370_0)
                                                                                      clear hva_ hvn_ hvc_ ge370_0 ul370_0
                                                                                      clear hcc370 hce370
                                                                                      have HR370_0 := Aside0.mk hi370_0
                                                                                      have HC370_0 := Aside0.mk hl370_0
                                                                                      clear hi370_0 hl370_0
                                                                                      replace p370 := eq_true p370
                                                                                      replace q370 := eq_true q370
                                                                                      have ea_ := Option.some.inj (hx364_0.symm.trans hx370_0)
                                                                                      injection ea_ with ea_ en_ ec_
                                                                                      subst ea_
                                                                                      subst ec_
                                                                                      clear en_
                                                                                      have p371 : 0 ≤ ((ji44) : Int) := of_decide_eq_true (by first | (with_reducible assumption) | assumption)
                                                                                      have q371 : (ji44) < (t337.length : Int) := of_decide_eq_true (by first | (with_reducible assumption) | assumption)
                                                                                      obtain ⟨ad371, e371, hx371_0⟩ := Kd.at_int (Kd.R_reads' HO_6.out).2.2 (ji44) p371 q371
                                                                                      obtain rfl : ad362 = ad371 := (by injection e371)
                                                                                      replace p371 := eq_true p371
                                                                                      replace q371 := eq_true q371
                                                                                      have p372 : 0 ≤ ((rd t337 (ji44)) : Int) := of_decide_eq_true (by first | (with_reducible assumption) | assumption)
                                                                                      have q372 : (rd t337 (ji44)) < ((rd_L1 t332 x12_2).length : Int) := of_decide_eq_true (by first | (with_reducible assumption) | assumption)
                                                                                      obtain ⟨ad372, e372, hx372_0⟩ := Kd.at_int (by repeat (first | (with_reducible exact HR370_0.out) | (with_reducible refine Kd.C_alloc ?_ _) | (with_reducible refine Kd.C_drewN ?_ _) | (with_reducible refine Kd.C_drew ?_) | exact HR370_0.out)) (rd t337 (ji44)) p372 q372
                                                                                      cases e372
                                                                                      replace p372 := eq_true p372
                                                                                      replace q372 := eq_true q372
                                                                                      have p373 : 0 ≤ (x12_2 : Int) := of_decide_eq_true (by first | (with_reducible assumption) | assumption)
                                                                                      have q373 : x12_2 < (t332.length : Int) := of_decide_eq_true (by first | (with_reducible assumption) | assumption)
                                                                                      obtain ⟨ad373, A373_0, c373_0, e373, hx373_0, hl373_0, hi373_0⟩ := at_L1 (Kd.N_reads' HO_3.out).2.2 x12_2 p373 q373
                                                                                      obtain rfl : ad364 = ad373 := (by injection e373)
                                                                                      obtain ⟨ce373, hce373, hMe373, hcc373⟩ := Kd.N_get HO_3.out [] x12_2 p373 (by first | exact q373 | exact of_decide_eq_true (by first | (with_reducible assumption) | assumption) | (have e_ := (Kd.N_reads' HO_3.out).1; omega))
                                                                                      obtain ⟨ua373_0, uc373_0, rfl, ul373_0, ge373_0⟩ := Kd.FK_slice_open hMe373
                                                                                      have hv373_0 := hcc373 0 _ rfl
                                                                                      rw [Nat.add_zero, show ((Kd.slice 3 (Kd.int .i64))).sz = 1 from rfl, Nat.mul_one] at hv373_0
                                                                                      replace hv373_0 := Option.some.inj (hv373_0.symm.trans hx373_0)
                                                                                      injection hv373_0 with hva_ hvn_ hvc_
                                                                                      rw [hva_] at ge373_0
                                                                                      rw [hvc_] at ul373_0
                                                                                      have HL373_0 := Aside0.mk (show Kd.V (Kd.int .i64) 3 _ w.heap.size _ _ (rd_L1 t332 x12_2) from Kd.V_mk ul373_0 ge373_0)
                                                                                      clear hva_ hvn_ hvc_ ge373_0 ul373_0
                                                                                      clear hcc373 hce373
                                                                                      have HR373_0 := Aside0.mk hi373_0
                                                                                      have HC373_0 := Aside0.mk hl373_0
                                                                                      clear hi373_0 hl373_0
                                                                                      replace p373 := eq_true p373
                                                                                      replace q373 := eq_true q373
                                                                                      have ea_ := Option.some.inj (hx364_0.symm.trans hx373_0)
                                                                                      injection ea_ with ea_ en_ ec_
                                                                                      subst ea_
                                                                                      subst ec_
                                                                                      clear en_
                                                                                      have p374 : 0 ≤ (x12_2 : Int) := of_decide_eq_true (by first | (with_reducible assumption) | assumption)
                                                                                      have q374 : x12_2 < (t337.length : Int) := of_decide_eq_true (by first | (with_reducible assumption) | assumption)
                                                                                      obtain ⟨ad374, e374, hx374_0⟩ := Kd.at_int (Kd.R_reads' HO_6.out).2.2 x12_2 p374 q374
                                                                                      obtain rfl : ad362 = ad374 := (by injection e374)
                                                                                      replace p374 := eq_true p374
                                                                                      replace q374 := eq_true q374
                                                                                      have p375 : 0 ≤ ((rd t337 x12_2) : Int) := of_decide_eq_true (by first | (with_reducible assumption) | assumption)
                                                                                      have q375 : (rd t337 x12_2) < ((rd_L1 t332 x12_2).length : Int) := of_decide_eq_true (by first | (with_reducible assumption) | assumption)
                                                                                      obtain ⟨ad375, e375, hx375_0⟩ := Kd.at_int (by repeat (first | (with_reducible exact HR373_0.out) | (with_reducible refine Kd.C_alloc ?_ _) | (with_reducible refine Kd.C_drewN ?_ _) | (with_reducible refine Kd.C_drew ?_) | exact HR373_0.out)) (rd t337 x12_2) p375 q375
                                                                                      cases e375
                                                                                      replace p375 := eq_true p375
                                                                                      replace q375 := eq_true q375
                                                                                      have p376 : 0 ≤ (x12_2 : Int) := of_decide_eq_true (by first | (with_reducible assumption) | assumption)
                                                                                      have q376 : x12_2 < (t332.length : Int) := of_decide_eq_true (by first | (with_reducible assumption) | assumption)
                                                                                      obtain ⟨ad376, A376_0, c376_0, e376, hx376_0, hl376_0, hi376_0⟩ := at_L1 (Kd.N_reads' HO_3.out).2.2 x12_2 p376 q376
                                                                                      obtain rfl : ad364 = ad376 := (by injection e376)
                                                                                      obtain ⟨ce376, hce376, hMe376, hcc376⟩ := Kd.N_get HO_3.out [] x12_2 p376 (by first | exact q376 | exact of_decide_eq_true (by first | (with_reducible assumption) | assumption) | (have e_ := (Kd.N_reads' HO_3.out).1; omega))
                                                                                      obtain ⟨ua376_0, uc376_0, rfl, ul376_0, ge376_0⟩ := Kd.FK_slice_open hMe376
                                                                                      have hv376_0 := hcc376 0 _ rfl
                                                                                      rw [Nat.add_zero, show ((Kd.slice 3 (Kd.int .i64))).sz = 1 from rfl, Nat.mul_one] at hv376_0
                                                                                      replace hv376_0 := Option.some.inj (hv376_0.symm.trans hx376_0)
                                                                                      injection hv376_0 with hva_ hvn_ hvc_
                                                                                      rw [hva_] at ge376_0
                                                                                      rw [hvc_] at ul376_0
                                                                                      have HL376_0 := Aside0.mk (show Kd.V (Kd.int .i64) 3 _ w.heap.size _ _ (rd_L1 t332 x12_2) from Kd.V_mk ul376_0 ge376_0)
                                                                                      clear hva_ hvn_ hvc_ ge376_0 ul376_0
                                                                                      clear hcc376 hce376
                                                                                      have HR376_0 := Aside0.mk hi376_0
                                                                                      have HC376_0 := Aside0.mk hl376_0
                                                                                      clear hi376_0 hl376_0
                                                                                      replace p376 := eq_true p376
                                                                                      replace q376 := eq_true q376
                                                                                      have ea_ := Option.some.inj (hx364_0.symm.trans hx376_0)
                                                                                      injection ea_ with ea_ en_ ec_
                                                                                      subst ea_
                                                                                      subst ec_
                                                                                      clear en_
                                                                                      have p377 : 0 ≤ ((ji44) : Int) := of_decide_eq_true (by first | (with_reducible assumption) | assumption)
                                                                                      have q377 : (ji44) < (t337.length : Int) := of_decide_eq_true (by first | (with_reducible assumption) | assumption)
                                                                                      obtain ⟨ad377, e377, hx377_0⟩ := Kd.at_int (Kd.R_reads' HO_6.out).2.2 (ji44) p377 q377
                                                                                      obtain rfl : ad362 = ad377 := (by injection e377)
                                                                                      replace p377 := eq_true p377
                                                                                      replace q377 := eq_true q377
                                                                                      have p378 : 0 ≤ ((rd t337 (ji44)) : Int) := of_decide_eq_true (by first | (with_reducible assumption) | assumption)
                                                                                      have q378 : (rd t337 (ji44)) < ((rd_L1 t332 x12_2).length : Int) := of_decide_eq_true (by first | (with_reducible assumption) | assumption)
                                                                                      obtain ⟨ad378, e378, hx378_0⟩ := Kd.at_int (by repeat (first | (with_reducible exact HR376_0.out) | (with_reducible refine Kd.C_alloc ?_ _) | (with_reducible refine Kd.C_drewN ?_ _) | (with_reducible refine Kd.C_drew ?_) | exact HR376_0.out)) (rd t337 (ji44)) p378 q378
                                                                                      cases e378
                                                                                      replace p378 := eq_true p378
                                                                                      replace q378 := eq_true q378
                                                                                      go_wp2
                                                                                      repeat (go_quiet (fail); try go_wp2)
                                                                                      go_roundg k2
                                                                                      case measure => have := HJ12.out; have := HK2.out; omega
                                                                                      case rel => exact ⟨(wrap64 (x12_2 + 1)), (by first | rfl | (simp; done) | (simp [*]; done)), H', ⟨by have := HJ12.out; have := HK2.out; omega⟩, ⟨by (with_reducible repeat (first | apply Kd.N_alloc | apply Kd.N_drewN | apply Kd.N_drew)); exact HO_3.out⟩, ⟨by (with_reducible repeat (first | apply Kd.R_alloc | apply Kd.R_drewN | apply Kd.R_drew)); exact HO_6.out⟩, ⟨by repeat (first | (with_reducible first | exact HB.out | apply below_alloc | apply pw_below_drewN | apply below_drew1) | exact HB.out)⟩⟩
                                                                          · rw [if_neg c52] at H
                                                                            exact absurd H (by simp)
                                                                      · rw [if_neg c51] at H
                                                                        exact absurd H (by simp)
                                                                  · rw [if_neg c50] at H
                                                                    exact absurd H (by simp)
                                                              · rw [if_neg c49] at H
                                                                exact absurd H (by simp)
                                                      · rw [if_neg c46] at H
                                                        exact absurd H (by simp)
                                                  · rw [if_neg c45] at H
                                                    exact absurd H (by simp)
                                              · as_aux_lemma =>
                                                  rw [if_neg c43] at H
                                                  have c43b0 : decide (0 < x12_2) = false := decide_eq_false c43
                                                  clear c43
                                                  have H' := Aside0.mk H
                                                  clear H
                                                  obtain ⟨Ao58, co58, eo58⟩ := Kd.R_slice HO_6.out
                                                  subst eo58
                                                  have p362 : 0 ≤ (x12_2 : Int) := of_decide_eq_true (by first | (with_reducible assumption) | assumption)
                                                  have q362 : x12_2 < (t337.length : Int) := of_decide_eq_true (by first | (with_reducible assumption) | assumption)
                                                  obtain ⟨ad362, e362, hx362_0⟩ := Kd.at_int (Kd.R_reads' HO_6.out).2.2 x12_2 p362 q362
                                                  cases e362
                                                  replace p362 := eq_true p362
                                                  replace q362 := eq_true q362
                                                  have p363 : 0 ≤ (x12_2 : Int) := of_decide_eq_true (by first | (with_reducible assumption) | assumption)
                                                  have q363 : x12_2 < (t337.length : Int) := of_decide_eq_true (by first | (with_reducible assumption) | assumption)
                                                  obtain ⟨ad363, e363, hx363_0⟩ := Kd.at_int (Kd.R_reads' HO_6.out).2.2 x12_2 p363 q363
                                                  obtain rfl : ad362 = ad363 := (by injection e363)
                                                  replace p363 := eq_true p363
                                                  replace q363 := eq_true q363
                                                  have p364 : 0 ≤ (x12_2 : Int) := of_decide_eq_true (by first | (with_reducible assumption) | assumption)
                                                  have q364 : x12_2 < (t332.length : Int) := of_decide_eq_true (by first | (with_reducible assumption) | assumption)
                                                  obtain ⟨ad364, A364_0, c364_0, e364, hx364_0, hl364_0, hi364_0⟩ := at_L1 (Kd.N_reads' HO_3.out).2.2 x12_2 p364 q364
                                                  cases e364
                                                  obtain ⟨ce364, hce364, hMe364, hcc364⟩ := Kd.N_get HO_3.out [] x12_2 p364 (by first | exact q364 | exact of_decide_eq_true (by first | (with_reducible assumption) | assumption) | (have e_ := (Kd.N_reads' HO_3.out).1; omega))
                                                  obtain ⟨ua364_0, uc364_0, rfl, ul364_0, ge364_0⟩ := Kd.FK_slice_open hMe364
                                                  have hv364_0 := hcc364 0 _ rfl
                                                  rw [Nat.add_zero, show ((Kd.slice 3 (Kd.int .i64))).sz = 1 from rfl, Nat.mul_one] at hv364_0
                                                  replace hv364_0 := Option.some.inj (hv364_0.symm.trans hx364_0)
                                                  injection hv364_0 with hva_ hvn_ hvc_
                                                  rw [hva_] at ge364_0
                                                  rw [hvc_] at ul364_0
                                                  have HL364_0 := Aside0.mk (show Kd.V (Kd.int .i64) 3 _ w.heap.size _ _ (rd_L1 t332 x12_2) from Kd.V_mk ul364_0 ge364_0)
                                                  clear hva_ hvn_ hvc_ ge364_0 ul364_0
                                                  clear hcc364 hce364
                                                  have HR364_0 := Aside0.mk hi364_0
                                                  have HC364_0 := Aside0.mk hl364_0
                                                  clear hi364_0 hl364_0
                                                  replace p364 := eq_true p364
                                                  replace q364 := eq_true q364
                                                  go_wp2
                                                  repeat (go_quiet (fail); try go_wp2)
                                                  go_roundg k2
                                                  case measure => have := HJ12.out; have := HK2.out; omega
                                                  case rel => exact ⟨(wrap64 (x12_2 + 1)), (by first | rfl | (simp; done) | (simp [*]; done)), H', ⟨by have := HJ12.out; have := HK2.out; omega⟩, ⟨by (with_reducible repeat (first | apply Kd.N_alloc | apply Kd.N_drewN | apply Kd.N_drew)); exact HO_3.out⟩, ⟨by (with_reducible repeat (first | apply Kd.R_alloc | apply Kd.R_drewN | apply Kd.R_drew)); exact HO_6.out⟩, ⟨by repeat (first | (with_reducible first | exact HB.out | apply below_alloc | apply pw_below_drewN | apply below_drew1) | exact HB.out)⟩⟩
                                      · rw [if_neg c40] at H
                                        exact absurd H (by simp)
                              · rw [if_neg c37] at H
                                exact absurd H (by simp)
                          · as_aux_lemma =>
                              rw [if_neg c36] at H
                              have c36b0 : decide (x12_2 < (t337.length : Int)) = false := decide_eq_false c36
                              clear c36
                              replace H := Option.bind_eq_some_iff.mp H
                              obtain ⟨⟨t379, t380⟩, A590, H⟩ := H
                              replace H : (if (t337.length : Int) = (t332.length : Int) then (if t379 < 2 then (if t380 = 0 then (some true) else (if t379 ≥ 2 then (some (decide (t380 ≥ t334))) else (some false))) else (if t379 ≥ 2 then (some (decide (t380 ≥ t334))) else (some false))) else (some false)) = some r := H
                              have A59 := Aside0.mk A590
                              clear A590
                              by_cases c60 : (t337.length : Int) = (t332.length : Int)
                              · as_aux_lemma =>
                                  rw [if_pos c60] at H
                                  have c60b0 : ((t337.length : Int) == (t332.length : Int)) = true := beq_iff_eq.mpr c60
                                  have c60b1 : ((t337.length : Int) != (t332.length : Int)) = false := bne_eq_false_iff_eq.mpr c60
                                  have c60b2 : (t337.length == t332.length) = true := by first | simpa using c60 | (simp at c60 ⊢; omega)
                                  clear c60
                                  by_cases c61 : t379 < 2
                                  · as_aux_lemma =>
                                      rw [if_pos c61] at H
                                      have c61b0 : decide (t379 < 2) = true := decide_eq_true c61
                                      clear c61
                                      by_cases c62 : t380 = 0
                                      · as_aux_lemma =>
                                          rw [if_pos c62] at H
                                          have c62b0 : (t380 == 0) = true := beq_iff_eq.mpr c62
                                          have c62b1 : (t380 != 0) = false := bne_eq_false_iff_eq.mpr c62
                                          clear c62
                                          obtain rfl := Option.some.inj H
                                          obtain ⟨Ao63, co63, eo63⟩ := Kd.R_slice HO_6.out
                                          subst eo63
                                          go_wp2_with (first | (go_at_call 21; (with_reducible refine (impl_Changes.calls k2 _ _ t337 t379 t380 _ ?side1 ?side2 A59.out).mono ?_); (case side1 => repeat (first | exact (Kd.R_reads' HO_6.out).2.2 | (with_reducible refine Kd.C_alloc ?_ _) | (with_reducible refine Kd.C_drewN ?_ _) | (with_reducible refine Kd.C_drew ?_))); (case side2 => exact (Kd.R_reads' HO_6.out).2.1); rintro e w' ⟨rfl, ⟨nd, rfl⟩⟩; (try first | exact ⟨rfl, _, World.drewN_drewN _ _ _⟩ | exact ⟨rfl, _, Eq.trans (World.drewN_drewN _ _ _) (congrArg (World.drewN _) (Nat.add_assoc _ _ _))⟩)))
                                          repeat (go_quiet (first | (go_at_call 21; (with_reducible refine (impl_Changes.calls k2 _ _ t337 t379 t380 _ ?side1 ?side2 A59.out).mono ?_); (case side1 => repeat (first | exact (Kd.R_reads' HO_6.out).2.2 | (with_reducible refine Kd.C_alloc ?_ _) | (with_reducible refine Kd.C_drewN ?_ _) | (with_reducible refine Kd.C_drew ?_))); (case side2 => exact (Kd.R_reads' HO_6.out).2.1); rintro e w' ⟨rfl, ⟨nd, rfl⟩⟩; (try first | exact ⟨rfl, _, World.drewN_drewN _ _ _⟩ | exact ⟨rfl, _, Eq.trans (World.drewN_drewN _ _ _) (congrArg (World.drewN _) (Nat.add_assoc _ _ _))⟩))); try go_wp2_with (first | (go_at_call 21; (with_reducible refine (impl_Changes.calls k2 _ _ t337 t379 t380 _ ?side1 ?side2 A59.out).mono ?_); (case side1 => repeat (first | exact (Kd.R_reads' HO_6.out).2.2 | (with_reducible refine Kd.C_alloc ?_ _) | (with_reducible refine Kd.C_drewN ?_ _) | (with_reducible refine Kd.C_drew ?_))); (case side2 => exact (Kd.R_reads' HO_6.out).2.1); rintro e w' ⟨rfl, ⟨nd, rfl⟩⟩; (try first | exact ⟨rfl, _, World.drewN_drewN _ _ _⟩ | exact ⟨rfl, _, Eq.trans (World.drewN_drewN _ _ _) (congrArg (World.drewN _) (Nat.add_assoc _ _ _))⟩))))
                                          go_ret
                                          exact ⟨by first | rfl | (simp [errW_none, errW_some] <;> rfl) | (simp [*, errW_none, errW_some] <;> rfl), by repeat (first | (with_reducible first | exact HB.out | apply below_alloc | apply pw_below_drewN | apply below_drew1) | exact HB.out)⟩
                                      · as_aux_lemma =>
                                          rw [if_neg c62] at H
                                          have c62b0 : (t380 == 0) = false := beq_eq_false_iff_ne.mpr c62
                                          have c62b1 : (t380 != 0) = true := bne_iff_ne.mpr c62
                                          by_cases c64 : t379 ≥ 2
                                          · as_aux_lemma =>
                                              rw [if_pos c64] at H
                                              have c64b0 : decide (2 ≤ t379) = true := decide_eq_true c64
                                              clear c64
                                              obtain rfl := Option.some.inj H
                                              obtain ⟨Ao65, co65, eo65⟩ := Kd.R_slice HO_6.out
                                              subst eo65
                                              go_wp2_with (first | (go_at_call 21; (with_reducible refine (impl_Changes.calls k2 _ _ t337 t379 t380 _ ?side1 ?side2 A59.out).mono ?_); (case side1 => repeat (first | exact (Kd.R_reads' HO_6.out).2.2 | (with_reducible refine Kd.C_alloc ?_ _) | (with_reducible refine Kd.C_drewN ?_ _) | (with_reducible refine Kd.C_drew ?_))); (case side2 => exact (Kd.R_reads' HO_6.out).2.1); rintro e w' ⟨rfl, ⟨nd, rfl⟩⟩; (try first | exact ⟨rfl, _, World.drewN_drewN _ _ _⟩ | exact ⟨rfl, _, Eq.trans (World.drewN_drewN _ _ _) (congrArg (World.drewN _) (Nat.add_assoc _ _ _))⟩)))
                                              repeat (go_quiet (first | (go_at_call 21; (with_reducible refine (impl_Changes.calls k2 _ _ t337 t379 t380 _ ?side1 ?side2 A59.out).mono ?_); (case side1 => repeat (first | exact (Kd.R_reads' HO_6.out).2.2 | (with_reducible refine Kd.C_alloc ?_ _) | (with_reducible refine Kd.C_drewN ?_ _) | (with_reducible refine Kd.C_drew ?_))); (case side2 => exact (Kd.R_reads' HO_6.out).2.1); rintro e w' ⟨rfl, ⟨nd, rfl⟩⟩; (try first | exact ⟨rfl, _, World.drewN_drewN _ _ _⟩ | exact ⟨rfl, _, Eq.trans (World.drewN_drewN _ _ _) (congrArg (World.drewN _) (Nat.add_assoc _ _ _))⟩))); try go_wp2_with (first | (go_at_call 21; (with_reducible refine (impl_Changes.calls k2 _ _ t337 t379 t380 _ ?side1 ?side2 A59.out).mono ?_); (case side1 => repeat (first | exact (Kd.R_reads' HO_6.out).2.2 | (with_reducible refine Kd.C_alloc ?_ _) | (with_reducible refine Kd.C_drewN ?_ _) | (with_reducible refine Kd.C_drew ?_))); (case side2 => exact (Kd.R_reads' HO_6.out).2.1); rintro e w' ⟨rfl, ⟨nd, rfl⟩⟩; (try first | exact ⟨rfl, _, World.drewN_drewN _ _ _⟩ | exact ⟨rfl, _, Eq.trans (World.drewN_drewN _ _ _) (congrArg (World.drewN _) (Nat.add_assoc _ _ _))⟩))))
                                              go_ret
                                              exact ⟨by first | rfl | (simp [errW_none, errW_some] <;> rfl) | (simp [*, errW_none, errW_some] <;> rfl), by repeat (first | (with_reducible first | exact HB.out | apply below_alloc | apply pw_below_drewN | apply below_drew1) | exact HB.out)⟩
                                          · as_aux_lemma =>
                                              rw [if_neg c64] at H
                                              have c64b0 : decide (2 ≤ t379) = false := decide_eq_false c64
                                              clear c64
                                              obtain rfl := Option.some.inj H
                                              obtain ⟨Ao66, co66, eo66⟩ := Kd.R_slice HO_6.out
                                              subst eo66
                                              go_wp2_with (first | (go_at_call 21; (with_reducible refine (impl_Changes.calls k2 _ _ t337 t379 t380 _ ?side1 ?side2 A59.out).mono ?_); (case side1 => repeat (first | exact (Kd.R_reads' HO_6.out).2.2 | (with_reducible refine Kd.C_alloc ?_ _) | (with_reducible refine Kd.C_drewN ?_ _) | (with_reducible refine Kd.C_drew ?_))); (case side2 => exact (Kd.R_reads' HO_6.out).2.1); rintro e w' ⟨rfl, ⟨nd, rfl⟩⟩; (try first | exact ⟨rfl, _, World.drewN_drewN _ _ _⟩ | exact ⟨rfl, _, Eq.trans (World.drewN_drewN _ _ _) (congrArg (World.drewN _) (Nat.add_assoc _ _ _))⟩)))
                                              repeat (go_quiet (first | (go_at_call 21; (with_reducible refine (impl_Changes.calls k2 _ _ t337 t379 t380 _ ?side1 ?side2 A59.out).mono ?_); (case side1 => repeat (first | exact (Kd.R_reads' HO_6.out).2.2 | (with_reducible refine Kd.C_alloc ?_ _) | (with_reducible refine Kd.C_drewN ?_ _) | (with_reducible refine Kd.C_drew ?_))); (case side2 => exact (Kd.R_reads' HO_6.out).2.1); rintro e w' ⟨rfl, ⟨nd, rfl⟩⟩; (try first | exact ⟨rfl, _, World.drewN_drewN _ _ _⟩ | exact ⟨rfl, _, Eq.trans (World.drewN_drewN _ _ _) (congrArg (World.drewN _) (Nat.add_assoc _ _ _))⟩))); try go_wp2_with (first | (go_at_call 21; (with_reducible refine (impl_Changes.calls k2 _ _ t337 t379 t380 _ ?side1 ?side2 A59.out).mono ?_); (case side1 => repeat (first | exact (Kd.R_reads' HO_6.out).2.2 | (with_reducible refine Kd.C_alloc ?_ _) | (with_reducible refine Kd.C_drewN ?_ _) | (with_reducible refine Kd.C_drew ?_))); (case side2 => exact (Kd.R_reads' HO_6.out).2.1); rintro e w' ⟨rfl, ⟨nd, rfl⟩⟩; (try first | exact ⟨rfl, _, World.drewN_drewN _ _ _⟩ | exact ⟨rfl, _, Eq.trans (World.drewN_drewN _ _ _) (congrArg (World.drewN _) (Nat.add_assoc _ _ _))⟩))))
                                              go_ret
                                              exact ⟨by first | rfl | (simp [errW_none, errW_some] <;> rfl) | (simp [*, errW_none, errW_some] <;> rfl), by repeat (first | (with_reducible first | exact HB.out | apply below_alloc | apply pw_below_drewN | apply below_drew1) | exact HB.out)⟩
                                  · as_aux_lemma =>
                                      rw [if_neg c61] at H
                                      have c61b0 : decide (t379 < 2) = false := decide_eq_false c61
                                      clear c61
                                      by_cases c67 : t379 ≥ 2
                                      · as_aux_lemma =>
                                          rw [if_pos c67] at H
                                          have c67b0 : decide (2 ≤ t379) = true := decide_eq_true c67
                                          clear c67
                                          obtain rfl := Option.some.inj H
                                          obtain ⟨Ao68, co68, eo68⟩ := Kd.R_slice HO_6.out
                                          subst eo68
                                          go_wp2_with (first | (go_at_call 21; (with_reducible refine (impl_Changes.calls k2 _ _ t337 t379 t380 _ ?side1 ?side2 A59.out).mono ?_); (case side1 => repeat (first | exact (Kd.R_reads' HO_6.out).2.2 | (with_reducible refine Kd.C_alloc ?_ _) | (with_reducible refine Kd.C_drewN ?_ _) | (with_reducible refine Kd.C_drew ?_))); (case side2 => exact (Kd.R_reads' HO_6.out).2.1); rintro e w' ⟨rfl, ⟨nd, rfl⟩⟩; (try first | exact ⟨rfl, _, World.drewN_drewN _ _ _⟩ | exact ⟨rfl, _, Eq.trans (World.drewN_drewN _ _ _) (congrArg (World.drewN _) (Nat.add_assoc _ _ _))⟩)))
                                          repeat (go_quiet (first | (go_at_call 21; (with_reducible refine (impl_Changes.calls k2 _ _ t337 t379 t380 _ ?side1 ?side2 A59.out).mono ?_); (case side1 => repeat (first | exact (Kd.R_reads' HO_6.out).2.2 | (with_reducible refine Kd.C_alloc ?_ _) | (with_reducible refine Kd.C_drewN ?_ _) | (with_reducible refine Kd.C_drew ?_))); (case side2 => exact (Kd.R_reads' HO_6.out).2.1); rintro e w' ⟨rfl, ⟨nd, rfl⟩⟩; (try first | exact ⟨rfl, _, World.drewN_drewN _ _ _⟩ | exact ⟨rfl, _, Eq.trans (World.drewN_drewN _ _ _) (congrArg (World.drewN _) (Nat.add_assoc _ _ _))⟩))); try go_wp2_with (first | (go_at_call 21; (with_reducible refine (impl_Changes.calls k2 _ _ t337 t379 t380 _ ?side1 ?side2 A59.out).mono ?_); (case side1 => repeat (first | exact (Kd.R_reads' HO_6.out).2.2 | (with_reducible refine Kd.C_alloc ?_ _) | (with_reducible refine Kd.C_drewN ?_ _) | (with_reducible refine Kd.C_drew ?_))); (case side2 => exact (Kd.R_reads' HO_6.out).2.1); rintro e w' ⟨rfl, ⟨nd, rfl⟩⟩; (try first | exact ⟨rfl, _, World.drewN_drewN _ _ _⟩ | exact ⟨rfl, _, Eq.trans (World.drewN_drewN _ _ _) (congrArg (World.drewN _) (Nat.add_assoc _ _ _))⟩))))
                                          go_ret
                                          exact ⟨by first | rfl | (simp [errW_none, errW_some] <;> rfl) | (simp [*, errW_none, errW_some] <;> rfl), by repeat (first | (with_reducible first | exact HB.out | apply below_alloc | apply pw_below_drewN | apply below_drew1) | exact HB.out)⟩
                                      · as_aux_lemma =>
                                          rw [if_neg c67] at H
                                          have c67b0 : decide (2 ≤ t379) = false := decide_eq_false c67
                                          clear c67
                                          obtain rfl := Option.some.inj H
                                          obtain ⟨Ao69, co69, eo69⟩ := Kd.R_slice HO_6.out
                                          subst eo69
                                          go_wp2_with (first | (go_at_call 21; (with_reducible refine (impl_Changes.calls k2 _ _ t337 t379 t380 _ ?side1 ?side2 A59.out).mono ?_); (case side1 => repeat (first | exact (Kd.R_reads' HO_6.out).2.2 | (with_reducible refine Kd.C_alloc ?_ _) | (with_reducible refine Kd.C_drewN ?_ _) | (with_reducible refine Kd.C_drew ?_))); (case side2 => exact (Kd.R_reads' HO_6.out).2.1); rintro e w' ⟨rfl, ⟨nd, rfl⟩⟩; (try first | exact ⟨rfl, _, World.drewN_drewN _ _ _⟩ | exact ⟨rfl, _, Eq.trans (World.drewN_drewN _ _ _) (congrArg (World.drewN _) (Nat.add_assoc _ _ _))⟩)))
                                          repeat (go_quiet (first | (go_at_call 21; (with_reducible refine (impl_Changes.calls k2 _ _ t337 t379 t380 _ ?side1 ?side2 A59.out).mono ?_); (case side1 => repeat (first | exact (Kd.R_reads' HO_6.out).2.2 | (with_reducible refine Kd.C_alloc ?_ _) | (with_reducible refine Kd.C_drewN ?_ _) | (with_reducible refine Kd.C_drew ?_))); (case side2 => exact (Kd.R_reads' HO_6.out).2.1); rintro e w' ⟨rfl, ⟨nd, rfl⟩⟩; (try first | exact ⟨rfl, _, World.drewN_drewN _ _ _⟩ | exact ⟨rfl, _, Eq.trans (World.drewN_drewN _ _ _) (congrArg (World.drewN _) (Nat.add_assoc _ _ _))⟩))); try go_wp2_with (first | (go_at_call 21; (with_reducible refine (impl_Changes.calls k2 _ _ t337 t379 t380 _ ?side1 ?side2 A59.out).mono ?_); (case side1 => repeat (first | exact (Kd.R_reads' HO_6.out).2.2 | (with_reducible refine Kd.C_alloc ?_ _) | (with_reducible refine Kd.C_drewN ?_ _) | (with_reducible refine Kd.C_drew ?_))); (case side2 => exact (Kd.R_reads' HO_6.out).2.1); rintro e w' ⟨rfl, ⟨nd, rfl⟩⟩; (try first | exact ⟨rfl, _, World.drewN_drewN _ _ _⟩ | exact ⟨rfl, _, Eq.trans (World.drewN_drewN _ _ _) (congrArg (World.drewN _) (Nat.add_assoc _ _ _))⟩))))
                                          go_ret
                                          exact ⟨by first | rfl | (simp [errW_none, errW_some] <;> rfl) | (simp [*, errW_none, errW_some] <;> rfl), by repeat (first | (with_reducible first | exact HB.out | apply below_alloc | apply pw_below_drewN | apply below_drew1) | exact HB.out)⟩
                              · as_aux_lemma =>
                                  rw [if_neg c60] at H
                                  have c60b0 : ((t337.length : Int) == (t332.length : Int)) = false := beq_eq_false_iff_ne.mpr c60
                                  have c60b1 : ((t337.length : Int) != (t332.length : Int)) = true := bne_iff_ne.mpr c60
                                  have c60b2 : (t337.length == t332.length) = false := by first | simpa using c60 | (simp at c60 ⊢; omega)
                                  obtain rfl := Option.some.inj H
                                  obtain ⟨Ao70, co70, eo70⟩ := Kd.R_slice HO_6.out
                                  subst eo70
                                  go_wp2_with (first | (go_at_call 21; (with_reducible refine (impl_Changes.calls k2 _ _ t337 t379 t380 _ ?side1 ?side2 A59.out).mono ?_); (case side1 => repeat (first | exact (Kd.R_reads' HO_6.out).2.2 | (with_reducible refine Kd.C_alloc ?_ _) | (with_reducible refine Kd.C_drewN ?_ _) | (with_reducible refine Kd.C_drew ?_))); (case side2 => exact (Kd.R_reads' HO_6.out).2.1); rintro e w' ⟨rfl, ⟨nd, rfl⟩⟩; (try first | exact ⟨rfl, _, World.drewN_drewN _ _ _⟩ | exact ⟨rfl, _, Eq.trans (World.drewN_drewN _ _ _) (congrArg (World.drewN _) (Nat.add_assoc _ _ _))⟩)))
                                  repeat (go_quiet (first | (go_at_call 21; (with_reducible refine (impl_Changes.calls k2 _ _ t337 t379 t380 _ ?side1 ?side2 A59.out).mono ?_); (case side1 => repeat (first | exact (Kd.R_reads' HO_6.out).2.2 | (with_reducible refine Kd.C_alloc ?_ _) | (with_reducible refine Kd.C_drewN ?_ _) | (with_reducible refine Kd.C_drew ?_))); (case side2 => exact (Kd.R_reads' HO_6.out).2.1); rintro e w' ⟨rfl, ⟨nd, rfl⟩⟩; (try first | exact ⟨rfl, _, World.drewN_drewN _ _ _⟩ | exact ⟨rfl, _, Eq.trans (World.drewN_drewN _ _ _) (congrArg (World.drewN _) (Nat.add_assoc _ _ _))⟩))); try go_wp2_with (first | (go_at_call 21; (with_reducible refine (impl_Changes.calls k2 _ _ t337 t379 t380 _ ?side1 ?side2 A59.out).mono ?_); (case side1 => repeat (first | exact (Kd.R_reads' HO_6.out).2.2 | (with_reducible refine Kd.C_alloc ?_ _) | (with_reducible refine Kd.C_drewN ?_ _) | (with_reducible refine Kd.C_drew ?_))); (case side2 => exact (Kd.R_reads' HO_6.out).2.1); rintro e w' ⟨rfl, ⟨nd, rfl⟩⟩; (try first | exact ⟨rfl, _, World.drewN_drewN _ _ _⟩ | exact ⟨rfl, _, Eq.trans (World.drewN_drewN _ _ _) (congrArg (World.drewN _) (Nat.add_assoc _ _ _))⟩))))
                                  go_ret
                                  exact ⟨by first | rfl | (simp [errW_none, errW_some] <;> rfl) | (simp [*, errW_none, errW_some] <;> rfl), by repeat (first | (with_reducible first | exact HB.out | apply below_alloc | apply pw_below_drewN | apply below_drew1) | exact HB.out)⟩
                  · as_aux_lemma =>
                      replace c35 := Bool.eq_false_iff.mpr c35
                      subst c35
                      have H1 : (some ((t337.length : Int) == 0)) = some r := by rw [if_neg (show ¬ (false = true) by decide)] at H; exact H
                      clear H
                      have H := H1
                      clear H1
                      obtain rfl := Option.some.inj H
                      obtain ⟨Ao71, co71, eo71⟩ := Kd.R_slice HO_6.out
                      subst eo71
                      go_wp2
                      repeat (go_quiet (fail); try go_wp2)
                      go_ret
                      exact ⟨by first | rfl | (simp [errW_none, errW_some] <;> rfl) | (simp [*, errW_none, errW_some] <;> rfl), by repeat (first | (with_reducible first | exact HB.out | apply below_alloc | apply pw_below_drewN | apply below_drew1) | exact HB.out)⟩

/-- THE ONE PURE STATEMENT of laws_FnServed: yours. -/
def laws_FnServed.Pure : Prop := ∀ (l0 : List Int), l0.length ≤ maxLen → l0.length * 1 ≤ 140737488351232 → (∀ x ∈ l0, (Lit.int .u8 x).wf = true) → ∃ k, laws_FnServed.f k l0 = some true
theorem laws_FnServed.walk (P : laws_FnServed.Pure) (a0 : Option Addr) (len0 cap0 : Nat) (z0 : List Int) (w : World) (w0 : (a0 = none ∧ len0 = 0 ∧ cap0 = 0 ∧ z0 = []) ∨ ∃ x, a0 = some x ∧ len0 ≤ cap0 ∧ cap0 ≤ maxLen ∧ z0.length = cap0 ∧ (∀ i, i < z0.length → w.cell? (x.add i) = some (.int .u8 (z0.getD i 0))) ∧ ∀ n ∈ z0, (Lit.int .u8 n).wf = true) (y0 : len0 * 1 ≤ 140737488351232) :
    Calls Try.prog 4 #[.slice a0 len0 cap0] w fun e w' => e = .returned (.bool true) ∧ Below w.heap.size w w' := by
  obtain ⟨l0, rfl, hr0, hm0, hw0, hc0⟩ := ReadsInt.ofRowC w0
  obtain ⟨k, h⟩ := P l0 hm0 y0 hw0
  refine (laws_FnServed.calls k _ _ l0 true w (Kd.C_of_reads (d := (0 : Int)) (h1 := fun _ => rfl) hr0) hc0 h).mono ?_
  rintro e w' ⟨rfl, hd⟩
  exact ⟨rfl, hd⟩

end Go.Proofs.Ythhbeekokbcnfaa.MFnServed
