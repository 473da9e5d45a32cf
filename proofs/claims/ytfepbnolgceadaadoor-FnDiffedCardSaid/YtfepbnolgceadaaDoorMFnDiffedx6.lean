/- The functions that the law FnDiffed reaches, as plain functions, and that the code comes to them. Begun as a text of the print over stubs; turned by wip/handstub.py and wip/mend.py. -/
import Derived.Laws.Cover1
import Derived.Test.YtfepbnolgceadaaDoorMFnDiffedx0
import Derived.Test.YtfepbnolgceadaaDoorMFnDiffedx5
namespace Go.Proofs.YtfepbnolgceadaaDoor.MFnDiffed
open Go.RowKit Go.Proofs.YtfepbnolgceadaaDoorW.PrintWords Go.Proofs.YtfepbnolgceadaaDoorW.PrintLast Go.Proofs.YtfepbnolgceadaaDoorW.PrintMore
attribute [local go_sem] max2_int min2_int max_two min_two max_three min_three max_four min_four   -- for this text's walks alone
set_option linter.unusedVariables false
set_option linter.unusedSimpArgs false

/-! ### spec_Diff19: function 7 -/
mutual
def spec_Diff19.j0 : Nat → List (S38) → List (S38) → ByteArray → Bool → Option (ByteArray)
 | 0, _, _, _, _ => none
 | k + 1, x0, x1, x5, x15 => if x15 = true then (some x5) else (spec_Diff19.l0 k x0 x1 x5 0 0)
def spec_Diff19.l0 : Nat → List (S38) → List (S38) → ByteArray → Int → Int → Option (ByteArray)
 | 0, _, _, _, _, _ => none
 | k + 1, x0, x1, x5, x6, x7 => if x6 < (x0.length : Int) then (spec_Diff19.j2 k x0 x1 x5 x6 x7 true) else (spec_Diff19.j2 k x0 x1 x5 x6 x7 (decide (x7 < (x1.length : Int))))
def spec_Diff19.j2 : Nat → List (S38) → List (S38) → ByteArray → Int → Int → Bool → Option (ByteArray)
 | 0, _, _, _, _, _, _ => none
 | k + 1, x0, x1, x5, x6, x7, x26 => if x26 = true then (if x7 = (x1.length : Int) then (spec_Diff19.j3 k x0 x1 x5 x6 x7 true) else (if x6 < (x0.length : Int) then (if 0 ≤ x6 then (if 0 ≤ x7 then (if x7 < (x1.length : Int) then (spec_Diff19.j3 k x0 x1 x5 x6 x7 (Op.bytesLess (((rd_T38 x0 x6).f0).toList) (((rd_T38 x1 x7).f0).toList))) else (none)) else (none)) else (none)) else (spec_Diff19.j3 k x0 x1 x5 x6 x7 false))) else (some x5)
def spec_Diff19.j3 : Nat → List (S38) → List (S38) → ByteArray → Int → Int → Bool → Option (ByteArray)
 | 0, _, _, _, _, _, _ => none
 | k + 1, x0, x1, x5, x6, x7, x58 => if x58 = true then (if x5.size + 6 ≤ 9223372036854775807 then (if 0 ≤ x6 then (if x6 < (x0.length : Int) then (if (x5 ++ (⟨#[117, 110, 115, 101, 116, 32]⟩ : ByteArray)).size + ((rd_T38 x0 x6).f0).size ≤ 9223372036854775807 then (if ((x5 ++ (⟨#[117, 110, 115, 101, 116, 32]⟩ : ByteArray)) ++ ((rd_T38 x0 x6).f0)).size + 1 ≤ 9223372036854775807 then (spec_Diff19.l0 k x0 x1 (((x5 ++ (⟨#[117, 110, 115, 101, 116, 32]⟩ : ByteArray)) ++ ((rd_T38 x0 x6).f0)) ++ (⟨#[10]⟩ : ByteArray)) (wrap64 (x6 + 1)) x7) else (none)) else (none)) else (none)) else (none)) else (none)) else (if x6 = (x0.length : Int) then (spec_Diff19.j4 k x0 x1 x5 x6 x7 true) else (if 0 ≤ x7 then (if x7 < (x1.length : Int) then (if 0 ≤ x6 then (if x6 < (x0.length : Int) then (spec_Diff19.j4 k x0 x1 x5 x6 x7 (Op.bytesLess (((rd_T38 x1 x7).f0).toList) (((rd_T38 x0 x6).f0).toList))) else (none)) else (none)) else (none)) else (none)))
def spec_Diff19.j4 : Nat → List (S38) → List (S38) → ByteArray → Int → Int → Bool → Option (ByteArray)
 | 0, _, _, _, _, _, _ => none
 | k + 1, x0, x1, x5, x6, x7, x93 => if x93 = true then (if x5.size + 4 ≤ 9223372036854775807 then (if 0 ≤ x7 then (if x7 < (x1.length : Int) then (if (x5 ++ (⟨#[115, 101, 116, 32]⟩ : ByteArray)).size + ((rd_T38 x1 x7).f0).size ≤ 9223372036854775807 then (if ((x5 ++ (⟨#[115, 101, 116, 32]⟩ : ByteArray)) ++ ((rd_T38 x1 x7).f0)).size + 1 ≤ 9223372036854775807 then (if (((x5 ++ (⟨#[115, 101, 116, 32]⟩ : ByteArray)) ++ ((rd_T38 x1 x7).f0)) ++ (⟨#[32]⟩ : ByteArray)).size + ((rd_T38 x1 x7).f1).size ≤ 9223372036854775807 then (if ((((x5 ++ (⟨#[115, 101, 116, 32]⟩ : ByteArray)) ++ ((rd_T38 x1 x7).f0)) ++ (⟨#[32]⟩ : ByteArray)) ++ ((rd_T38 x1 x7).f1)).size + 1 ≤ 9223372036854775807 then (spec_Diff19.l0 k x0 x1 (((((x5 ++ (⟨#[115, 101, 116, 32]⟩ : ByteArray)) ++ ((rd_T38 x1 x7).f0)) ++ (⟨#[32]⟩ : ByteArray)) ++ ((rd_T38 x1 x7).f1)) ++ (⟨#[10]⟩ : ByteArray)) x6 (wrap64 (x7 + 1))) else (none)) else (none)) else (none)) else (none)) else (none)) else (none)) else (none)) else (if 0 ≤ x6 then (if x6 < (x0.length : Int) then (if 0 ≤ x7 then (if x7 < (x1.length : Int) then (if ((rd_T38 x0 x6).f1).toList = ((rd_T38 x1 x7).f1).toList then (spec_Diff19.l0 k x0 x1 x5 (wrap64 (x6 + 1)) (wrap64 (x7 + 1))) else (if x5.size + 4 ≤ 9223372036854775807 then (if (x5 ++ (⟨#[115, 101, 116, 32]⟩ : ByteArray)).size + ((rd_T38 x1 x7).f0).size ≤ 9223372036854775807 then (if ((x5 ++ (⟨#[115, 101, 116, 32]⟩ : ByteArray)) ++ ((rd_T38 x1 x7).f0)).size + 1 ≤ 9223372036854775807 then (if (((x5 ++ (⟨#[115, 101, 116, 32]⟩ : ByteArray)) ++ ((rd_T38 x1 x7).f0)) ++ (⟨#[32]⟩ : ByteArray)).size + ((rd_T38 x1 x7).f1).size ≤ 9223372036854775807 then (if ((((x5 ++ (⟨#[115, 101, 116, 32]⟩ : ByteArray)) ++ ((rd_T38 x1 x7).f0)) ++ (⟨#[32]⟩ : ByteArray)) ++ ((rd_T38 x1 x7).f1)).size + 1 ≤ 9223372036854775807 then (spec_Diff19.l0 k x0 x1 (((((x5 ++ (⟨#[115, 101, 116, 32]⟩ : ByteArray)) ++ ((rd_T38 x1 x7).f0)) ++ (⟨#[32]⟩ : ByteArray)) ++ ((rd_T38 x1 x7).f1)) ++ (⟨#[10]⟩ : ByteArray)) (wrap64 (x6 + 1)) (wrap64 (x7 + 1))) else (none)) else (none)) else (none)) else (none)) else (none))) else (none)) else (none)) else (none)) else (none))
end
def spec_Diff19.f (k : Nat) (l0 : List (S38)) (l1 : List (S38)) : Option (ByteArray) := (spec_SettingsOk.f k l0).bind fun t154 => (if t154 = true then ((spec_SettingsOk.f k l1).bind fun t155 => (spec_Diff19.j0 k l0 l1 (⟨#[]⟩ : ByteArray) (!t155))) else (spec_Diff19.j0 k l0 l1 (⟨#[]⟩ : ByteArray) true))
theorem spec_Diff19.mono_l : ∀ k, (∀ y0 y1 y2 y3, LeO (spec_Diff19.j0 k y0 y1 y2 y3) (spec_Diff19.j0 (k + 1) y0 y1 y2 y3)) ∧ (∀ y0 y1 y2 y3 y4, LeO (spec_Diff19.l0 k y0 y1 y2 y3 y4) (spec_Diff19.l0 (k + 1) y0 y1 y2 y3 y4)) ∧ (∀ y0 y1 y2 y3 y4 y5, LeO (spec_Diff19.j2 k y0 y1 y2 y3 y4 y5) (spec_Diff19.j2 (k + 1) y0 y1 y2 y3 y4 y5)) ∧ (∀ y0 y1 y2 y3 y4 y5, LeO (spec_Diff19.j3 k y0 y1 y2 y3 y4 y5) (spec_Diff19.j3 (k + 1) y0 y1 y2 y3 y4 y5)) ∧ (∀ y0 y1 y2 y3 y4 y5, LeO (spec_Diff19.j4 k y0 y1 y2 y3 y4 y5) (spec_Diff19.j4 (k + 1) y0 y1 y2 y3 y4 y5))
 | 0 => ⟨fun _ _ _ _ r h => by simp [spec_Diff19.j0] at h, fun _ _ _ _ _ r h => by simp [spec_Diff19.l0] at h, fun _ _ _ _ _ _ r h => by simp [spec_Diff19.j2] at h, fun _ _ _ _ _ _ r h => by simp [spec_Diff19.j3] at h, fun _ _ _ _ _ _ r h => by simp [spec_Diff19.j4] at h⟩
 | k + 1 => by
  obtain ⟨ih0, ih1, ih2, ih3, ih4⟩ := spec_Diff19.mono_l k
  refine ⟨?_, ?_, ?_, ?_, ?_⟩
  ·intro y0 y1 y2 y3
   unfold spec_Diff19.j0
   repeat' first
   | (with_reducible exact ih0 _ _ _ _)
   | (with_reducible exact ih1 _ _ _ _ _)
   | (with_reducible exact ih2 _ _ _ _ _ _)
   | (with_reducible exact ih3 _ _ _ _ _ _)
   | (with_reducible exact ih4 _ _ _ _ _ _)
   | (with_reducible exact spec_SettingsOk.mono _ _)
   | (with_reducible exact LeO.refl _)
   | (with_reducible exact LeO.none _)
   | (with_reducible refine LeO.ite ?_ ?_)
   | (with_reducible refine LeO.bind ?_ (fun _ => ?_))
   | exact ih0 _ _ _ _
   | exact ih1 _ _ _ _ _
   | exact ih2 _ _ _ _ _ _
   | exact ih3 _ _ _ _ _ _
   | exact ih4 _ _ _ _ _ _
   | exact spec_SettingsOk.mono _ _
   | exact LeO.none _
   | refine LeO.ite ?_ ?_
   | refine LeO.bind ?_ (fun _ => ?_)
  ·intro y0 y1 y2 y3 y4
   unfold spec_Diff19.l0
   repeat' first
   | (with_reducible exact ih0 _ _ _ _)
   | (with_reducible exact ih1 _ _ _ _ _)
   | (with_reducible exact ih2 _ _ _ _ _ _)
   | (with_reducible exact ih3 _ _ _ _ _ _)
   | (with_reducible exact ih4 _ _ _ _ _ _)
   | (with_reducible exact spec_SettingsOk.mono _ _)
   | (with_reducible exact LeO.refl _)
   | (with_reducible exact LeO.none _)
   | (with_reducible refine LeO.ite ?_ ?_)
   | (with_reducible refine LeO.bind ?_ (fun _ => ?_))
   | exact ih0 _ _ _ _
   | exact ih1 _ _ _ _ _
   | exact ih2 _ _ _ _ _ _
   | exact ih3 _ _ _ _ _ _
   | exact ih4 _ _ _ _ _ _
   | exact spec_SettingsOk.mono _ _
   | exact LeO.none _
   | refine LeO.ite ?_ ?_
   | refine LeO.bind ?_ (fun _ => ?_)
  ·intro y0 y1 y2 y3 y4 y5
   unfold spec_Diff19.j2
   repeat' first
   | (with_reducible exact ih0 _ _ _ _)
   | (with_reducible exact ih1 _ _ _ _ _)
   | (with_reducible exact ih2 _ _ _ _ _ _)
   | (with_reducible exact ih3 _ _ _ _ _ _)
   | (with_reducible exact ih4 _ _ _ _ _ _)
   | (with_reducible exact spec_SettingsOk.mono _ _)
   | (with_reducible exact LeO.refl _)
   | (with_reducible exact LeO.none _)
   | (with_reducible refine LeO.ite ?_ ?_)
   | (with_reducible refine LeO.bind ?_ (fun _ => ?_))
   | exact ih0 _ _ _ _
   | exact ih1 _ _ _ _ _
   | exact ih2 _ _ _ _ _ _
   | exact ih3 _ _ _ _ _ _
   | exact ih4 _ _ _ _ _ _
   | exact spec_SettingsOk.mono _ _
   | exact LeO.none _
   | refine LeO.ite ?_ ?_
   | refine LeO.bind ?_ (fun _ => ?_)
  ·intro y0 y1 y2 y3 y4 y5
   unfold spec_Diff19.j3
   repeat' first
   | (with_reducible exact ih0 _ _ _ _)
   | (with_reducible exact ih1 _ _ _ _ _)
   | (with_reducible exact ih2 _ _ _ _ _ _)
   | (with_reducible exact ih3 _ _ _ _ _ _)
   | (with_reducible exact ih4 _ _ _ _ _ _)
   | (with_reducible exact spec_SettingsOk.mono _ _)
   | (with_reducible exact LeO.refl _)
   | (with_reducible exact LeO.none _)
   | (with_reducible refine LeO.ite ?_ ?_)
   | (with_reducible refine LeO.bind ?_ (fun _ => ?_))
   | exact ih0 _ _ _ _
   | exact ih1 _ _ _ _ _
   | exact ih2 _ _ _ _ _ _
   | exact ih3 _ _ _ _ _ _
   | exact ih4 _ _ _ _ _ _
   | exact spec_SettingsOk.mono _ _
   | exact LeO.none _
   | refine LeO.ite ?_ ?_
   | refine LeO.bind ?_ (fun _ => ?_)
  ·intro y0 y1 y2 y3 y4 y5
   unfold spec_Diff19.j4
   repeat' first
   | (with_reducible exact ih0 _ _ _ _)
   | (with_reducible exact ih1 _ _ _ _ _)
   | (with_reducible exact ih2 _ _ _ _ _ _)
   | (with_reducible exact ih3 _ _ _ _ _ _)
   | (with_reducible exact ih4 _ _ _ _ _ _)
   | (with_reducible exact spec_SettingsOk.mono _ _)
   | (with_reducible exact LeO.refl _)
   | (with_reducible exact LeO.none _)
   | (with_reducible refine LeO.ite ?_ ?_)
   | (with_reducible refine LeO.bind ?_ (fun _ => ?_))
   | exact ih0 _ _ _ _
   | exact ih1 _ _ _ _ _
   | exact ih2 _ _ _ _ _ _
   | exact ih3 _ _ _ _ _ _
   | exact ih4 _ _ _ _ _ _
   | exact spec_SettingsOk.mono _ _
   | exact LeO.none _
   | refine LeO.ite ?_ ?_
   | refine LeO.bind ?_ (fun _ => ?_)
theorem spec_Diff19.mono : ∀ a0 a1 k, LeO (spec_Diff19.f k a0 a1) (spec_Diff19.f (k + 1) a0 a1) := by
 intro a0 a1 k
 obtain ⟨ih0, ih1, ih2, ih3, ih4⟩ := spec_Diff19.mono_l k
 unfold spec_Diff19.f
 repeat' first
   | (with_reducible exact ih0 _ _ _ _)
   | (with_reducible exact ih1 _ _ _ _ _)
   | (with_reducible exact ih2 _ _ _ _ _ _)
   | (with_reducible exact ih3 _ _ _ _ _ _)
   | (with_reducible exact ih4 _ _ _ _ _ _)
   | (with_reducible exact spec_SettingsOk.mono _ _)
   | (with_reducible exact LeO.refl _)
   | (with_reducible exact LeO.none _)
   | (with_reducible refine LeO.ite ?_ ?_)
   | (with_reducible refine LeO.bind ?_ (fun _ => ?_))
   | exact ih0 _ _ _ _
   | exact ih1 _ _ _ _ _
   | exact ih2 _ _ _ _ _ _
   | exact ih3 _ _ _ _ _ _
   | exact ih4 _ _ _ _ _ _
   | exact spec_SettingsOk.mono _ _
   | exact LeO.none _
   | refine LeO.ite ?_ ?_
   | refine LeO.bind ?_ (fun _ => ?_)
set_option maxHeartbeats 8000000 in
set_option maxRecDepth 100000 in
theorem spec_Diff19.calls (k : Nat) (A0 : Option Addr) (c0 : Nat) (l0 : List (S38)) (A1 : Option Addr) (c1 : Nat) (l1 : List (S38)) (r : ByteArray) (w : World) (hr0 : Kd.C k38 w A0 l0.length l0) (hc0 : l0.length ≤ c0) (hr1 : Kd.C k38 w A1 l1.length l1) (hc1 : l1.length ≤ c1) (h : spec_Diff19.f k l0 l1 = some r) :
  Calls Tryd.prog 7 #[.slice A0 l0.length c0, .slice A1 l1.length c1] w fun e w' => e = .returned (.string r) ∧ Below w.heap.size w w' := by
 have HR0 := Aside0.mk hr0
 have HC0 := Aside0.mk hc0
 clear hr0 hc0
 have HR1 := Aside0.mk hr1
 have HC1 := Aside0.mk hc1
 clear hr1 hc1
 have HB := Aside0.mk (Below.refl w.heap.size w)
 have H : ((spec_SettingsOk.f k l0).bind fun t154 => (if t154 = true then ((spec_SettingsOk.f k l1).bind fun t155 => (spec_Diff19.j0 k l0 l1 (⟨#[]⟩ : ByteArray) (!t155))) else (spec_Diff19.j0 k l0 l1 (⟨#[]⟩ : ByteArray) true))) = some r := h
 clear h
 have HC3 := Aside0.mk H
 clear H
 go_enter Tryd.func7, Tryd.ntmps7
 go_upto_region 2 with (fail)
 repeat (go_quiet (fail); go_upto_region 2 with (fail))
 go_cut [15] (fun v15 wc => ∃ (kq : Nat) (x15_2 : Bool), v15 = .bool x15_2 ∧ Aside0 (spec_Diff19.j0 kq l0 l1 (⟨#[]⟩ : ByteArray) x15_2 = some r) ∧ Aside0 (kq ≤ k) ∧ Aside0 (Below w.heap.size w wc))
 case first =>
  have H := HC3.out
  clear HC3
  replace H := Option.bind_eq_some_iff.mp H
  obtain ⟨t154, A40, H⟩ := H
  replace H : (if t154 = true then ((spec_SettingsOk.f k l1).bind fun t155 => (spec_Diff19.j0 k l0 l1 (⟨#[]⟩ : ByteArray) (!t155))) else (spec_Diff19.j0 k l0 l1 (⟨#[]⟩ : ByteArray) true)) = some r := H
  have A4 := Aside0.mk A40
  clear A40
  by_cases c5 : t154 = true
  ·subst c5
   have H1 : ((spec_SettingsOk.f k l1).bind fun t155 => (spec_Diff19.j0 k l0 l1 (⟨#[]⟩ : ByteArray) (!t155))) = some r := by rw [if_pos rfl] at H; exact H
   clear H
   have H := H1
   clear H1
   replace H := Option.bind_eq_some_iff.mp H
   obtain ⟨t155, A60, H⟩ := H
   replace H : (spec_Diff19.j0 k l0 l1 (⟨#[]⟩ : ByteArray) (!t155)) = some r := H
   have A6 := Aside0.mk A60
   clear A60
   have H' := Aside0.mk H
   clear H
   go_wp2_with (first | (go_at_call 20; (with_reducible refine (spec_SettingsOk.calls k _ _ l0 true _ ?side1 ?side2 A4.out).mono ?_); (case side1 => repeat (first | exact (Kd.C_below HR0.out HB.out) | (with_reducible refine Kd.C_alloc ?_ _) | (with_reducible refine Kd.C_drewN ?_ _) | (with_reducible refine Kd.C_drew ?_))); (case side2 => exact HC0.out); rintro e w7 ⟨rfl, hb⟩; have n0_ := Aside0.mk (below_step (by repeat (first | (with_reducible first | exact HB.out | apply below_alloc | apply pw_below_drewN | apply below_drew1) | exact HB.out)) hb); clear HB; have HB := n0_; clear n0_; (try clear hb); (try clear hb2); (try clear hk); (try clear hi)) | (go_at_call 20; (with_reducible refine (spec_SettingsOk.calls k _ _ l1 t155 _ ?side1 ?side2 A6.out).mono ?_); (case side1 => repeat (first | exact (Kd.C_below HR1.out HB.out) | (with_reducible refine Kd.C_alloc ?_ _) | (with_reducible refine Kd.C_drewN ?_ _) | (with_reducible refine Kd.C_drew ?_))); (case side2 => exact HC1.out); rintro e w8 ⟨rfl, hb⟩; have n0_ := Aside0.mk (below_step (by repeat (first | (with_reducible first | exact HB.out | apply below_alloc | apply pw_below_drewN | apply below_drew1) | exact HB.out)) hb); clear HB; have HB := n0_; clear n0_; (try clear hb); (try clear hb2); (try clear hk); (try clear hi)))
   repeat (go_quiet (first | (go_at_call 20; (with_reducible refine (spec_SettingsOk.calls k _ _ l0 true _ ?side1 ?side2 A4.out).mono ?_); (case side1 => repeat (first | exact (Kd.C_below HR0.out HB.out) | (with_reducible refine Kd.C_alloc ?_ _) | (with_reducible refine Kd.C_drewN ?_ _) | (with_reducible refine Kd.C_drew ?_))); (case side2 => exact HC0.out); rintro e w7 ⟨rfl, hb⟩; have n0_ := Aside0.mk (below_step (by repeat (first | (with_reducible first | exact HB.out | apply below_alloc | apply pw_below_drewN | apply below_drew1) | exact HB.out)) hb); clear HB; have HB := n0_; clear n0_; (try clear hb); (try clear hb2); (try clear hk); (try clear hi)) | (go_at_call 20; (with_reducible refine (spec_SettingsOk.calls k _ _ l1 t155 _ ?side1 ?side2 A6.out).mono ?_); (case side1 => repeat (first | exact (Kd.C_below HR1.out HB.out) | (with_reducible refine Kd.C_alloc ?_ _) | (with_reducible refine Kd.C_drewN ?_ _) | (with_reducible refine Kd.C_drew ?_))); (case side2 => exact HC1.out); rintro e w8 ⟨rfl, hb⟩; have n0_ := Aside0.mk (below_step (by repeat (first | (with_reducible first | exact HB.out | apply below_alloc | apply pw_below_drewN | apply below_drew1) | exact HB.out)) hb); clear HB; have HB := n0_; clear n0_; (try clear hb); (try clear hb2); (try clear hk); (try clear hi))); try go_wp2_with (first | (go_at_call 20; (with_reducible refine (spec_SettingsOk.calls k _ _ l0 true _ ?side1 ?side2 A4.out).mono ?_); (case side1 => repeat (first | exact (Kd.C_below HR0.out HB.out) | (with_reducible refine Kd.C_alloc ?_ _) | (with_reducible refine Kd.C_drewN ?_ _) | (with_reducible refine Kd.C_drew ?_))); (case side2 => exact HC0.out); rintro e w7 ⟨rfl, hb⟩; have n0_ := Aside0.mk (below_step (by repeat (first | (with_reducible first | exact HB.out | apply below_alloc | apply pw_below_drewN | apply below_drew1) | exact HB.out)) hb); clear HB; have HB := n0_; clear n0_; (try clear hb); (try clear hb2); (try clear hk); (try clear hi)) | (go_at_call 20; (with_reducible refine (spec_SettingsOk.calls k _ _ l1 t155 _ ?side1 ?side2 A6.out).mono ?_); (case side1 => repeat (first | exact (Kd.C_below HR1.out HB.out) | (with_reducible refine Kd.C_alloc ?_ _) | (with_reducible refine Kd.C_drewN ?_ _) | (with_reducible refine Kd.C_drew ?_))); (case side2 => exact HC1.out); rintro e w8 ⟨rfl, hb⟩; have n0_ := Aside0.mk (below_step (by repeat (first | (with_reducible first | exact HB.out | apply below_alloc | apply pw_below_drewN | apply below_drew1) | exact HB.out)) hb); clear HB; have HB := n0_; clear n0_; (try clear hb); (try clear hb2); (try clear hk); (try clear hi))))
   go_meet
   case rel => exact ⟨_, (!t155), (by first | rfl | (simp; done) | (simp [*]; done)), H', ⟨by first | omega | exact Nat.le_refl _⟩, ⟨by repeat (first | (with_reducible first | exact HB.out | apply below_alloc | apply pw_below_drewN | apply below_drew1) | exact HB.out)⟩⟩
  ·replace c5 := Bool.eq_false_iff.mpr c5
   subst c5
   have H1 : (spec_Diff19.j0 k l0 l1 (⟨#[]⟩ : ByteArray) true) = some r := by rw [if_neg (show ¬ (false = true) by decide)] at H; exact H
   clear H
   have H := H1
   clear H1
   have H' := Aside0.mk H
   clear H
   go_wp2_with (first | (go_at_call 20; (with_reducible refine (spec_SettingsOk.calls k _ _ l0 false _ ?side1 ?side2 A4.out).mono ?_); (case side1 => repeat (first | exact (Kd.C_below HR0.out HB.out) | (with_reducible refine Kd.C_alloc ?_ _) | (with_reducible refine Kd.C_drewN ?_ _) | (with_reducible refine Kd.C_drew ?_))); (case side2 => exact HC0.out); rintro e w9 ⟨rfl, hb⟩; have n0_ := Aside0.mk (below_step (by repeat (first | (with_reducible first | exact HB.out | apply below_alloc | apply pw_below_drewN | apply below_drew1) | exact HB.out)) hb); clear HB; have HB := n0_; clear n0_; (try clear hb); (try clear hb2); (try clear hk); (try clear hi)))
   repeat (go_quiet (first | (go_at_call 20; (with_reducible refine (spec_SettingsOk.calls k _ _ l0 false _ ?side1 ?side2 A4.out).mono ?_); (case side1 => repeat (first | exact (Kd.C_below HR0.out HB.out) | (with_reducible refine Kd.C_alloc ?_ _) | (with_reducible refine Kd.C_drewN ?_ _) | (with_reducible refine Kd.C_drew ?_))); (case side2 => exact HC0.out); rintro e w9 ⟨rfl, hb⟩; have n0_ := Aside0.mk (below_step (by repeat (first | (with_reducible first | exact HB.out | apply below_alloc | apply pw_below_drewN | apply below_drew1) | exact HB.out)) hb); clear HB; have HB := n0_; clear n0_; (try clear hb); (try clear hb2); (try clear hk); (try clear hi))); try go_wp2_with (first | (go_at_call 20; (with_reducible refine (spec_SettingsOk.calls k _ _ l0 false _ ?side1 ?side2 A4.out).mono ?_); (case side1 => repeat (first | exact (Kd.C_below HR0.out HB.out) | (with_reducible refine Kd.C_alloc ?_ _) | (with_reducible refine Kd.C_drewN ?_ _) | (with_reducible refine Kd.C_drew ?_))); (case side2 => exact HC0.out); rintro e w9 ⟨rfl, hb⟩; have n0_ := Aside0.mk (below_step (by repeat (first | (with_reducible first | exact HB.out | apply below_alloc | apply pw_below_drewN | apply below_drew1) | exact HB.out)) hb); clear HB; have HB := n0_; clear n0_; (try clear hb); (try clear hb2); (try clear hk); (try clear hi))))
   go_meet
   case rel => exact ⟨_, (true), (by first | rfl | (simp; done) | (simp [*]; done)), H', ⟨by first | omega | exact Nat.le_refl _⟩, ⟨by repeat (first | (with_reducible first | exact HB.out | apply below_alloc | apply pw_below_drewN | apply below_drew1) | exact HB.out)⟩⟩
 case rest =>
  clear HC3
  try clear c1
  try clear p2
  try clear c5
  try clear c7
  obtain ⟨kq, x15_2, rfl, HA, HJ2, HB⟩ := hcut
  cases kq with
  | zero => exact absurd HA.out (by simp [spec_Diff19.j0])
  | succ kj2 =>
   have H := HA.out
   clear HA
   simp only [spec_Diff19.j0] at H
   by_cases c10 : x15_2 = true
   ·subst c10
    have H1 : (some (⟨#[]⟩ : ByteArray)) = some r := by rw [if_pos rfl] at H; exact H
    clear H
    have H := H1
    clear H1
    obtain rfl := Option.some.inj H
    go_wp2
    repeat (go_quiet (fail); try go_wp2)
    go_ret
    exact ⟨by first | rfl | (simp [errW_none, errW_some] <;> rfl) | (simp [*, errW_none, errW_some] <;> rfl), by repeat (first | (with_reducible first | exact HB.out | apply below_alloc | apply pw_below_drewN | apply below_drew1) | exact HB.out)⟩
   ·replace c10 := Bool.eq_false_iff.mpr c10
    subst c10
    have H1 : (spec_Diff19.l0 kj2 l0 l1 (⟨#[]⟩ : ByteArray) 0 0) = some r := by rw [if_neg (show ¬ (false = true) by decide)] at H; exact H
    clear H
    have H := H1
    clear H1
    have H' := Aside0.mk H
    clear H
    go_wp2
    repeat (go_quiet (fail); try go_wp2)
    go_loopg [5, 6, 7] kj2 (fun kq v5 v6 v7 w' => ∃ (x5_2 : ByteArray) (x6_2 : Int) (x7_2 : Int), v5 = .string x5_2 ∧ v6 = .int .i64 x6_2 ∧ v7 = .int .i64 x7_2 ∧ Aside0 (spec_Diff19.l0 kq l0 l1 x5_2 x6_2 x7_2 = some r) ∧ Aside0 (kq ≤ kj2) ∧ Aside0 (Below w.heap.size w w'))
    case atStart => exact ⟨((⟨#[]⟩ : ByteArray)), (0), (0), (by first | rfl | (simp; done) | (simp [*]; done)), (by first | rfl | (simp; done) | (simp [*]; done)), (by first | rfl | (simp; done) | (simp [*]; done)), H', ⟨Nat.le_refl _⟩, ⟨by repeat (first | (with_reducible first | exact HB.out | apply below_alloc | apply pw_below_drewN | apply below_drew1) | exact HB.out)⟩⟩
    case round =>
     clear H'
     try clear c1
     try clear p2
     try clear c5
     try clear c7
     try clear c10
     try clear p2
     obtain ⟨x5_2, x6_2, x7_2, rfl, rfl, rfl, HA, HK2, HB⟩ := hrel
     cases gk with
     | zero => exact absurd HA.out (by simp [spec_Diff19.l0])
     | succ k2 =>
      have H := HA.out
      clear HA
      simp only [spec_Diff19.l0] at H
      have HC11 := Aside0.mk H
      clear H
      go_upto_region 5 with (fail)
      repeat (go_quiet (fail); go_upto_region 5 with (fail))
      go_cut [26] (fun v26 wc => ∃ (kq : Nat) (x26_10 : Bool), v26 = .bool x26_10 ∧ Aside0 (spec_Diff19.j2 kq l0 l1 x5_2 x6_2 x7_2 x26_10 = some r) ∧ Aside0 (kq ≤ k2) ∧ Aside0 (Below w.heap.size w wc))
      case first =>
       have H := HC11.out
       clear HC11
       by_cases c12 : x6_2 < (l0.length : Int)
       ·rw [if_pos c12] at H
        have c12b0 : decide (x6_2 < (l0.length : Int)) = true := decide_eq_true c12
        clear c12
        (first | rw [c12b0] | (simp only [i64_w, i32_w]; rw [c12b0]) | skip)
        have H' := Aside0.mk H
        clear H
        go_wp2
        repeat (go_quiet (fail); try go_wp2)
        go_meet
        case rel => exact ⟨_, (true), (by first | rfl | (simp; done) | (simp [*]; done)), H', ⟨by have := HJ2.out; have := HK2.out; first | omega | exact Nat.le_refl _⟩, ⟨by repeat (first | (with_reducible first | exact HB.out | apply below_alloc | apply pw_below_drewN | apply below_drew1) | exact HB.out)⟩⟩
       ·rw [if_neg c12] at H
        have c12b0 : decide (x6_2 < (l0.length : Int)) = false := decide_eq_false c12
        clear c12
        (first | rw [c12b0] | (simp only [i64_w, i32_w]; rw [c12b0]) | skip)
        have H' := Aside0.mk H
        clear H
        go_wp2
        repeat (go_quiet (fail); try go_wp2)
        go_meet
        case rel => exact ⟨_, (decide (x7_2 < (l1.length : Int))), (by first | rfl | (simp; done) | (simp [*]; done)), H', ⟨by have := HJ2.out; have := HK2.out; first | omega | exact Nat.le_refl _⟩, ⟨by repeat (first | (with_reducible first | exact HB.out | apply below_alloc | apply pw_below_drewN | apply below_drew1) | exact HB.out)⟩⟩
      case rest =>
       clear HC11
       try clear c1
       try clear p2
       try clear c5
       try clear c7
       try clear c10
       try clear c12
       try clear c12b0
       try clear p2
       obtain ⟨kq, x26_10, rfl, HA, HJ10, HB⟩ := hcut
       cases kq with
       | zero => exact absurd HA.out (by simp [spec_Diff19.j2])
       | succ kj10 =>
        have H := HA.out
        clear HA
        simp only [spec_Diff19.j2] at H
        by_cases c13 : x26_10 = true
        ·subst c13
         have H1 : (if x7_2 = (l1.length : Int) then (spec_Diff19.j3 kj10 l0 l1 x5_2 x6_2 x7_2 true) else (if x6_2 < (l0.length : Int) then (if 0 ≤ x6_2 then (if 0 ≤ x7_2 then (if x7_2 < (l1.length : Int) then (spec_Diff19.j3 kj10 l0 l1 x5_2 x6_2 x7_2 (Op.bytesLess (((rd_T38 l0 x6_2).f0).toList) (((rd_T38 l1 x7_2).f0).toList))) else (none)) else (none)) else (none)) else (spec_Diff19.j3 kj10 l0 l1 x5_2 x6_2 x7_2 false))) = some r := by rw [if_pos rfl] at H; exact H
         clear H
         have H := H1
         clear H1
         have HC14 := Aside0.mk H
         clear H
         go_upto_region 10 with (fail)
         repeat (go_quiet (fail); go_upto_region 10 with (fail))
         go_cut [58] (fun v58 wc => ∃ (kq : Nat) (x58_13 : Bool), v58 = .bool x58_13 ∧ Aside0 (spec_Diff19.j3 kq l0 l1 x5_2 x6_2 x7_2 x58_13 = some r) ∧ Aside0 (kq ≤ kj10) ∧ Aside0 (Below w.heap.size w wc))
         case first =>
          have H := HC14.out
          clear HC14
          by_cases c15 : x7_2 = (l1.length : Int)
          ·rw [if_pos c15] at H
           have c15b0 : (x7_2 == (l1.length : Int)) = true := beq_iff_eq.mpr c15
           have c15b1 : (x7_2 != (l1.length : Int)) = false := bne_eq_false_iff_eq.mpr c15
           clear c15
           (first | rw [c15b0] | (simp only [i64_w, i32_w]; rw [c15b0]) | skip)
           have H' := Aside0.mk H
           clear H
           go_wp2
           repeat (go_quiet (fail); try go_wp2)
           go_meet
           case rel => exact ⟨_, (true), (by first | rfl | (simp; done) | (simp [*]; done)), H', ⟨by have := HJ2.out; have := HK2.out; have := HJ10.out; first | omega | exact Nat.le_refl _⟩, ⟨by repeat (first | (with_reducible first | exact HB.out | apply below_alloc | apply pw_below_drewN | apply below_drew1) | exact HB.out)⟩⟩
          ·rw [if_neg c15] at H
           have c15b0 : (x7_2 == (l1.length : Int)) = false := beq_eq_false_iff_ne.mpr c15
           have c15b1 : (x7_2 != (l1.length : Int)) = true := bne_iff_ne.mpr c15
           (first | rw [c15b0] | (simp only [i64_w, i32_w]; rw [c15b0]) | skip)
           by_cases c16 : x6_2 < (l0.length : Int)
           ·rw [if_pos c16] at H
            have c16b0 : decide (x6_2 < (l0.length : Int)) = true := decide_eq_true c16
            clear c16
            by_cases c17 : 0 ≤ x6_2
            ·rw [if_pos c17] at H
             have c17b0 : decide (0 ≤ x6_2) = true := decide_eq_true c17
             clear c17
             by_cases c18 : 0 ≤ x7_2
             ·rw [if_pos c18] at H
              have c18b0 : decide (0 ≤ x7_2) = true := decide_eq_true c18
              clear c18
              by_cases c19 : x7_2 < (l1.length : Int)
              ·rw [if_pos c19] at H
               have c19b0 : decide (x7_2 < (l1.length : Int)) = true := decide_eq_true c19
               clear c19
               have H' := Aside0.mk H
               clear H
               have p156 : 0 ≤ (x6_2 : Int) := of_decide_eq_true (by first | (with_reducible assumption) | assumption)
               have q156 : x6_2 < (l0.length : Int) := of_decide_eq_true (by first | (with_reducible assumption) | assumption)
               obtain ⟨ad156, e156, hx156_0, hx156_1⟩ := at_T38 HR0.out x6_2 p156 q156
               cases e156
               try (replace hx156_0 := (HB.out.cell (World.block_lt_of_cell? w _ hx156_0)).trans hx156_0)
               try (replace hx156_1 := (HB.out.cell (World.block_lt_of_cell? w _ hx156_1)).trans hx156_1)
               replace p156 := eq_true p156
               replace q156 := eq_true q156
               have p157 : 0 ≤ (x7_2 : Int) := of_decide_eq_true (by first | (with_reducible assumption) | assumption)
               have q157 : x7_2 < (l1.length : Int) := of_decide_eq_true (by first | (with_reducible assumption) | assumption)
               obtain ⟨ad157, e157, hx157_0, hx157_1⟩ := at_T38 HR1.out x7_2 p157 q157
               cases e157
               try (replace hx157_0 := (HB.out.cell (World.block_lt_of_cell? w _ hx157_0)).trans hx157_0)
               try (replace hx157_1 := (HB.out.cell (World.block_lt_of_cell? w _ hx157_1)).trans hx157_1)
               replace p157 := eq_true p157
               replace q157 := eq_true q157
               go_wp2
               repeat (go_quiet (fail); try go_wp2)
               go_meet
               case rel => exact ⟨_, ((Op.bytesLess (((rd_T38 l0 x6_2).f0).toList) (((rd_T38 l1 x7_2).f0).toList))), (by first | rfl | (simp; done) | (simp [*]; done)), H', ⟨by have := HJ2.out; have := HK2.out; have := HJ10.out; first | omega | exact Nat.le_refl _⟩, ⟨by repeat (first | (with_reducible first | exact HB.out | apply below_alloc | apply pw_below_drewN | apply below_drew1) | exact HB.out)⟩⟩
              ·rw [if_neg c19] at H
               exact absurd H (by simp)
             ·rw [if_neg c18] at H
              exact absurd H (by simp)
            ·rw [if_neg c17] at H
             exact absurd H (by simp)
           ·rw [if_neg c16] at H
            have c16b0 : decide (x6_2 < (l0.length : Int)) = false := decide_eq_false c16
            clear c16
            have H' := Aside0.mk H
            clear H
            go_wp2
            repeat (go_quiet (fail); try go_wp2)
            go_meet
            case rel => exact ⟨_, (false), (by first | rfl | (simp; done) | (simp [*]; done)), H', ⟨by have := HJ2.out; have := HK2.out; have := HJ10.out; first | omega | exact Nat.le_refl _⟩, ⟨by repeat (first | (with_reducible first | exact HB.out | apply below_alloc | apply pw_below_drewN | apply below_drew1) | exact HB.out)⟩⟩
         case rest =>
          clear HC14
          try clear c1
          try clear p1
          try clear q1
          try clear hx1
          try clear p2
          try clear c5
          try clear c7
          try clear c10
          try clear c12
          try clear c12b0
          try clear c13
          try clear c15
          try clear c15b0
          try clear c15b1
          try clear p15
          try clear q15
          try clear hx15
          try clear c16
          try clear c16b0
          try clear c17
          try clear c17b0
          try clear c18
          try clear c18b0
          try clear c19
          try clear c19b0
          try clear hx156_0
          try clear hx156_1
          try clear hx157_0
          try clear hx157_1
          try clear p156
          try clear p157
          try clear p2
          try clear q156
          try clear q157
          obtain ⟨kq, x58_13, rfl, HA, HJ13, HB⟩ := hcut
          cases kq with
          | zero => exact absurd HA.out (by simp [spec_Diff19.j3])
          | succ kj13 =>
           have H := HA.out
           clear HA
           simp only [spec_Diff19.j3] at H
           by_cases c20 : x58_13 = true
           ·subst c20
            have H1 : (if x5_2.size + 6 ≤ 9223372036854775807 then (if 0 ≤ x6_2 then (if x6_2 < (l0.length : Int) then (if (x5_2 ++ (⟨#[117, 110, 115, 101, 116, 32]⟩ : ByteArray)).size + ((rd_T38 l0 x6_2).f0).size ≤ 9223372036854775807 then (if ((x5_2 ++ (⟨#[117, 110, 115, 101, 116, 32]⟩ : ByteArray)) ++ ((rd_T38 l0 x6_2).f0)).size + 1 ≤ 9223372036854775807 then (spec_Diff19.l0 kj13 l0 l1 (((x5_2 ++ (⟨#[117, 110, 115, 101, 116, 32]⟩ : ByteArray)) ++ ((rd_T38 l0 x6_2).f0)) ++ (⟨#[10]⟩ : ByteArray)) (wrap64 (x6_2 + 1)) x7_2) else (none)) else (none)) else (none)) else (none)) else (none)) = some r := by rw [if_pos rfl] at H; exact H
            clear H
            have H := H1
            clear H1
            by_cases c21 : x5_2.size + 6 ≤ 9223372036854775807
            ·rw [if_pos c21] at H
             have c21b0 := eq_true c21
             have c21b1 : decide (x5_2.size + 6 ≤ 9223372036854775807) = true := decide_eq_true c21
             try have c21b2 : (9223372036854775807 < x5_2.size + 6) = False := eq_false (Nat.not_lt.2 c21)
             by_cases c22 : 0 ≤ x6_2
             ·rw [if_pos c22] at H
              have c22b0 : decide (0 ≤ x6_2) = true := decide_eq_true c22
              clear c22
              by_cases c23 : x6_2 < (l0.length : Int)
              ·rw [if_pos c23] at H
               have c23b0 : decide (x6_2 < (l0.length : Int)) = true := decide_eq_true c23
               clear c23
               by_cases c24 : (x5_2 ++ (⟨#[117, 110, 115, 101, 116, 32]⟩ : ByteArray)).size + ((rd_T38 l0 x6_2).f0).size ≤ 9223372036854775807
               ·rw [if_pos c24] at H
                have c24b0 := eq_true c24
                have c24b1 : decide ((x5_2 ++ (⟨#[117, 110, 115, 101, 116, 32]⟩ : ByteArray)).size + ((rd_T38 l0 x6_2).f0).size ≤ 9223372036854775807) = true := decide_eq_true c24
                have c24q : (9223372036854775807 < x5_2.size + 6 + ((rd_T38 l0 x6_2).f0).size) = False := eq_false (Nat.not_lt.mpr (by have h_ := of_decide_eq_true c24b1; (repeat rw [ByteArray.size_append] at h_); exact h_))
                try have c24b2 : (9223372036854775807 < (x5_2 ++ (⟨#[117, 110, 115, 101, 116, 32]⟩ : ByteArray)).size + ((rd_T38 l0 x6_2).f0).size) = False := eq_false (Nat.not_lt.2 c24)
                by_cases c25 : ((x5_2 ++ (⟨#[117, 110, 115, 101, 116, 32]⟩ : ByteArray)) ++ ((rd_T38 l0 x6_2).f0)).size + 1 ≤ 9223372036854775807
                ·rw [if_pos c25] at H
                 have c25b0 := eq_true c25
                 have c25b1 : decide (((x5_2 ++ (⟨#[117, 110, 115, 101, 116, 32]⟩ : ByteArray)) ++ ((rd_T38 l0 x6_2).f0)).size + 1 ≤ 9223372036854775807) = true := decide_eq_true c25
                 have c25q : (9223372036854775807 < x5_2.size + 6 + ((rd_T38 l0 x6_2).f0).size + 1) = False := eq_false (Nat.not_lt.mpr (by have h_ := of_decide_eq_true c25b1; (repeat rw [ByteArray.size_append] at h_); exact h_))
                 try have c25b2 : (9223372036854775807 < ((x5_2 ++ (⟨#[117, 110, 115, 101, 116, 32]⟩ : ByteArray)) ++ ((rd_T38 l0 x6_2).f0)).size + 1) = False := eq_false (Nat.not_lt.2 c25)
                 have H' := Aside0.mk H
                 clear H
                 have p158 : 0 ≤ (x6_2 : Int) := of_decide_eq_true (by first | (with_reducible assumption) | assumption)
                 have q158 : x6_2 < (l0.length : Int) := of_decide_eq_true (by first | (with_reducible assumption) | assumption)
                 obtain ⟨ad158, e158, hx158_0, hx158_1⟩ := at_T38 HR0.out x6_2 p158 q158
                 cases e158
                 try (replace hx158_0 := (HB.out.cell (World.block_lt_of_cell? w _ hx158_0)).trans hx158_0)
                 try (replace hx158_1 := (HB.out.cell (World.block_lt_of_cell? w _ hx158_1)).trans hx158_1)
                 replace p158 := eq_true p158
                 replace q158 := eq_true q158
                 go_wp2
                 repeat (go_quiet (fail); try go_wp2)
                 go_roundg kj13
                 case measure => have := HJ2.out; have := HK2.out; have := HJ10.out; have := HJ13.out; omega
                 case rel => exact ⟨(((x5_2 ++ (⟨#[117, 110, 115, 101, 116, 32]⟩ : ByteArray)) ++ ((rd_T38 l0 x6_2).f0)) ++ (⟨#[10]⟩ : ByteArray)), (wrap64 (x6_2 + 1)), (x7_2), (by first | rfl | (simp; done) | (simp [*]; done)), (by first | rfl | (simp; done) | (simp [*]; done)), (by first | rfl | (simp; done) | (simp [*]; done)), H', ⟨by have := HJ2.out; have := HK2.out; have := HJ10.out; have := HJ13.out; omega⟩, ⟨by repeat (first | (with_reducible first | exact HB.out | apply below_alloc | apply pw_below_drewN | apply below_drew1) | exact HB.out)⟩⟩
                ·rw [if_neg c25] at H
                 exact absurd H (by simp)
               ·rw [if_neg c24] at H
                exact absurd H (by simp)
              ·rw [if_neg c23] at H
               exact absurd H (by simp)
             ·rw [if_neg c22] at H
              exact absurd H (by simp)
            ·rw [if_neg c21] at H
             exact absurd H (by simp)
           ·replace c20 := Bool.eq_false_iff.mpr c20
            subst c20
            have H1 : (if x6_2 = (l0.length : Int) then (spec_Diff19.j4 kj13 l0 l1 x5_2 x6_2 x7_2 true) else (if 0 ≤ x7_2 then (if x7_2 < (l1.length : Int) then (if 0 ≤ x6_2 then (if x6_2 < (l0.length : Int) then (spec_Diff19.j4 kj13 l0 l1 x5_2 x6_2 x7_2 (Op.bytesLess (((rd_T38 l1 x7_2).f0).toList) (((rd_T38 l0 x6_2).f0).toList))) else (none)) else (none)) else (none)) else (none))) = some r := by rw [if_neg (show ¬ (false = true) by decide)] at H; exact H
            clear H
            have H := H1
            clear H1
            have HC26 := Aside0.mk H
            clear H
            go_upto_region 13 with (fail)
            repeat (go_quiet (fail); go_upto_region 13 with (fail))
            go_cut [93] (fun v93 wc => ∃ (kq : Nat) (x93_25 : Bool), v93 = .bool x93_25 ∧ Aside0 (spec_Diff19.j4 kq l0 l1 x5_2 x6_2 x7_2 x93_25 = some r) ∧ Aside0 (kq ≤ kj13) ∧ Aside0 (Below w.heap.size w wc))
            case first =>
             have H := HC26.out
             clear HC26
             by_cases c27 : x6_2 = (l0.length : Int)
             ·rw [if_pos c27] at H
              have c27b0 : (x6_2 == (l0.length : Int)) = true := beq_iff_eq.mpr c27
              have c27b1 : (x6_2 != (l0.length : Int)) = false := bne_eq_false_iff_eq.mpr c27
              clear c27
              (first | rw [c27b0] | (simp only [i64_w, i32_w]; rw [c27b0]) | skip)
              have H' := Aside0.mk H
              clear H
              go_wp2
              repeat (go_quiet (fail); try go_wp2)
              go_meet
              case rel => exact ⟨_, (true), (by first | rfl | (simp; done) | (simp [*]; done)), H', ⟨by have := HJ2.out; have := HK2.out; have := HJ10.out; have := HJ13.out; first | omega | exact Nat.le_refl _⟩, ⟨by repeat (first | (with_reducible first | exact HB.out | apply below_alloc | apply pw_below_drewN | apply below_drew1) | exact HB.out)⟩⟩
             ·rw [if_neg c27] at H
              have c27b0 : (x6_2 == (l0.length : Int)) = false := beq_eq_false_iff_ne.mpr c27
              have c27b1 : (x6_2 != (l0.length : Int)) = true := bne_iff_ne.mpr c27
              (first | rw [c27b0] | (simp only [i64_w, i32_w]; rw [c27b0]) | skip)
              by_cases c28 : 0 ≤ x7_2
              ·rw [if_pos c28] at H
               have c28b0 : decide (0 ≤ x7_2) = true := decide_eq_true c28
               clear c28
               by_cases c29 : x7_2 < (l1.length : Int)
               ·rw [if_pos c29] at H
                have c29b0 : decide (x7_2 < (l1.length : Int)) = true := decide_eq_true c29
                clear c29
                by_cases c30 : 0 ≤ x6_2
                ·rw [if_pos c30] at H
                 have c30b0 : decide (0 ≤ x6_2) = true := decide_eq_true c30
                 clear c30
                 by_cases c31 : x6_2 < (l0.length : Int)
                 ·rw [if_pos c31] at H
                  have c31b0 : decide (x6_2 < (l0.length : Int)) = true := decide_eq_true c31
                  clear c31
                  have H' := Aside0.mk H
                  clear H
                  have p159 : 0 ≤ (x7_2 : Int) := of_decide_eq_true (by first | (with_reducible assumption) | assumption)
                  have q159 : x7_2 < (l1.length : Int) := of_decide_eq_true (by first | (with_reducible assumption) | assumption)
                  obtain ⟨ad159, e159, hx159_0, hx159_1⟩ := at_T38 HR1.out x7_2 p159 q159
                  cases e159
                  try (replace hx159_0 := (HB.out.cell (World.block_lt_of_cell? w _ hx159_0)).trans hx159_0)
                  try (replace hx159_1 := (HB.out.cell (World.block_lt_of_cell? w _ hx159_1)).trans hx159_1)
                  replace p159 := eq_true p159
                  replace q159 := eq_true q159
                  have p160 : 0 ≤ (x6_2 : Int) := of_decide_eq_true (by first | (with_reducible assumption) | assumption)
                  have q160 : x6_2 < (l0.length : Int) := of_decide_eq_true (by first | (with_reducible assumption) | assumption)
                  obtain ⟨ad160, e160, hx160_0, hx160_1⟩ := at_T38 HR0.out x6_2 p160 q160
                  cases e160
                  try (replace hx160_0 := (HB.out.cell (World.block_lt_of_cell? w _ hx160_0)).trans hx160_0)
                  try (replace hx160_1 := (HB.out.cell (World.block_lt_of_cell? w _ hx160_1)).trans hx160_1)
                  replace p160 := eq_true p160
                  replace q160 := eq_true q160
                  go_wp2
                  repeat (go_quiet (fail); try go_wp2)
                  go_meet
                  case rel => exact ⟨_, ((Op.bytesLess (((rd_T38 l1 x7_2).f0).toList) (((rd_T38 l0 x6_2).f0).toList))), (by first | rfl | (simp; done) | (simp [*]; done)), H', ⟨by have := HJ2.out; have := HK2.out; have := HJ10.out; have := HJ13.out; first | omega | exact Nat.le_refl _⟩, ⟨by repeat (first | (with_reducible first | exact HB.out | apply below_alloc | apply pw_below_drewN | apply below_drew1) | exact HB.out)⟩⟩
                 ·rw [if_neg c31] at H
                  exact absurd H (by simp)
                ·rw [if_neg c30] at H
                 exact absurd H (by simp)
               ·rw [if_neg c29] at H
                exact absurd H (by simp)
              ·rw [if_neg c28] at H
               exact absurd H (by simp)
            case rest =>
             clear HC26
             try clear c1
             try clear p1
             try clear q1
             try clear hx1
             try clear c2
             try clear p2
             try clear c3
             try clear c5
             try clear p6
             try clear c7
             try clear c10
             try clear c12
             try clear c12b0
             try clear c13
             try clear c15
             try clear c15b0
             try clear c15b1
             try clear p15
             try clear q15
             try clear hx15
             try clear c16
             try clear c16b0
             try clear p16
             try clear q16
             try clear hx16
             try clear c17
             try clear c17b0
             try clear c18
             try clear c18b0
             try clear c19
             try clear c19b0
             try clear c20
             try clear c21
             try clear c21b0
             try clear c21b1
             try clear c21b2
             try clear c22
             try clear c22b0
             try clear c23
             try clear c23b0
             try clear c24
             try clear c24b0
             try clear c24b1
             try clear c24b2
             try clear c25
             try clear c25b0
             try clear c25b1
             try clear c25b2
             try clear c27
             try clear c27b0
             try clear c27b1
             try clear c28
             try clear c28b0
             try clear c29
             try clear c29b0
             try clear c30
             try clear c30b0
             try clear c31
             try clear c31b0
             try clear hx156_0
             try clear hx156_1
             try clear hx157_0
             try clear hx157_1
             try clear hx158_0
             try clear hx158_1
             try clear hx159_0
             try clear hx159_1
             try clear hx160_0
             try clear hx160_1
             try clear p1
             try clear p15
             try clear p156
             try clear p157
             try clear p158
             try clear p159
             try clear p160
             try clear p2
             try clear q1
             try clear q15
             try clear q156
             try clear q157
             try clear q158
             try clear q159
             try clear q160
             obtain ⟨kq, x93_25, rfl, HA, HJ25, HB⟩ := hcut
             cases kq with
             | zero => exact absurd HA.out (by simp [spec_Diff19.j4])
             | succ kj25 =>
              have H := HA.out
              clear HA
              simp only [spec_Diff19.j4] at H
              by_cases c32 : x93_25 = true
              ·subst c32
               have H1 : (if x5_2.size + 4 ≤ 9223372036854775807 then (if 0 ≤ x7_2 then (if x7_2 < (l1.length : Int) then (if (x5_2 ++ (⟨#[115, 101, 116, 32]⟩ : ByteArray)).size + ((rd_T38 l1 x7_2).f0).size ≤ 9223372036854775807 then (if ((x5_2 ++ (⟨#[115, 101, 116, 32]⟩ : ByteArray)) ++ ((rd_T38 l1 x7_2).f0)).size + 1 ≤ 9223372036854775807 then (if (((x5_2 ++ (⟨#[115, 101, 116, 32]⟩ : ByteArray)) ++ ((rd_T38 l1 x7_2).f0)) ++ (⟨#[32]⟩ : ByteArray)).size + ((rd_T38 l1 x7_2).f1).size ≤ 9223372036854775807 then (if ((((x5_2 ++ (⟨#[115, 101, 116, 32]⟩ : ByteArray)) ++ ((rd_T38 l1 x7_2).f0)) ++ (⟨#[32]⟩ : ByteArray)) ++ ((rd_T38 l1 x7_2).f1)).size + 1 ≤ 9223372036854775807 then (spec_Diff19.l0 kj25 l0 l1 (((((x5_2 ++ (⟨#[115, 101, 116, 32]⟩ : ByteArray)) ++ ((rd_T38 l1 x7_2).f0)) ++ (⟨#[32]⟩ : ByteArray)) ++ ((rd_T38 l1 x7_2).f1)) ++ (⟨#[10]⟩ : ByteArray)) x6_2 (wrap64 (x7_2 + 1))) else (none)) else (none)) else (none)) else (none)) else (none)) else (none)) else (none)) = some r := by rw [if_pos rfl] at H; exact H
               clear H
               have H := H1
               clear H1
               by_cases c33 : x5_2.size + 4 ≤ 9223372036854775807
               ·rw [if_pos c33] at H
                have c33b0 := eq_true c33
                have c33b1 : decide (x5_2.size + 4 ≤ 9223372036854775807) = true := decide_eq_true c33
                try have c33b2 : (9223372036854775807 < x5_2.size + 4) = False := eq_false (Nat.not_lt.2 c33)
                by_cases c34 : 0 ≤ x7_2
                ·rw [if_pos c34] at H
                 have c34b0 : decide (0 ≤ x7_2) = true := decide_eq_true c34
                 clear c34
                 by_cases c35 : x7_2 < (l1.length : Int)
                 ·rw [if_pos c35] at H
                  have c35b0 : decide (x7_2 < (l1.length : Int)) = true := decide_eq_true c35
                  clear c35
                  by_cases c36 : (x5_2 ++ (⟨#[115, 101, 116, 32]⟩ : ByteArray)).size + ((rd_T38 l1 x7_2).f0).size ≤ 9223372036854775807
                  ·rw [if_pos c36] at H
                   have c36b0 := eq_true c36
                   have c36b1 : decide ((x5_2 ++ (⟨#[115, 101, 116, 32]⟩ : ByteArray)).size + ((rd_T38 l1 x7_2).f0).size ≤ 9223372036854775807) = true := decide_eq_true c36
                   have c36q : (9223372036854775807 < x5_2.size + 4 + ((rd_T38 l1 x7_2).f0).size) = False := eq_false (Nat.not_lt.mpr (by have h_ := of_decide_eq_true c36b1; (repeat rw [ByteArray.size_append] at h_); exact h_))
                   try have c36b2 : (9223372036854775807 < (x5_2 ++ (⟨#[115, 101, 116, 32]⟩ : ByteArray)).size + ((rd_T38 l1 x7_2).f0).size) = False := eq_false (Nat.not_lt.2 c36)
                   by_cases c37 : ((x5_2 ++ (⟨#[115, 101, 116, 32]⟩ : ByteArray)) ++ ((rd_T38 l1 x7_2).f0)).size + 1 ≤ 9223372036854775807
                   ·rw [if_pos c37] at H
                    have c37b0 := eq_true c37
                    have c37b1 : decide (((x5_2 ++ (⟨#[115, 101, 116, 32]⟩ : ByteArray)) ++ ((rd_T38 l1 x7_2).f0)).size + 1 ≤ 9223372036854775807) = true := decide_eq_true c37
                    have c37q : (9223372036854775807 < x5_2.size + 4 + ((rd_T38 l1 x7_2).f0).size + 1) = False := eq_false (Nat.not_lt.mpr (by have h_ := of_decide_eq_true c37b1; (repeat rw [ByteArray.size_append] at h_); exact h_))
                    try have c37b2 : (9223372036854775807 < ((x5_2 ++ (⟨#[115, 101, 116, 32]⟩ : ByteArray)) ++ ((rd_T38 l1 x7_2).f0)).size + 1) = False := eq_false (Nat.not_lt.2 c37)
                    by_cases c38 : (((x5_2 ++ (⟨#[115, 101, 116, 32]⟩ : ByteArray)) ++ ((rd_T38 l1 x7_2).f0)) ++ (⟨#[32]⟩ : ByteArray)).size + ((rd_T38 l1 x7_2).f1).size ≤ 9223372036854775807
                    ·rw [if_pos c38] at H
                     have c38b0 := eq_true c38
                     have c38b1 : decide ((((x5_2 ++ (⟨#[115, 101, 116, 32]⟩ : ByteArray)) ++ ((rd_T38 l1 x7_2).f0)) ++ (⟨#[32]⟩ : ByteArray)).size + ((rd_T38 l1 x7_2).f1).size ≤ 9223372036854775807) = true := decide_eq_true c38
                     have c38q : (9223372036854775807 < x5_2.size + 4 + ((rd_T38 l1 x7_2).f0).size + 1 + ((rd_T38 l1 x7_2).f1).size) = False := eq_false (Nat.not_lt.mpr (by have h_ := of_decide_eq_true c38b1; (repeat rw [ByteArray.size_append] at h_); exact h_))
                     try have c38b2 : (9223372036854775807 < (((x5_2 ++ (⟨#[115, 101, 116, 32]⟩ : ByteArray)) ++ ((rd_T38 l1 x7_2).f0)) ++ (⟨#[32]⟩ : ByteArray)).size + ((rd_T38 l1 x7_2).f1).size) = False := eq_false (Nat.not_lt.2 c38)
                     by_cases c39 : ((((x5_2 ++ (⟨#[115, 101, 116, 32]⟩ : ByteArray)) ++ ((rd_T38 l1 x7_2).f0)) ++ (⟨#[32]⟩ : ByteArray)) ++ ((rd_T38 l1 x7_2).f1)).size + 1 ≤ 9223372036854775807
                     ·rw [if_pos c39] at H
                      have c39b0 := eq_true c39
                      have c39b1 : decide (((((x5_2 ++ (⟨#[115, 101, 116, 32]⟩ : ByteArray)) ++ ((rd_T38 l1 x7_2).f0)) ++ (⟨#[32]⟩ : ByteArray)) ++ ((rd_T38 l1 x7_2).f1)).size + 1 ≤ 9223372036854775807) = true := decide_eq_true c39
                      have c39q : (9223372036854775807 < x5_2.size + 4 + ((rd_T38 l1 x7_2).f0).size + 1 + ((rd_T38 l1 x7_2).f1).size + 1) = False := eq_false (Nat.not_lt.mpr (by have h_ := of_decide_eq_true c39b1; (repeat rw [ByteArray.size_append] at h_); exact h_))
                      try have c39b2 : (9223372036854775807 < ((((x5_2 ++ (⟨#[115, 101, 116, 32]⟩ : ByteArray)) ++ ((rd_T38 l1 x7_2).f0)) ++ (⟨#[32]⟩ : ByteArray)) ++ ((rd_T38 l1 x7_2).f1)).size + 1) = False := eq_false (Nat.not_lt.2 c39)
                      have H' := Aside0.mk H
                      clear H
                      have p161 : 0 ≤ (x7_2 : Int) := of_decide_eq_true (by first | (with_reducible assumption) | assumption)
                      have q161 : x7_2 < (l1.length : Int) := of_decide_eq_true (by first | (with_reducible assumption) | assumption)
                      obtain ⟨ad161, e161, hx161_0, hx161_1⟩ := at_T38 HR1.out x7_2 p161 q161
                      cases e161
                      try (replace hx161_0 := (HB.out.cell (World.block_lt_of_cell? w _ hx161_0)).trans hx161_0)
                      try (replace hx161_1 := (HB.out.cell (World.block_lt_of_cell? w _ hx161_1)).trans hx161_1)
                      replace p161 := eq_true p161
                      replace q161 := eq_true q161
                      have p162 : 0 ≤ (x7_2 : Int) := of_decide_eq_true (by first | (with_reducible assumption) | assumption)
                      have q162 : x7_2 < (l1.length : Int) := of_decide_eq_true (by first | (with_reducible assumption) | assumption)
                      obtain ⟨ad162, e162, hx162_0, hx162_1⟩ := at_T38 HR1.out x7_2 p162 q162
                      obtain rfl : ad161 = ad162 := (by injection e162)
                      try (replace hx162_0 := (HB.out.cell (World.block_lt_of_cell? w _ hx162_0)).trans hx162_0)
                      try (replace hx162_1 := (HB.out.cell (World.block_lt_of_cell? w _ hx162_1)).trans hx162_1)
                      replace p162 := eq_true p162
                      replace q162 := eq_true q162
                      go_wp2
                      repeat (go_quiet (fail); try go_wp2)
                      go_roundg kj25
                      case measure => have := HJ2.out; have := HK2.out; have := HJ10.out; have := HJ13.out; have := HJ25.out; omega
                      case rel => exact ⟨(((((x5_2 ++ (⟨#[115, 101, 116, 32]⟩ : ByteArray)) ++ ((rd_T38 l1 x7_2).f0)) ++ (⟨#[32]⟩ : ByteArray)) ++ ((rd_T38 l1 x7_2).f1)) ++ (⟨#[10]⟩ : ByteArray)), (x6_2), (wrap64 (x7_2 + 1)), (by first | rfl | (simp; done) | (simp [*]; done)), (by first | rfl | (simp; done) | (simp [*]; done)), (by first | rfl | (simp; done) | (simp [*]; done)), H', ⟨by have := HJ2.out; have := HK2.out; have := HJ10.out; have := HJ13.out; have := HJ25.out; omega⟩, ⟨by repeat (first | (with_reducible first | exact HB.out | apply below_alloc | apply pw_below_drewN | apply below_drew1) | exact HB.out)⟩⟩
                     ·rw [if_neg c39] at H
                      exact absurd H (by simp)
                    ·rw [if_neg c38] at H
                     exact absurd H (by simp)
                   ·rw [if_neg c37] at H
                    exact absurd H (by simp)
                  ·rw [if_neg c36] at H
                   exact absurd H (by simp)
                 ·rw [if_neg c35] at H
                  exact absurd H (by simp)
                ·rw [if_neg c34] at H
                 exact absurd H (by simp)
               ·rw [if_neg c33] at H
                exact absurd H (by simp)
              ·replace c32 := Bool.eq_false_iff.mpr c32
               subst c32
               have H1 : (if 0 ≤ x6_2 then (if x6_2 < (l0.length : Int) then (if 0 ≤ x7_2 then (if x7_2 < (l1.length : Int) then (if ((rd_T38 l0 x6_2).f1).toList = ((rd_T38 l1 x7_2).f1).toList then (spec_Diff19.l0 kj25 l0 l1 x5_2 (wrap64 (x6_2 + 1)) (wrap64 (x7_2 + 1))) else (if x5_2.size + 4 ≤ 9223372036854775807 then (if (x5_2 ++ (⟨#[115, 101, 116, 32]⟩ : ByteArray)).size + ((rd_T38 l1 x7_2).f0).size ≤ 9223372036854775807 then (if ((x5_2 ++ (⟨#[115, 101, 116, 32]⟩ : ByteArray)) ++ ((rd_T38 l1 x7_2).f0)).size + 1 ≤ 9223372036854775807 then (if (((x5_2 ++ (⟨#[115, 101, 116, 32]⟩ : ByteArray)) ++ ((rd_T38 l1 x7_2).f0)) ++ (⟨#[32]⟩ : ByteArray)).size + ((rd_T38 l1 x7_2).f1).size ≤ 9223372036854775807 then (if ((((x5_2 ++ (⟨#[115, 101, 116, 32]⟩ : ByteArray)) ++ ((rd_T38 l1 x7_2).f0)) ++ (⟨#[32]⟩ : ByteArray)) ++ ((rd_T38 l1 x7_2).f1)).size + 1 ≤ 9223372036854775807 then (spec_Diff19.l0 kj25 l0 l1 (((((x5_2 ++ (⟨#[115, 101, 116, 32]⟩ : ByteArray)) ++ ((rd_T38 l1 x7_2).f0)) ++ (⟨#[32]⟩ : ByteArray)) ++ ((rd_T38 l1 x7_2).f1)) ++ (⟨#[10]⟩ : ByteArray)) (wrap64 (x6_2 + 1)) (wrap64 (x7_2 + 1))) else (none)) else (none)) else (none)) else (none)) else (none))) else (none)) else (none)) else (none)) else (none)) = some r := by rw [if_neg (show ¬ (false = true) by decide)] at H; exact H
               clear H
               have H := H1
               clear H1
               by_cases c40 : 0 ≤ x6_2
               ·rw [if_pos c40] at H
                have c40b0 : decide (0 ≤ x6_2) = true := decide_eq_true c40
                clear c40
                by_cases c41 : x6_2 < (l0.length : Int)
                ·rw [if_pos c41] at H
                 have c41b0 : decide (x6_2 < (l0.length : Int)) = true := decide_eq_true c41
                 clear c41
                 by_cases c42 : 0 ≤ x7_2
                 ·rw [if_pos c42] at H
                  have c42b0 : decide (0 ≤ x7_2) = true := decide_eq_true c42
                  clear c42
                  by_cases c43 : x7_2 < (l1.length : Int)
                  ·rw [if_pos c43] at H
                   have c43b0 : decide (x7_2 < (l1.length : Int)) = true := decide_eq_true c43
                   clear c43
                   by_cases c44 : ((rd_T38 l0 x6_2).f1).toList = ((rd_T38 l1 x7_2).f1).toList
                   ·rw [if_pos c44] at H
                    have c44b0 : (((rd_T38 l0 x6_2).f1).toList == ((rd_T38 l1 x7_2).f1).toList) = true := beq_iff_eq.mpr c44
                    have c44b1 : (((rd_T38 l0 x6_2).f1).toList != ((rd_T38 l1 x7_2).f1).toList) = false := bne_eq_false_iff_eq.mpr c44
                    clear c44
                    have H' := Aside0.mk H
                    clear H
                    have p163 : 0 ≤ (x6_2 : Int) := of_decide_eq_true (by first | (with_reducible assumption) | assumption)
                    have q163 : x6_2 < (l0.length : Int) := of_decide_eq_true (by first | (with_reducible assumption) | assumption)
                    obtain ⟨ad163, e163, hx163_0, hx163_1⟩ := at_T38 HR0.out x6_2 p163 q163
                    cases e163
                    try (replace hx163_0 := (HB.out.cell (World.block_lt_of_cell? w _ hx163_0)).trans hx163_0)
                    try (replace hx163_1 := (HB.out.cell (World.block_lt_of_cell? w _ hx163_1)).trans hx163_1)
                    replace p163 := eq_true p163
                    replace q163 := eq_true q163
                    have p164 : 0 ≤ (x7_2 : Int) := of_decide_eq_true (by first | (with_reducible assumption) | assumption)
                    have q164 : x7_2 < (l1.length : Int) := of_decide_eq_true (by first | (with_reducible assumption) | assumption)
                    obtain ⟨ad164, e164, hx164_0, hx164_1⟩ := at_T38 HR1.out x7_2 p164 q164
                    cases e164
                    try (replace hx164_0 := (HB.out.cell (World.block_lt_of_cell? w _ hx164_0)).trans hx164_0)
                    try (replace hx164_1 := (HB.out.cell (World.block_lt_of_cell? w _ hx164_1)).trans hx164_1)
                    replace p164 := eq_true p164
                    replace q164 := eq_true q164
                    go_wp2
                    repeat (go_quiet (fail); try go_wp2)
                    go_roundg kj25
                    case measure => have := HJ2.out; have := HK2.out; have := HJ10.out; have := HJ13.out; have := HJ25.out; omega
                    case rel => exact ⟨(x5_2), (wrap64 (x6_2 + 1)), (wrap64 (x7_2 + 1)), (by first | rfl | (simp; done) | (simp [*]; done)), (by first | rfl | (simp; done) | (simp [*]; done)), (by first | rfl | (simp; done) | (simp [*]; done)), H', ⟨by have := HJ2.out; have := HK2.out; have := HJ10.out; have := HJ13.out; have := HJ25.out; omega⟩, ⟨by repeat (first | (with_reducible first | exact HB.out | apply below_alloc | apply pw_below_drewN | apply below_drew1) | exact HB.out)⟩⟩
                   ·rw [if_neg c44] at H
                    have c44b0 : (((rd_T38 l0 x6_2).f1).toList == ((rd_T38 l1 x7_2).f1).toList) = false := beq_eq_false_iff_ne.mpr c44
                    have c44b1 : (((rd_T38 l0 x6_2).f1).toList != ((rd_T38 l1 x7_2).f1).toList) = true := bne_iff_ne.mpr c44
                    by_cases c45 : x5_2.size + 4 ≤ 9223372036854775807
                    ·rw [if_pos c45] at H
                     have c45b0 := eq_true c45
                     have c45b1 : decide (x5_2.size + 4 ≤ 9223372036854775807) = true := decide_eq_true c45
                     try have c45b2 : (9223372036854775807 < x5_2.size + 4) = False := eq_false (Nat.not_lt.2 c45)
                     by_cases c46 : (x5_2 ++ (⟨#[115, 101, 116, 32]⟩ : ByteArray)).size + ((rd_T38 l1 x7_2).f0).size ≤ 9223372036854775807
                     ·rw [if_pos c46] at H
                      have c46b0 := eq_true c46
                      have c46b1 : decide ((x5_2 ++ (⟨#[115, 101, 116, 32]⟩ : ByteArray)).size + ((rd_T38 l1 x7_2).f0).size ≤ 9223372036854775807) = true := decide_eq_true c46
                      have c46q : (9223372036854775807 < x5_2.size + 4 + ((rd_T38 l1 x7_2).f0).size) = False := eq_false (Nat.not_lt.mpr (by have h_ := of_decide_eq_true c46b1; (repeat rw [ByteArray.size_append] at h_); exact h_))
                      try have c46b2 : (9223372036854775807 < (x5_2 ++ (⟨#[115, 101, 116, 32]⟩ : ByteArray)).size + ((rd_T38 l1 x7_2).f0).size) = False := eq_false (Nat.not_lt.2 c46)
                      by_cases c47 : ((x5_2 ++ (⟨#[115, 101, 116, 32]⟩ : ByteArray)) ++ ((rd_T38 l1 x7_2).f0)).size + 1 ≤ 9223372036854775807
                      ·rw [if_pos c47] at H
                       have c47b0 := eq_true c47
                       have c47b1 : decide (((x5_2 ++ (⟨#[115, 101, 116, 32]⟩ : ByteArray)) ++ ((rd_T38 l1 x7_2).f0)).size + 1 ≤ 9223372036854775807) = true := decide_eq_true c47
                       have c47q : (9223372036854775807 < x5_2.size + 4 + ((rd_T38 l1 x7_2).f0).size + 1) = False := eq_false (Nat.not_lt.mpr (by have h_ := of_decide_eq_true c47b1; (repeat rw [ByteArray.size_append] at h_); exact h_))
                       try have c47b2 : (9223372036854775807 < ((x5_2 ++ (⟨#[115, 101, 116, 32]⟩ : ByteArray)) ++ ((rd_T38 l1 x7_2).f0)).size + 1) = False := eq_false (Nat.not_lt.2 c47)
                       by_cases c48 : (((x5_2 ++ (⟨#[115, 101, 116, 32]⟩ : ByteArray)) ++ ((rd_T38 l1 x7_2).f0)) ++ (⟨#[32]⟩ : ByteArray)).size + ((rd_T38 l1 x7_2).f1).size ≤ 9223372036854775807
                       ·rw [if_pos c48] at H
                        have c48b0 := eq_true c48
                        have c48b1 : decide ((((x5_2 ++ (⟨#[115, 101, 116, 32]⟩ : ByteArray)) ++ ((rd_T38 l1 x7_2).f0)) ++ (⟨#[32]⟩ : ByteArray)).size + ((rd_T38 l1 x7_2).f1).size ≤ 9223372036854775807) = true := decide_eq_true c48
                        have c48q : (9223372036854775807 < x5_2.size + 4 + ((rd_T38 l1 x7_2).f0).size + 1 + ((rd_T38 l1 x7_2).f1).size) = False := eq_false (Nat.not_lt.mpr (by have h_ := of_decide_eq_true c48b1; (repeat rw [ByteArray.size_append] at h_); exact h_))
                        try have c48b2 : (9223372036854775807 < (((x5_2 ++ (⟨#[115, 101, 116, 32]⟩ : ByteArray)) ++ ((rd_T38 l1 x7_2).f0)) ++ (⟨#[32]⟩ : ByteArray)).size + ((rd_T38 l1 x7_2).f1).size) = False := eq_false (Nat.not_lt.2 c48)
                        by_cases c49 : ((((x5_2 ++ (⟨#[115, 101, 116, 32]⟩ : ByteArray)) ++ ((rd_T38 l1 x7_2).f0)) ++ (⟨#[32]⟩ : ByteArray)) ++ ((rd_T38 l1 x7_2).f1)).size + 1 ≤ 9223372036854775807
                        ·rw [if_pos c49] at H
                         have c49b0 := eq_true c49
                         have c49b1 : decide (((((x5_2 ++ (⟨#[115, 101, 116, 32]⟩ : ByteArray)) ++ ((rd_T38 l1 x7_2).f0)) ++ (⟨#[32]⟩ : ByteArray)) ++ ((rd_T38 l1 x7_2).f1)).size + 1 ≤ 9223372036854775807) = true := decide_eq_true c49
                         have c49q : (9223372036854775807 < x5_2.size + 4 + ((rd_T38 l1 x7_2).f0).size + 1 + ((rd_T38 l1 x7_2).f1).size + 1) = False := eq_false (Nat.not_lt.mpr (by have h_ := of_decide_eq_true c49b1; (repeat rw [ByteArray.size_append] at h_); exact h_))
                         try have c49b2 : (9223372036854775807 < ((((x5_2 ++ (⟨#[115, 101, 116, 32]⟩ : ByteArray)) ++ ((rd_T38 l1 x7_2).f0)) ++ (⟨#[32]⟩ : ByteArray)) ++ ((rd_T38 l1 x7_2).f1)).size + 1) = False := eq_false (Nat.not_lt.2 c49)
                         have H' := Aside0.mk H
                         clear H
                         have p163 : 0 ≤ (x6_2 : Int) := of_decide_eq_true (by first | (with_reducible assumption) | assumption)
                         have q163 : x6_2 < (l0.length : Int) := of_decide_eq_true (by first | (with_reducible assumption) | assumption)
                         obtain ⟨ad163, e163, hx163_0, hx163_1⟩ := at_T38 HR0.out x6_2 p163 q163
                         cases e163
                         try (replace hx163_0 := (HB.out.cell (World.block_lt_of_cell? w _ hx163_0)).trans hx163_0)
                         try (replace hx163_1 := (HB.out.cell (World.block_lt_of_cell? w _ hx163_1)).trans hx163_1)
                         replace p163 := eq_true p163
                         replace q163 := eq_true q163
                         have p164 : 0 ≤ (x7_2 : Int) := of_decide_eq_true (by first | (with_reducible assumption) | assumption)
                         have q164 : x7_2 < (l1.length : Int) := of_decide_eq_true (by first | (with_reducible assumption) | assumption)
                         obtain ⟨ad164, e164, hx164_0, hx164_1⟩ := at_T38 HR1.out x7_2 p164 q164
                         cases e164
                         try (replace hx164_0 := (HB.out.cell (World.block_lt_of_cell? w _ hx164_0)).trans hx164_0)
                         try (replace hx164_1 := (HB.out.cell (World.block_lt_of_cell? w _ hx164_1)).trans hx164_1)
                         replace p164 := eq_true p164
                         replace q164 := eq_true q164
                         have p165 : 0 ≤ (x7_2 : Int) := of_decide_eq_true (by first | (with_reducible assumption) | assumption)
                         have q165 : x7_2 < (l1.length : Int) := of_decide_eq_true (by first | (with_reducible assumption) | assumption)
                         obtain ⟨ad165, e165, hx165_0, hx165_1⟩ := at_T38 HR1.out x7_2 p165 q165
                         obtain rfl : ad164 = ad165 := (by injection e165)
                         try (replace hx165_0 := (HB.out.cell (World.block_lt_of_cell? w _ hx165_0)).trans hx165_0)
                         try (replace hx165_1 := (HB.out.cell (World.block_lt_of_cell? w _ hx165_1)).trans hx165_1)
                         replace p165 := eq_true p165
                         replace q165 := eq_true q165
                         have p166 : 0 ≤ (x7_2 : Int) := of_decide_eq_true (by first | (with_reducible assumption) | assumption)
                         have q166 : x7_2 < (l1.length : Int) := of_decide_eq_true (by first | (with_reducible assumption) | assumption)
                         obtain ⟨ad166, e166, hx166_0, hx166_1⟩ := at_T38 HR1.out x7_2 p166 q166
                         obtain rfl : ad164 = ad166 := (by injection e166)
                         try (replace hx166_0 := (HB.out.cell (World.block_lt_of_cell? w _ hx166_0)).trans hx166_0)
                         try (replace hx166_1 := (HB.out.cell (World.block_lt_of_cell? w _ hx166_1)).trans hx166_1)
                         replace p166 := eq_true p166
                         replace q166 := eq_true q166
                         go_wp2
                         repeat (go_quiet (fail); try go_wp2)
                         go_roundg kj25
                         case measure => have := HJ2.out; have := HK2.out; have := HJ10.out; have := HJ13.out; have := HJ25.out; omega
                         case rel => exact ⟨(((((x5_2 ++ (⟨#[115, 101, 116, 32]⟩ : ByteArray)) ++ ((rd_T38 l1 x7_2).f0)) ++ (⟨#[32]⟩ : ByteArray)) ++ ((rd_T38 l1 x7_2).f1)) ++ (⟨#[10]⟩ : ByteArray)), (wrap64 (x6_2 + 1)), (wrap64 (x7_2 + 1)), (by first | rfl | (simp; done) | (simp [*]; done)), (by first | rfl | (simp; done) | (simp [*]; done)), (by first | rfl | (simp; done) | (simp [*]; done)), H', ⟨by have := HJ2.out; have := HK2.out; have := HJ10.out; have := HJ13.out; have := HJ25.out; omega⟩, ⟨by repeat (first | (with_reducible first | exact HB.out | apply below_alloc | apply pw_below_drewN | apply below_drew1) | exact HB.out)⟩⟩
                        ·rw [if_neg c49] at H
                         exact absurd H (by simp)
                       ·rw [if_neg c48] at H
                        exact absurd H (by simp)
                      ·rw [if_neg c47] at H
                       exact absurd H (by simp)
                     ·rw [if_neg c46] at H
                      exact absurd H (by simp)
                    ·rw [if_neg c45] at H
                     exact absurd H (by simp)
                  ·rw [if_neg c43] at H
                   exact absurd H (by simp)
                 ·rw [if_neg c42] at H
                  exact absurd H (by simp)
                ·rw [if_neg c41] at H
                 exact absurd H (by simp)
               ·rw [if_neg c40] at H
                exact absurd H (by simp)
        ·replace c13 := Bool.eq_false_iff.mpr c13
         subst c13
         have H1 : (some x5_2) = some r := by rw [if_neg (show ¬ (false = true) by decide)] at H; exact H
         clear H
         have H := H1
         clear H1
         obtain rfl := Option.some.inj H
         go_wp2
         repeat (go_quiet (fail); try go_wp2)
         go_ret
         exact ⟨by first | rfl | (simp [errW_none, errW_some] <;> rfl) | (simp [*, errW_none, errW_some] <;> rfl), by repeat (first | (with_reducible first | exact HB.out | apply below_alloc | apply pw_below_drewN | apply below_drew1) | exact HB.out)⟩

end Go.Proofs.YtfepbnolgceadaaDoor.MFnDiffed
