/- The functions that the law FnAlone reaches, as plain functions, and that the code comes to them. Begun as a text of the print over stubs; turned by wip/handstub.py and wip/mend.py. -/
import Derived.Test.YtheinelpeapleaaHandArr
import Derived.Laws.Rows
import Derived.Test.YtheinelpeapleaaMFnAlonex0
import Derived.Test.YtheinelpeapleaaMFnAlonex2
import Derived.Test.YtheinelpeapleaaMFnAlonex3
namespace Go.Proofs.Ytheinelpeapleaa.MFnAlone
open Go.RowKit Go.Proofs.YtheinelpeapleaaW.PrintWords Go.Proofs.YtheinelpeapleaaW.PrintLast Go.Proofs.YtheinelpeapleaaW.PrintMore
attribute [local go_sem] max2_int min2_int max_two min_two max_three min_three max_four min_four   -- for this text's walks alone
set_option linter.unusedVariables false
set_option linter.unusedSimpArgs false

/-! ### impl_Contend: function 12 -/
mutual
def impl_Contend.j0 : Nat → List (S36) → Int → Int → Bool → Option (List Int × Bool)
  | 0, _, _, _, _ => none
  | k + 1, x0, x1, x2, x33 => if x33 = true then (some (([] : List Int), false)) else (impl_Contend.l0 k x0 x1 x2 x0 (x0.length : Int) 0)
def impl_Contend.l0 : Nat → List (S36) → Int → Int → List (S36) → Int → Int → Option (List Int × Bool)
  | 0, _, _, _, _, _, _ => none
  | k + 1, x0, x1, x2, x34, x35, x36 => if x36 < x35 then (if 0 ≤ x36 then (if x36 < (x34.length : Int) then (impl_Contend.l1 k x0 x1 x2 x34 x35 x36 ((rd_T36 x34 x36).f0) (((rd_T36 x34 x36).f0).length : Int) 0) else (none)) else (none)) else ((slices_Repeat_int_int.f k (([(-1)] : List Int)) (x0.length : Int)).bind fun t226 => (impl_Contend.l2 k x0 x1 t226 x2 0))
def impl_Contend.l1 : Nat → List (S36) → Int → Int → List (S36) → Int → Int → List Int → Int → Int → Option (List Int × Bool)
  | 0, _, _, _, _, _, _, _, _, _ => none
  | k + 1, x0, x1, x2, x34, x35, x36, x41, x42, x43 => if x43 < x42 then (if 0 ≤ x43 then (if x43 < (x41.length : Int) then ((impl_in.f (rd x41 x43) 0 1000).bind fun t222 => (if t222 = true then (impl_Contend.l1 k x0 x1 x2 x34 x35 x36 x41 x42 (wrap64 (x43 + 1))) else (some (([] : List Int), false)))) else (none)) else (none)) else (impl_Contend.l0 k x0 x1 x2 x34 x35 (wrap64 (x36 + 1)))
def impl_Contend.l2 : Nat → List (S36) → Int → List Int → Int → Int → Option (List Int × Bool)
  | 0, _, _, _, _, _ => none
  | k + 1, x0, x1, x12, x56, x57 => if x57 < x56 then (if 16 ≤ 11728124029610 then (impl_Contend.l3 k x0 x1 x12 x57 (List.replicate 16 []) x56 x57 x0 (x0.length : Int) 0) else (none)) else (some (x12, true))
def impl_Contend.l3 : Nat → List (S36) → Int → List Int → Int → List (List Int) → Int → Int → List (S36) → Int → Int → Option (List Int × Bool)
  | 0, _, _, _, _, _, _, _, _, _, _ => none
  | k + 1, x0, x1, x12, x13, x14, x56, x57, x60, x61, x62 => if x62 < x61 then (if 0 ≤ x62 then (if x62 < (x60.length : Int) then (if x62 < (x12.length : Int) then (if (rd x12 x62) < 0 then (if x13 < (((rd_T36 x60 x62).f0).length : Int) then (if 0 ≤ x13 then (if x1 = 0 then (none) else (if 0 ≤ (Int.tmod (rd ((rd_T36 x60 x62).f0) x13) x1) then (if (Int.tmod (rd ((rd_T36 x60 x62).f0) x13) x1) < (x14.length : Int) then (if (rd_L2 x14 (Int.tmod (rd ((rd_T36 x60 x62).f0) x13) x1)).length < 17592186044416 then (impl_Contend.l3 k x0 x1 x12 x13 (x14.set ((Int.tmod (rd ((rd_T36 x60 x62).f0) x13) x1) : Int).toNat ((rd_L2 x14 (Int.tmod (rd ((rd_T36 x60 x62).f0) x13) x1)) ++ [x62])) x56 x57 x60 x61 (wrap64 (x62 + 1))) else (none)) else (none)) else (none))) else (none)) else (impl_Contend.l3 k x0 x1 x12 x13 x14 x56 x57 x60 x61 (wrap64 (x62 + 1)))) else (impl_Contend.l3 k x0 x1 x12 x13 x14 x56 x57 x60 x61 (wrap64 (x62 + 1)))) else (none)) else (none)) else (none)) else (impl_Contend.l4 k x0 x1 x12 x13 x56 x57 x14 0)
def impl_Contend.l4 : Nat → List (S36) → Int → List Int → Int → Int → Int → List (List Int) → Int → Option (List Int × Bool)
  | 0, _, _, _, _, _, _, _, _ => none
  | k + 1, x0, x1, x12, x13, x56, x57, x95, x96 => if x96 < 16 then (if 0 ≤ x96 then (if x96 < (x95.length : Int) then (if ((rd_L2 x95 x96).length : Int) = 1 then (if 0 < ((rd_L2 x95 x96).length : Int) then (if 0 ≤ (rd (rd_L2 x95 x96) 0) then (if (rd (rd_L2 x95 x96) 0) < (x12.length : Int) then (impl_Contend.l4 k x0 x1 (x12.set ((rd (rd_L2 x95 x96) 0) : Int).toNat x13) x13 x56 x57 x95 (wrap64 (x96 + 1))) else (none)) else (none)) else (none)) else (impl_Contend.l4 k x0 x1 x12 x13 x56 x57 x95 (wrap64 (x96 + 1)))) else (none)) else (none)) else (impl_Contend.l2 k x0 x1 x12 x56 (wrap64 (x57 + 1)))
end
def impl_Contend.f (k : Nat) (l0 : List (S36)) (a1 : Int) (a2 : Int) : Option (List Int × Bool) := (impl_in.f (l0.length : Int) 1 40).bind fun t216 => (if t216 = true then ((impl_in.f a1 1 16).bind fun t217 => (if t217 = true then ((impl_in.f a2 0 60).bind fun t218 => (impl_Contend.j0 k l0 a1 a2 (!t218))) else (impl_Contend.j0 k l0 a1 a2 true))) else (impl_Contend.j0 k l0 a1 a2 true))
theorem impl_Contend.mono_l : ∀ k, (∀ y0 y1 y2 y3, LeO (impl_Contend.j0 k y0 y1 y2 y3) (impl_Contend.j0 (k + 1) y0 y1 y2 y3)) ∧ (∀ y0 y1 y2 y3 y4 y5, LeO (impl_Contend.l0 k y0 y1 y2 y3 y4 y5) (impl_Contend.l0 (k + 1) y0 y1 y2 y3 y4 y5)) ∧ (∀ y0 y1 y2 y3 y4 y5 y6 y7 y8, LeO (impl_Contend.l1 k y0 y1 y2 y3 y4 y5 y6 y7 y8) (impl_Contend.l1 (k + 1) y0 y1 y2 y3 y4 y5 y6 y7 y8)) ∧ (∀ y0 y1 y2 y3 y4, LeO (impl_Contend.l2 k y0 y1 y2 y3 y4) (impl_Contend.l2 (k + 1) y0 y1 y2 y3 y4)) ∧ (∀ y0 y1 y2 y3 y4 y5 y6 y7 y8 y9, LeO (impl_Contend.l3 k y0 y1 y2 y3 y4 y5 y6 y7 y8 y9) (impl_Contend.l3 (k + 1) y0 y1 y2 y3 y4 y5 y6 y7 y8 y9)) ∧ (∀ y0 y1 y2 y3 y4 y5 y6 y7, LeO (impl_Contend.l4 k y0 y1 y2 y3 y4 y5 y6 y7) (impl_Contend.l4 (k + 1) y0 y1 y2 y3 y4 y5 y6 y7))
  | 0 => ⟨fun _ _ _ _ r h => by simp [impl_Contend.j0] at h, fun _ _ _ _ _ _ r h => by simp [impl_Contend.l0] at h, fun _ _ _ _ _ _ _ _ _ r h => by simp [impl_Contend.l1] at h, fun _ _ _ _ _ r h => by simp [impl_Contend.l2] at h, fun _ _ _ _ _ _ _ _ _ _ r h => by simp [impl_Contend.l3] at h, fun _ _ _ _ _ _ _ _ r h => by simp [impl_Contend.l4] at h⟩
  | k + 1 => by
    obtain ⟨ih0, ih1, ih2, ih3, ih4, ih5⟩ := impl_Contend.mono_l k
    refine ⟨?_, ?_, ?_, ?_, ?_, ?_⟩
    · intro y0 y1 y2 y3
      unfold impl_Contend.j0
      repeat' first
      | (with_reducible exact ih0 _ _ _ _)
      | (with_reducible exact ih1 _ _ _ _ _ _)
      | (with_reducible exact ih2 _ _ _ _ _ _ _ _ _)
      | (with_reducible exact ih3 _ _ _ _ _)
      | (with_reducible exact ih4 _ _ _ _ _ _ _ _ _ _)
      | (with_reducible exact ih5 _ _ _ _ _ _ _ _)
      | (with_reducible exact slices_Repeat_int_int.mono _ _ _)
      | (with_reducible exact LeO.refl _)
      | (with_reducible exact LeO.none _)
      | (with_reducible refine LeO.ite ?_ ?_)
      | (with_reducible refine LeO.bind ?_ (fun _ => ?_))
      | exact ih0 _ _ _ _
      | exact ih1 _ _ _ _ _ _
      | exact ih2 _ _ _ _ _ _ _ _ _
      | exact ih3 _ _ _ _ _
      | exact ih4 _ _ _ _ _ _ _ _ _ _
      | exact ih5 _ _ _ _ _ _ _ _
      | exact slices_Repeat_int_int.mono _ _ _
      | exact LeO.none _
      | refine LeO.ite ?_ ?_
      | refine LeO.bind ?_ (fun _ => ?_)
    · intro y0 y1 y2 y3 y4 y5
      unfold impl_Contend.l0
      repeat' first
      | (with_reducible exact ih0 _ _ _ _)
      | (with_reducible exact ih1 _ _ _ _ _ _)
      | (with_reducible exact ih2 _ _ _ _ _ _ _ _ _)
      | (with_reducible exact ih3 _ _ _ _ _)
      | (with_reducible exact ih4 _ _ _ _ _ _ _ _ _ _)
      | (with_reducible exact ih5 _ _ _ _ _ _ _ _)
      | (with_reducible exact slices_Repeat_int_int.mono _ _ _)
      | (with_reducible exact LeO.refl _)
      | (with_reducible exact LeO.none _)
      | (with_reducible refine LeO.ite ?_ ?_)
      | (with_reducible refine LeO.bind ?_ (fun _ => ?_))
      | exact ih0 _ _ _ _
      | exact ih1 _ _ _ _ _ _
      | exact ih2 _ _ _ _ _ _ _ _ _
      | exact ih3 _ _ _ _ _
      | exact ih4 _ _ _ _ _ _ _ _ _ _
      | exact ih5 _ _ _ _ _ _ _ _
      | exact slices_Repeat_int_int.mono _ _ _
      | exact LeO.none _
      | refine LeO.ite ?_ ?_
      | refine LeO.bind ?_ (fun _ => ?_)
    · intro y0 y1 y2 y3 y4 y5 y6 y7 y8
      unfold impl_Contend.l1
      repeat' first
      | (with_reducible exact ih0 _ _ _ _)
      | (with_reducible exact ih1 _ _ _ _ _ _)
      | (with_reducible exact ih2 _ _ _ _ _ _ _ _ _)
      | (with_reducible exact ih3 _ _ _ _ _)
      | (with_reducible exact ih4 _ _ _ _ _ _ _ _ _ _)
      | (with_reducible exact ih5 _ _ _ _ _ _ _ _)
      | (with_reducible exact slices_Repeat_int_int.mono _ _ _)
      | (with_reducible exact LeO.refl _)
      | (with_reducible exact LeO.none _)
      | (with_reducible refine LeO.ite ?_ ?_)
      | (with_reducible refine LeO.bind ?_ (fun _ => ?_))
      | exact ih0 _ _ _ _
      | exact ih1 _ _ _ _ _ _
      | exact ih2 _ _ _ _ _ _ _ _ _
      | exact ih3 _ _ _ _ _
      | exact ih4 _ _ _ _ _ _ _ _ _ _
      | exact ih5 _ _ _ _ _ _ _ _
      | exact slices_Repeat_int_int.mono _ _ _
      | exact LeO.none _
      | refine LeO.ite ?_ ?_
      | refine LeO.bind ?_ (fun _ => ?_)
    · intro y0 y1 y2 y3 y4
      unfold impl_Contend.l2
      repeat' first
      | (with_reducible exact ih0 _ _ _ _)
      | (with_reducible exact ih1 _ _ _ _ _ _)
      | (with_reducible exact ih2 _ _ _ _ _ _ _ _ _)
      | (with_reducible exact ih3 _ _ _ _ _)
      | (with_reducible exact ih4 _ _ _ _ _ _ _ _ _ _)
      | (with_reducible exact ih5 _ _ _ _ _ _ _ _)
      | (with_reducible exact slices_Repeat_int_int.mono _ _ _)
      | (with_reducible exact LeO.refl _)
      | (with_reducible exact LeO.none _)
      | (with_reducible refine LeO.ite ?_ ?_)
      | (with_reducible refine LeO.bind ?_ (fun _ => ?_))
      | exact ih0 _ _ _ _
      | exact ih1 _ _ _ _ _ _
      | exact ih2 _ _ _ _ _ _ _ _ _
      | exact ih3 _ _ _ _ _
      | exact ih4 _ _ _ _ _ _ _ _ _ _
      | exact ih5 _ _ _ _ _ _ _ _
      | exact slices_Repeat_int_int.mono _ _ _
      | exact LeO.none _
      | refine LeO.ite ?_ ?_
      | refine LeO.bind ?_ (fun _ => ?_)
    · intro y0 y1 y2 y3 y4 y5 y6 y7 y8 y9
      unfold impl_Contend.l3
      repeat' first
      | (with_reducible exact ih0 _ _ _ _)
      | (with_reducible exact ih1 _ _ _ _ _ _)
      | (with_reducible exact ih2 _ _ _ _ _ _ _ _ _)
      | (with_reducible exact ih3 _ _ _ _ _)
      | (with_reducible exact ih4 _ _ _ _ _ _ _ _ _ _)
      | (with_reducible exact ih5 _ _ _ _ _ _ _ _)
      | (with_reducible exact slices_Repeat_int_int.mono _ _ _)
      | (with_reducible exact LeO.refl _)
      | (with_reducible exact LeO.none _)
      | (with_reducible refine LeO.ite ?_ ?_)
      | (with_reducible refine LeO.bind ?_ (fun _ => ?_))
      | exact ih0 _ _ _ _
      | exact ih1 _ _ _ _ _ _
      | exact ih2 _ _ _ _ _ _ _ _ _
      | exact ih3 _ _ _ _ _
      | exact ih4 _ _ _ _ _ _ _ _ _ _
      | exact ih5 _ _ _ _ _ _ _ _
      | exact slices_Repeat_int_int.mono _ _ _
      | exact LeO.none _
      | refine LeO.ite ?_ ?_
      | refine LeO.bind ?_ (fun _ => ?_)
    · intro y0 y1 y2 y3 y4 y5 y6 y7
      unfold impl_Contend.l4
      repeat' first
      | (with_reducible exact ih0 _ _ _ _)
      | (with_reducible exact ih1 _ _ _ _ _ _)
      | (with_reducible exact ih2 _ _ _ _ _ _ _ _ _)
      | (with_reducible exact ih3 _ _ _ _ _)
      | (with_reducible exact ih4 _ _ _ _ _ _ _ _ _ _)
      | (with_reducible exact ih5 _ _ _ _ _ _ _ _)
      | (with_reducible exact slices_Repeat_int_int.mono _ _ _)
      | (with_reducible exact LeO.refl _)
      | (with_reducible exact LeO.none _)
      | (with_reducible refine LeO.ite ?_ ?_)
      | (with_reducible refine LeO.bind ?_ (fun _ => ?_))
      | exact ih0 _ _ _ _
      | exact ih1 _ _ _ _ _ _
      | exact ih2 _ _ _ _ _ _ _ _ _
      | exact ih3 _ _ _ _ _
      | exact ih4 _ _ _ _ _ _ _ _ _ _
      | exact ih5 _ _ _ _ _ _ _ _
      | exact slices_Repeat_int_int.mono _ _ _
      | exact LeO.none _
      | refine LeO.ite ?_ ?_
      | refine LeO.bind ?_ (fun _ => ?_)
theorem impl_Contend.mono : ∀ a0 a1 a2 k, LeO (impl_Contend.f k a0 a1 a2) (impl_Contend.f (k + 1) a0 a1 a2) := by
  intro a0 a1 a2 k
  obtain ⟨ih0, ih1, ih2, ih3, ih4, ih5⟩ := impl_Contend.mono_l k
  unfold impl_Contend.f
  repeat' first
      | (with_reducible exact ih0 _ _ _ _)
      | (with_reducible exact ih1 _ _ _ _ _ _)
      | (with_reducible exact ih2 _ _ _ _ _ _ _ _ _)
      | (with_reducible exact ih3 _ _ _ _ _)
      | (with_reducible exact ih4 _ _ _ _ _ _ _ _ _ _)
      | (with_reducible exact ih5 _ _ _ _ _ _ _ _)
      | (with_reducible exact slices_Repeat_int_int.mono _ _ _)
      | (with_reducible exact LeO.refl _)
      | (with_reducible exact LeO.none _)
      | (with_reducible refine LeO.ite ?_ ?_)
      | (with_reducible refine LeO.bind ?_ (fun _ => ?_))
      | exact ih0 _ _ _ _
      | exact ih1 _ _ _ _ _ _
      | exact ih2 _ _ _ _ _ _ _ _ _
      | exact ih3 _ _ _ _ _
      | exact ih4 _ _ _ _ _ _ _ _ _ _
      | exact ih5 _ _ _ _ _ _ _ _
      | exact slices_Repeat_int_int.mono _ _ _
      | exact LeO.none _
      | refine LeO.ite ?_ ?_
      | refine LeO.bind ?_ (fun _ => ?_)
set_option maxHeartbeats 8000000 in
set_option maxRecDepth 100000 in
theorem impl_Contend.calls (k : Nat) (A0 : Option Addr) (c0 : Nat) (l0 : List (S36)) (a1 : Int) (a2 : Int) (r1 : List Int) (r2 : Bool) (w : World) (hr0 : Kd.C k36 w A0 l0.length l0) (hc0 : l0.length ≤ c0) (h : impl_Contend.f k l0 a1 a2 = some (r1, r2)) :
    Calls Try.prog 12 #[.slice A0 l0.length c0, .int .i64 a1, .int .i64 a2] w fun e w' => ∃ v0_ : Value, e = .returned (.tuple #[v0_, .bool r2]) ∧ Kd.R (Kd.int .i64) 3 w' w.heap.size (fun _ => True) v0_ r1 ∧ Below w.heap.size w w' := by
  have hu36 := Try.underlying36
  have HR0 := Aside0.mk hr0
  have HC0 := Aside0.mk hc0
  clear hr0 hc0
  have HB := Aside0.mk (Below.refl w.heap.size w)
  have H : ((impl_in.f (l0.length : Int) 1 40).bind fun t216 => (if t216 = true then ((impl_in.f a1 1 16).bind fun t217 => (if t217 = true then ((impl_in.f a2 0 60).bind fun t218 => (impl_Contend.j0 k l0 a1 a2 (!t218))) else (impl_Contend.j0 k l0 a1 a2 true))) else (impl_Contend.j0 k l0 a1 a2 true))) = some (r1, r2) := h
  clear h
  have HC4 := Aside0.mk H
  clear H
  go_enter Try.func12, Try.ntmps12
  go_upto_region 1 with (fail)
  go_cut [33] (fun v33 wc => ∃ (kq : Nat) (x33_3 : Bool), v33 = .bool x33_3 ∧ Aside0 (impl_Contend.j0 kq l0 a1 a2 x33_3 = some (r1, r2)) ∧ Aside0 (kq ≤ k) ∧ Aside0 (Below w.heap.size w wc))
  case first =>
    have H := HC4.out
    clear HC4
    replace H := Option.bind_eq_some_iff.mp H
    obtain ⟨t216, A50, H⟩ := H
    replace H : (if t216 = true then ((impl_in.f a1 1 16).bind fun t217 => (if t217 = true then ((impl_in.f a2 0 60).bind fun t218 => (impl_Contend.j0 k l0 a1 a2 (!t218))) else (impl_Contend.j0 k l0 a1 a2 true))) else (impl_Contend.j0 k l0 a1 a2 true)) = some (r1, r2) := H
    have A5 := Aside0.mk A50
    clear A50
    by_cases c6 : t216 = true
    · subst c6
      have H1 : ((impl_in.f a1 1 16).bind fun t217 => (if t217 = true then ((impl_in.f a2 0 60).bind fun t218 => (impl_Contend.j0 k l0 a1 a2 (!t218))) else (impl_Contend.j0 k l0 a1 a2 true))) = some (r1, r2) := by rw [if_pos rfl] at H; exact H
      clear H
      have H := H1
      clear H1
      replace H := Option.bind_eq_some_iff.mp H
      obtain ⟨t217, A70, H⟩ := H
      replace H : (if t217 = true then ((impl_in.f a2 0 60).bind fun t218 => (impl_Contend.j0 k l0 a1 a2 (!t218))) else (impl_Contend.j0 k l0 a1 a2 true)) = some (r1, r2) := H
      have A7 := Aside0.mk A70
      clear A70
      by_cases c8 : t217 = true
      · subst c8
        have H1 : ((impl_in.f a2 0 60).bind fun t218 => (impl_Contend.j0 k l0 a1 a2 (!t218))) = some (r1, r2) := by rw [if_pos rfl] at H; exact H
        clear H
        have H := H1
        clear H1
        replace H := Option.bind_eq_some_iff.mp H
        obtain ⟨t218, A90, H⟩ := H
        replace H : (impl_Contend.j0 k l0 a1 a2 (!t218)) = some (r1, r2) := H
        have A9 := Aside0.mk A90
        clear A90
        have H' := Aside0.mk H
        clear H
        go_wp2_with (first | ((with_reducible refine gate_callee (f := 24) rfl ?_); refine goesL_ (some 22) rfl rfl Try.func24 (by kernel_rfl) rfl #[.int .i64 (l0.length : Int), .int .i64 1, .int .i64 40] rfl (by (try simp only [List.map_toArray, List.map_cons, List.map_nil]); first | done | rfl | (simp only [List.length_drop, List.length_take]; rfl)) ?_; (with_reducible refine (impl_in.calls (l0.length : Int) 1 40 true _ A5.out).mono ?_); rintro e w' ⟨rfl, ⟨nd, rfl⟩⟩; refine ⟨_, rfl, ?_⟩) | (go_at_call 24; (with_reducible refine (impl_in.calls a1 1 16 true _ A7.out).mono ?_); rintro e w' ⟨rfl, ⟨nd, rfl⟩⟩) | (go_at_call 24; (with_reducible refine (impl_in.calls a2 0 60 t218 _ A9.out).mono ?_); rintro e w' ⟨rfl, ⟨nd, rfl⟩⟩))
        go_meet
        case rel => exact ⟨_, (!t218), (by first | rfl | (simp; done) | (simp [*]; done)), H', ⟨by first | omega | exact Nat.le_refl _⟩, ⟨by repeat (first | (with_reducible first | exact HB.out | apply below_alloc | apply pw_below_drewN | apply below_drew1) | exact HB.out)⟩⟩
      · replace c8 := Bool.eq_false_iff.mpr c8
        subst c8
        have H1 : (impl_Contend.j0 k l0 a1 a2 true) = some (r1, r2) := by rw [if_neg (show ¬ (false = true) by decide)] at H; exact H
        clear H
        have H := H1
        clear H1
        have H' := Aside0.mk H
        clear H
        go_wp2_with (first | ((with_reducible refine gate_callee (f := 24) rfl ?_); refine goesL_ (some 22) rfl rfl Try.func24 (by kernel_rfl) rfl #[.int .i64 (l0.length : Int), .int .i64 1, .int .i64 40] rfl (by (try simp only [List.map_toArray, List.map_cons, List.map_nil]); first | done | rfl | (simp only [List.length_drop, List.length_take]; rfl)) ?_; (with_reducible refine (impl_in.calls (l0.length : Int) 1 40 true _ A5.out).mono ?_); rintro e w' ⟨rfl, ⟨nd, rfl⟩⟩; refine ⟨_, rfl, ?_⟩) | (go_at_call 24; (with_reducible refine (impl_in.calls a1 1 16 false _ A7.out).mono ?_); rintro e w' ⟨rfl, ⟨nd, rfl⟩⟩))
        go_meet
        case rel => exact ⟨_, (true), (by first | rfl | (simp; done) | (simp [*]; done)), H', ⟨by first | omega | exact Nat.le_refl _⟩, ⟨by repeat (first | (with_reducible first | exact HB.out | apply below_alloc | apply pw_below_drewN | apply below_drew1) | exact HB.out)⟩⟩
    · replace c6 := Bool.eq_false_iff.mpr c6
      subst c6
      have H1 : (impl_Contend.j0 k l0 a1 a2 true) = some (r1, r2) := by rw [if_neg (show ¬ (false = true) by decide)] at H; exact H
      clear H
      have H := H1
      clear H1
      have H' := Aside0.mk H
      clear H
      go_wp2_with (first | ((with_reducible refine gate_callee (f := 24) rfl ?_); refine goesL_ (some 22) rfl rfl Try.func24 (by kernel_rfl) rfl #[.int .i64 (l0.length : Int), .int .i64 1, .int .i64 40] rfl (by (try simp only [List.map_toArray, List.map_cons, List.map_nil]); first | done | rfl | (simp only [List.length_drop, List.length_take]; rfl)) ?_; (with_reducible refine (impl_in.calls (l0.length : Int) 1 40 false _ A5.out).mono ?_); rintro e w' ⟨rfl, ⟨nd, rfl⟩⟩; refine ⟨_, rfl, ?_⟩))
      go_meet
      case rel => exact ⟨_, (true), (by first | rfl | (simp; done) | (simp [*]; done)), H', ⟨by first | omega | exact Nat.le_refl _⟩, ⟨by repeat (first | (with_reducible first | exact HB.out | apply below_alloc | apply pw_below_drewN | apply below_drew1) | exact HB.out)⟩⟩
  case rest =>
    clear HC4
    try clear c1
    try clear c2
    try clear p2
    try clear c6
    try clear c8
    obtain ⟨kq, x33_3, rfl, HA, HJ3, HB⟩ := hcut
    cases kq with
    | zero => exact absurd HA.out (by simp [impl_Contend.j0])
    | succ kj3 =>
      have H := HA.out
      clear HA
      simp only [impl_Contend.j0] at H
      by_cases c10 : x33_3 = true
      · subst c10
        have H1 : (some (([] : List Int), false)) = some (r1, r2) := by rw [if_pos rfl] at H; exact H
        clear H
        have H := H1
        clear H1
        simp only [Option.some.injEq, Prod.mk.injEq] at H
        obtain ⟨rfl, rfl⟩ := H
        go_wp2
        go_ret2
        exact ⟨_, by first | rfl | (simp [errW_none, errW_some] <;> rfl) | (simp [*, errW_none, errW_some] <;> rfl), by first | exact Kd.R_nil _ _ _ _ _ | exact Kd.N_nil _ _ _ _ _ | exact Kd.V_nil _ _ _ _ _ | exact Kd.Q_nil _ _ _ _ _ | exact Kd.S_nil _ _ _ _ _, by repeat (first | (with_reducible first | exact HB.out | apply below_alloc | apply pw_below_drewN | apply below_drew1) | exact HB.out)⟩
      · replace c10 := Bool.eq_false_iff.mpr c10
        subst c10
        have H1 : (impl_Contend.l0 kj3 l0 a1 a2 l0 (l0.length : Int) 0) = some (r1, r2) := by rw [if_neg (show ¬ (false = true) by decide)] at H; exact H
        clear H
        have H := H1
        clear H1
        have H' := Aside0.mk H
        clear H
        go_wp2
        go_loopg [36] kj3 (fun kq v36 w' => ∃ (x36_2 : Int), v36 = .int .i64 x36_2 ∧ Aside0 (impl_Contend.l0 kq l0 a1 a2 l0 (l0.length : Int) x36_2 = some (r1, r2)) ∧ Aside0 (kq ≤ kj3) ∧ Aside0 (Below w.heap.size w w'))
        case atStart => exact ⟨(0), (by first | rfl | (simp; done) | (simp [*]; done)), H', ⟨Nat.le_refl _⟩, ⟨by repeat (first | (with_reducible first | exact HB.out | apply below_alloc | apply pw_below_drewN | apply below_drew1) | exact HB.out)⟩⟩
        case round =>
          clear H'
          try clear c1
          try clear c2
          try clear p2
          try clear c6
          try clear c8
          try clear c10
          try clear p2
          obtain ⟨x36_2, rfl, HA, HK2, HB⟩ := hrel
          cases gk with
          | zero => exact absurd HA.out (by simp [impl_Contend.l0])
          | succ k2 =>
            have H := HA.out
            clear HA
            simp only [impl_Contend.l0] at H
            by_cases c11 : x36_2 < (l0.length : Int)
            · rw [if_pos c11] at H
              have c11b0 : decide (x36_2 < (l0.length : Int)) = true := decide_eq_true c11
              clear c11
              by_cases c12 : 0 ≤ x36_2
              · rw [if_pos c12] at H
                have c12b0 : decide (0 ≤ x36_2) = true := decide_eq_true c12
                clear c12
                by_cases c13 : x36_2 < (l0.length : Int)
                · rw [if_pos c13] at H
                  have c13b0 : decide (x36_2 < (l0.length : Int)) = true := decide_eq_true c13
                  clear c13
                  have H' := Aside0.mk H
                  clear H
                  have p219 : 0 ≤ (x36_2 : Int) := of_decide_eq_true (by first | (with_reducible assumption) | assumption)
                  have q219 : x36_2 < (l0.length : Int) := of_decide_eq_true (by first | (with_reducible assumption) | assumption)
                  obtain ⟨ad219, A219_0, c219_0, e219, hx219_0, hl219_0, hi219_0⟩ := at_T36 HR0.out x36_2 p219 q219
                  cases e219
                  try (replace hx219_0 := (HB.out.cell (World.block_lt_of_cell? w _ hx219_0)).trans hx219_0)
                  have HR219_0 := Aside0.mk hi219_0
                  have HC219_0 := Aside0.mk hl219_0
                  clear hi219_0 hl219_0
                  replace p219 := eq_true p219
                  replace q219 := eq_true q219
                  go_wp2_with (first | ((with_reducible refine gate_dst (N := 9) rfl ?_); (try (refine gate_guard (by rfl) ?_; dsimp only)); refine box_event ?hg (N := 9) ?hd (cs := #[.slice none 0 0]) (t := 36) ?hr ?_; (case hd => rfl); (case hg => rfl); (case hr => first | (go_simp; done) | (go_simp; rfl)); intro gb220 hg w14 hbox hb; have n0_ := Aside0.mk (below_step (by repeat (first | (with_reducible first | exact HB.out | apply below_alloc | apply pw_below_drewN | apply below_drew1) | exact HB.out)) hb); have n1_ := Aside0.mk (hbox); have n2_ := Aside0.mk ((by rw [hg]; exact (below_size (by repeat (first | (with_reducible first | exact HB.out | apply below_alloc | apply pw_below_drewN | apply below_drew1) | exact HB.out))) : w.heap.size ≤ gb220)); have n3_ := Aside0.mk ((by rw [hg]; exact (below_size (by repeat (first | (with_reducible first | exact HB.out | apply below_alloc | apply pw_below_drewN | apply below_drew1) | exact HB.out))) : w.heap.size ≤ gb220)); clear HB; have HB := n0_; have BK220 := n1_; have GW220 := n2_; have GE220 := n3_; clear n0_ n1_ n2_ n3_; clear hb hbox hg; have hcz15_0 : w14.cell? ⟨gb220, 0, none⟩ = some (.slice none 0 0) := (blk_cell BK220.out 0).trans rfl; have hfz15_0 := blk_frozen BK220.out 0))
                  go_loopg [43] k2 (fun kq v43 w' => ∃ (x43_3 : Int), v43 = .int .i64 x43_3 ∧ Aside0 (impl_Contend.l1 kq l0 a1 a2 l0 (l0.length : Int) x36_2 ((rd_T36 l0 x36_2).f0) (((rd_T36 l0 x36_2).f0).length : Int) x43_3 = some (r1, r2)) ∧ Aside0 (kq ≤ k2) ∧ Aside0 (w'.heap[gb220]? = some (.cells #[(.slice A219_0 ((rd_T36 l0 x36_2).f0).length c219_0)] 36 (0, 0))) ∧ Aside0 (Below w.heap.size w w'))
                  case atStart => exact ⟨(0), (by first | rfl | (simp; done) | (simp [*]; done)), H', ⟨Nat.le_refl _⟩, ⟨by (with_reducible repeat (first | refine blk_drewN ?_ _ | refine blk_drew ?_ | refine blk_alloc ?_ _)); refine blk_put (cs := #[.slice none 0 0]) ?_ 0 _ rfl; (with_reducible repeat (first | refine blk_drewN ?_ _ | refine blk_drew ?_ | refine blk_alloc ?_ _)); exact BK220.out⟩, ⟨by repeat (first | (with_reducible first | exact HB.out | apply below_alloc | apply pw_below_drewN | apply below_drew1 | refine below_set ?_ GE220.out) | exact HB.out)⟩⟩
                  case round =>
                    clear H'
                    try clear c1
                    try clear c2
                    try clear p2
                    try clear q2
                    try clear hx2
                    try clear c6
                    try clear c8
                    try clear c10
                    try clear c11
                    try clear c11b0
                    try clear c12
                    try clear c12b0
                    try clear c13
                    try clear c13b0
                    try clear hcz15_0
                    try clear hfz15_0
                    try clear hx219_0
                    try clear p2
                    try clear p219
                    try clear q219
                    obtain ⟨x43_3, rfl, HA, HK3, BK220, HB⟩ := hrel
                    cases gk with
                    | zero => exact absurd HA.out (by simp [impl_Contend.l1])
                    | succ k3 =>
                      have H := HA.out
                      clear HA
                      simp only [impl_Contend.l1] at H
                      by_cases c16 : x43_3 < (((rd_T36 l0 x36_2).f0).length : Int)
                      · rw [if_pos c16] at H
                        have c16b0 : decide (x43_3 < (((rd_T36 l0 x36_2).f0).length : Int)) = true := decide_eq_true c16
                        clear c16
                        by_cases c17 : 0 ≤ x43_3
                        · rw [if_pos c17] at H
                          have c17b0 : decide (0 ≤ x43_3) = true := decide_eq_true c17
                          clear c17
                          by_cases c18 : x43_3 < (((rd_T36 l0 x36_2).f0).length : Int)
                          · rw [if_pos c18] at H
                            have c18b0 : decide (x43_3 < (((rd_T36 l0 x36_2).f0).length : Int)) = true := decide_eq_true c18
                            clear c18
                            replace H := Option.bind_eq_some_iff.mp H
                            obtain ⟨t222, A190, H⟩ := H
                            replace H : (if t222 = true then (impl_Contend.l1 k3 l0 a1 a2 l0 (l0.length : Int) x36_2 ((rd_T36 l0 x36_2).f0) (((rd_T36 l0 x36_2).f0).length : Int) (wrap64 (x43_3 + 1))) else (some (([] : List Int), false))) = some (r1, r2) := H
                            have A19 := Aside0.mk A190
                            clear A190
                            by_cases c20 : t222 = true
                            · subst c20
                              have H1 : (impl_Contend.l1 k3 l0 a1 a2 l0 (l0.length : Int) x36_2 ((rd_T36 l0 x36_2).f0) (((rd_T36 l0 x36_2).f0).length : Int) (wrap64 (x43_3 + 1))) = some (r1, r2) := by rw [if_pos rfl] at H; exact H
                              clear H
                              have H := H1
                              clear H1
                              have H' := Aside0.mk H
                              clear H
                              have p221 : 0 ≤ (x43_3 : Int) := of_decide_eq_true (by first | (with_reducible assumption) | assumption)
                              have q221 : x43_3 < (((rd_T36 l0 x36_2).f0).length : Int) := of_decide_eq_true (by first | (with_reducible assumption) | assumption)
                              obtain ⟨ad221, e221, hx221_0⟩ := Kd.at_int HR219_0.out x43_3 p221 q221
                              cases e221
                              try (replace hx221_0 := (HB.out.cell (World.block_lt_of_cell? w _ hx221_0)).trans hx221_0)
                              replace p221 := eq_true p221
                              replace q221 := eq_true q221
                              go_wp2_with (first | ((with_reducible refine gate_callee (f := 24) rfl ?_); refine goesL_ (some 48) rfl rfl Try.func24 (by kernel_rfl) rfl #[.int .i64 (rd ((rd_T36 l0 x36_2).f0) x43_3), .int .i64 0, .int .i64 1000] rfl (by (try simp only [List.map_toArray, List.map_cons, List.map_nil]); first | done | rfl | (simp only [List.length_drop, List.length_take]; rfl)) ?_; (with_reducible refine (impl_in.calls (rd ((rd_T36 l0 x36_2).f0) x43_3) 0 1000 true _ A19.out).mono ?_); rintro e w' ⟨rfl, ⟨nd, rfl⟩⟩; refine ⟨_, rfl, ?_⟩))
                              go_roundg k3
                              case measure => have := HJ3.out; have := HK2.out; have := HK3.out; omega
                              case rel => exact ⟨(wrap64 (x43_3 + 1)), (by first | rfl | (simp; done) | (simp [*]; done)), H', ⟨by have := HJ3.out; have := HK2.out; have := HK3.out; omega⟩, ⟨by (with_reducible repeat (first | refine blk_drewN ?_ _ | refine blk_drew ?_ | refine blk_alloc ?_ _)); exact BK220.out⟩, ⟨by repeat (first | (with_reducible first | exact HB.out | apply below_alloc | apply pw_below_drewN | apply below_drew1 | refine below_set ?_ GE220.out) | exact HB.out)⟩⟩
                            · replace c20 := Bool.eq_false_iff.mpr c20
                              subst c20
                              have H1 : (some (([] : List Int), false)) = some (r1, r2) := by rw [if_neg (show ¬ (false = true) by decide)] at H; exact H
                              clear H
                              have H := H1
                              clear H1
                              simp only [Option.some.injEq, Prod.mk.injEq] at H
                              obtain ⟨rfl, rfl⟩ := H
                              have p221 : 0 ≤ (x43_3 : Int) := of_decide_eq_true (by first | (with_reducible assumption) | assumption)
                              have q221 : x43_3 < (((rd_T36 l0 x36_2).f0).length : Int) := of_decide_eq_true (by first | (with_reducible assumption) | assumption)
                              obtain ⟨ad221, e221, hx221_0⟩ := Kd.at_int HR219_0.out x43_3 p221 q221
                              cases e221
                              try (replace hx221_0 := (HB.out.cell (World.block_lt_of_cell? w _ hx221_0)).trans hx221_0)
                              replace p221 := eq_true p221
                              replace q221 := eq_true q221
                              go_wp2_with (first | ((with_reducible refine gate_callee (f := 24) rfl ?_); refine goesL_ (some 48) rfl rfl Try.func24 (by kernel_rfl) rfl #[.int .i64 (rd ((rd_T36 l0 x36_2).f0) x43_3), .int .i64 0, .int .i64 1000] rfl (by (try simp only [List.map_toArray, List.map_cons, List.map_nil]); first | done | rfl | (simp only [List.length_drop, List.length_take]; rfl)) ?_; (with_reducible refine (impl_in.calls (rd ((rd_T36 l0 x36_2).f0) x43_3) 0 1000 false _ A19.out).mono ?_); rintro e w' ⟨rfl, ⟨nd, rfl⟩⟩; refine ⟨_, rfl, ?_⟩))
                              go_ret2
                              exact ⟨_, by first | rfl | (simp [errW_none, errW_some] <;> rfl) | (simp [*, errW_none, errW_some] <;> rfl), by first | exact Kd.R_nil _ _ _ _ _ | exact Kd.N_nil _ _ _ _ _ | exact Kd.V_nil _ _ _ _ _ | exact Kd.Q_nil _ _ _ _ _ | exact Kd.S_nil _ _ _ _ _, by repeat (first | (with_reducible first | exact HB.out | apply below_alloc | apply pw_below_drewN | apply below_drew1 | refine below_set ?_ GE220.out) | exact HB.out)⟩
                          · rw [if_neg c18] at H
                            exact absurd H (by simp)
                        · rw [if_neg c17] at H
                          exact absurd H (by simp)
                      · rw [if_neg c16] at H
                        have c16b0 : decide (x43_3 < (((rd_T36 l0 x36_2).f0).length : Int)) = false := decide_eq_false c16
                        clear c16
                        have H' := Aside0.mk H
                        clear H
                        go_wp2
                        go_roundg k3
                        case measure => have := HJ3.out; have := HK2.out; have := HK3.out; omega
                        case rel => exact ⟨(wrap64 (x36_2 + 1)), (by first | rfl | (simp; done) | (simp [*]; done)), H', ⟨by have := HJ3.out; have := HK2.out; have := HK3.out; omega⟩, ⟨by repeat (first | (with_reducible first | exact HB.out | apply below_alloc | apply pw_below_drewN | apply below_drew1 | refine below_set ?_ GE220.out) | exact HB.out)⟩⟩
                · rw [if_neg c13] at H
                  exact absurd H (by simp)
              · rw [if_neg c12] at H
                exact absurd H (by simp)
            · rw [if_neg c11] at H
              have c11b0 : decide (x36_2 < (l0.length : Int)) = false := decide_eq_false c11
              clear c11
              obtain ⟨y223, hy223⟩ : ∃ y_ : List Int, y_ = (([(-1)] : List Int)) := ⟨_, rfl⟩
              replace H : ((slices_Repeat_int_int.f k2 y223 (l0.length : Int)).bind fun t226 => (impl_Contend.l2 k2 l0 a1 t226 a2 0)) = some (r1, r2) := by first | (rw [hy223]; with_reducible exact H) | (have H2_ := (Option.bind_some _ _).symm.trans H; rw [hy223]; with_reducible exact H2_) | (have H2_ := (Option.bind_some _ _).symm.trans H; with_reducible exact H2_) | with_reducible exact H | (rw [hy223]; exact H) | exact H
              have Ny223 := Aside0.mk hy223
              clear hy223
              replace H := Option.bind_eq_some_iff.mp H
              obtain ⟨t226, A210, H⟩ := H
              replace H : (impl_Contend.l2 k2 l0 a1 t226 a2 0) = some (r1, r2) := H
              have A21 := Aside0.mk A210
              clear A210
              have H' := Aside0.mk H
              clear H
              go_wp2_with (first | ((with_reducible refine gate_dst (N := 52) rfl ?_); (try (refine gate_guard (by rfl) ?_; dsimp only)); refine Kd.R_lit (Kd.int .i64) _ 3 ?hg (N := 52) ?hd (xs := ([(-1)] : List Int)) (inner := [.int .i64 (-1)]) (ok := fun _ => True) (okp := fun _ => True) ?hr ?hp (fun _ hk => hk) trivial (Below.refl _ _) (Nat.le_refl _) (by simp) ?_; (case hd => rfl); (case hg => rfl); (case hr => first | (go_simp; done) | (go_simp; rfl)); (case hp => exact (Reps.one (show Kd.M (Kd.int .i64) _ _ _ (-1) [.int .i64 (-1)] from rfl) (Reps.none _ _))); intro v224 w22 ho23 hb hg_ hnew_; clear hg_ hnew_; (first | rw [← Ny223.out] at ho23 | (simp only [Int.reduceToNat] at ho23; rw [← Ny223.out] at ho23)); have n0_ := Aside0.mk (Kd.R_lower ho23 (below_size (by repeat (first | (with_reducible first | exact HB.out | apply below_alloc | apply pw_below_drewN | apply below_drew1) | exact HB.out)))); have n1_ := Aside0.mk (below_step (by repeat (first | (with_reducible first | exact HB.out | apply below_alloc | apply pw_below_drewN | apply below_drew1) | exact HB.out)) hb); clear HB; have HO225 := n0_; have HB := n1_; clear n0_ n1_; clear hb ho23; obtain ⟨Ao24, co24, eo24⟩ := Kd.R_slice HO225.out; subst eo24) | ((with_reducible refine gate_callee (f := 27) rfl ?_); refine goesL_ (some 55) rfl rfl Try.func27 (by kernel_rfl) rfl #[.slice Ao24 y223.length co24, .int .i64 (l0.length : Int)] rfl (by (try simp only [List.map_toArray, List.map_cons, List.map_nil]); first | done | rfl | (simp only [List.length_drop, List.length_take]; rfl)) ?_; (with_reducible refine (slices_Repeat_int_int.calls k2 _ _ y223 (l0.length : Int) t226 _ ?side1 ?side2 A21.out).mono ?_); (case side1 => repeat (first | exact (Kd.R_reads' HO225.out).2.2 | (with_reducible refine Kd.C_alloc ?_ _) | (with_reducible refine Kd.C_drewN ?_ _) | (with_reducible refine Kd.C_drew ?_))); (case side2 => exact (Kd.R_reads' HO225.out).2.1); rintro e w25 ⟨v227, rfl, ho0, hb⟩; refine ⟨_, rfl, ?_⟩; have n0_ := Aside0.mk (Kd.R_elder' (by (with_reducible repeat (first | apply Kd.R_alloc | apply Kd.R_drewN | apply Kd.R_drew)); exact HO225.out) (Kd.R_base ho0) hb); have n1_ := Aside0.mk (Kd.R_lower (Kd.R_new' ho0 (Kd.R_lt (by (with_reducible repeat (first | apply Kd.R_alloc | apply Kd.R_drewN | apply Kd.R_drew)); exact HO225.out))) (below_size (by repeat (first | (with_reducible first | exact HB.out | apply below_alloc | apply pw_below_drewN | apply below_drew1) | exact HB.out)))); have n2_ := Aside0.mk (below_step (by repeat (first | (with_reducible first | exact HB.out | apply below_alloc | apply pw_below_drewN | apply below_drew1) | exact HB.out)) hb); clear HO225; clear HB; have HO225 := n0_; have HO228 := n1_; have HB := n2_; clear n0_ n1_ n2_; (try clear hb); (try clear hb2); (try clear hk); (try clear hi); (try clear ho0)))
              go_loopg [57] k2 (fun kq v57 w' => ∃ (x12_3 : List Int) (x57_3 : Int), v57 = .int .i64 x57_3 ∧ Aside0 (impl_Contend.l2 kq l0 a1 x12_3 a2 x57_3 = some (r1, r2)) ∧ Aside0 (kq ≤ k2) ∧ Aside0 (Kd.R (Kd.int .i64) 3 w' w.heap.size (fun _ => True) v227 x12_3) ∧ Aside0 (Below w.heap.size w w'))
              case atStart => exact ⟨(t226), (0), (by first | rfl | (simp; done) | (simp [*]; done)), H', ⟨Nat.le_refl _⟩, ⟨by (with_reducible repeat (first | apply Kd.R_alloc | apply Kd.R_drewN | apply Kd.R_drew)); exact Kd.R_mono HO228.out (fun _ hk => trivial)⟩, ⟨by repeat (first | (with_reducible first | exact HB.out | apply below_alloc | apply pw_below_drewN | apply below_drew1) | exact HB.out)⟩⟩
              case round =>
                clear H'
                try clear c1
                try clear c2
                try clear p2
                try clear q2
                try clear hx2
                try clear c6
                try clear p6
                try clear c8
                try clear c10
                try clear c11
                try clear c11b0
                try clear c12
                try clear c12b0
                try clear c13
                try clear c13b0
                try clear c16
                try clear c16b0
                try clear c17
                try clear c17b0
                try clear c18
                try clear c18b0
                try clear c20
                try clear c21
                try clear p21
                try clear q21
                try clear hx21
                try clear p22
                try clear q22
                try clear hx22
                try clear c24
                try clear hcz15_0
                try clear hfz15_0
                try clear hx219_0
                try clear hx221_0
                try clear p2
                try clear p219
                try clear p221
                try clear q2
                try clear q219
                try clear q221
                obtain ⟨x12_3, x57_3, rfl, HA, HK3, HO_12, HB⟩ := hrel
                cases gk with
                | zero => exact absurd HA.out (by simp [impl_Contend.l2])
                | succ k3 =>
                  have H := HA.out
                  clear HA
                  simp only [impl_Contend.l2] at H
                  by_cases c26 : x57_3 < a2
                  · rw [if_pos c26] at H
                    have c26b0 : decide (x57_3 < a2) = true := decide_eq_true c26
                    clear c26
                    by_cases c27 : 16 ≤ 11728124029610
                    · rw [if_pos c27] at H
                      have c27b0 := eq_true c27
                      have c27b1 : decide (16 ≤ 11728124029610) = true := decide_eq_true c27
                      clear c27
                      obtain ⟨y229, hy229⟩ : ∃ y_ : List (List Int), y_ = (List.replicate 16 []) := ⟨_, rfl⟩
                      replace H : (impl_Contend.l3 k3 l0 a1 x12_3 x57_3 y229 a2 x57_3 l0 (l0.length : Int) 0) = some (r1, r2) := by first | (rw [hy229]; with_reducible exact H) | (have H2_ := (Option.bind_some _ _).symm.trans H; rw [hy229]; with_reducible exact H2_) | (have H2_ := (Option.bind_some _ _).symm.trans H; with_reducible exact H2_) | with_reducible exact H | (rw [hy229]; exact H) | exact H
                      have Ny229 := Aside0.mk hy229
                      clear hy229
                      have H' := Aside0.mk H
                      clear H
                      go_wp2_with (first | ((with_reducible refine gate_dst (N := 14) rfl ?_); (try (refine gate_guard (by rfl) ?_; dsimp only)); refine box_event ?hg (N := 14) ?hd (cs := Go.Proofs.Ytheinelpeapleaa.HandArr.nils) (t := 51) ?hr ?_; (case hd => rfl); (case hg => rfl); (case hr => first | (go_simp; done) | (go_simp; rfl)); intro gb230 hgA w28 hbox hb; obtain ⟨v230, hv122⟩ : ∃ v_ : Value, v_ = .slice (some ⟨gb230, 0, none⟩) 16 16 := ⟨_, rfl⟩; have ho29 := Go.Proofs.Ytheinelpeapleaa.HandArr.S_of_arr hbox (Nat.le_of_eq hgA.symm) (fun _ => True) trivial; rw [← hv122] at ho29; have HV122 := Aside0.mk hv122; clear hv122 hbox hgA; (first | rw [← Ny229.out] at ho29 | (simp only [Int.reduceToNat] at ho29; rw [← Ny229.out] at ho29)); have n0_ := Aside0.mk (Kd.R_below (by (with_reducible repeat (first | apply Kd.R_alloc | apply Kd.R_drewN | apply Kd.R_drew)); exact HO_12.out) hb); have n1_ := Aside0.mk (Kd.S_lower (Kd.S_new' ho29 (Kd.R_lt (by (with_reducible repeat (first | apply Kd.R_alloc | apply Kd.R_drewN | apply Kd.R_drew)); exact HO_12.out))) (below_size (by repeat (first | (with_reducible first | exact HB.out | apply below_alloc | apply pw_below_drewN | apply below_drew1) | exact HB.out)))); have n2_ := Aside0.mk (below_step (by repeat (first | (with_reducible first | exact HB.out | apply below_alloc | apply pw_below_drewN | apply below_drew1) | exact HB.out)) hb); clear HO_12; clear HB; have HO_12 := n0_; have HO231 := n1_; have HB := n2_; clear n0_ n1_ n2_; clear hb ho29))
                      go_loopg [62] k3 (fun kq v62 w' => ∃ (x14_4 : List (List Int)) (x62_4 : Int), v62 = .int .i64 x62_4 ∧ Aside0 (impl_Contend.l3 kq l0 a1 x12_3 x57_3 x14_4 a2 x57_3 l0 (l0.length : Int) x62_4 = some (r1, r2)) ∧ Aside0 (kq ≤ k3) ∧ Aside0 (Kd.R (Kd.int .i64) 3 w' w.heap.size (fun _ => True) v227 x12_3) ∧ Aside0 (Kd.S (Kd.slice 3 (Kd.int .i64)) 51 w' w.heap.size (fun k_ => some k_ ≠ (v227 : Value).ownBlock) v230 x14_4) ∧ Aside0 (Below w.heap.size w w'))
                      case atStart => exact ⟨(y229), (0), (by first | rfl | (simp; done) | (simp [*]; done)), H', ⟨Nat.le_refl _⟩, ⟨by (with_reducible repeat (first | apply Kd.R_alloc | apply Kd.R_drewN | apply Kd.R_drew)); exact HO_12.out⟩, ⟨by (with_reducible repeat (first | apply Kd.S_alloc | apply Kd.S_drewN | apply Kd.S_drew)); exact Kd.S_mono HO231.out (fun _ hk => hk.2)⟩, ⟨by repeat (first | (with_reducible first | exact HB.out | apply below_alloc | apply pw_below_drewN | apply below_drew1) | exact HB.out)⟩⟩
                      case round =>
                        clear H'
                        try clear c1
                        try clear c2
                        try clear p2
                        try clear q2
                        try clear hx2
                        try clear c6
                        try clear p6
                        try clear c8
                        try clear c10
                        try clear c11
                        try clear c11b0
                        try clear c12
                        try clear c12b0
                        try clear c13
                        try clear c13b0
                        try clear c16
                        try clear c16b0
                        try clear c17
                        try clear c17b0
                        try clear c18
                        try clear c18b0
                        try clear c20
                        try clear c21
                        try clear p21
                        try clear q21
                        try clear hx21
                        try clear p22
                        try clear q22
                        try clear hx22
                        try clear c24
                        try clear c26
                        try clear c26b0
                        try clear c27
                        try clear c27b0
                        try clear c27b1
                        try clear hcz15_0
                        try clear hfz15_0
                        try clear hx219_0
                        try clear hx221_0
                        try clear p2
                        try clear p21
                        try clear p219
                        try clear p22
                        try clear p221
                        try clear p6
                        try clear q2
                        try clear q21
                        try clear q219
                        try clear q22
                        try clear q221
                        obtain ⟨x14_4, x62_4, rfl, HA, HK4, HO_12, HO_14, HB⟩ := hrel
                        cases gk with
                        | zero => exact absurd HA.out (by simp [impl_Contend.l3])
                        | succ k4 =>
                          have H := HA.out
                          clear HA
                          simp only [impl_Contend.l3] at H
                          by_cases c30 : x62_4 < (l0.length : Int)
                          · rw [if_pos c30] at H
                            have c30b0 : decide (x62_4 < (l0.length : Int)) = true := decide_eq_true c30
                            clear c30
                            by_cases c31 : 0 ≤ x62_4
                            · rw [if_pos c31] at H
                              have c31b0 : decide (0 ≤ x62_4) = true := decide_eq_true c31
                              clear c31
                              by_cases c32 : x62_4 < (l0.length : Int)
                              · rw [if_pos c32] at H
                                have c32b0 : decide (x62_4 < (l0.length : Int)) = true := decide_eq_true c32
                                clear c32
                                by_cases c33 : x62_4 < (x12_3.length : Int)
                                · rw [if_pos c33] at H
                                  have c33b0 : decide (x62_4 < (x12_3.length : Int)) = true := decide_eq_true c33
                                  clear c33
                                  by_cases c34 : (rd x12_3 x62_4) < 0
                                  · rw [if_pos c34] at H
                                    have c34b0 : decide ((rd x12_3 x62_4) < 0) = true := decide_eq_true c34
                                    clear c34
                                    by_cases c35 : x57_3 < (((rd_T36 l0 x62_4).f0).length : Int)
                                    · rw [if_pos c35] at H
                                      have c35b0 : decide (x57_3 < (((rd_T36 l0 x62_4).f0).length : Int)) = true := decide_eq_true c35
                                      clear c35
                                      by_cases c36 : 0 ≤ x57_3
                                      · rw [if_pos c36] at H
                                        have c36b0 : decide (0 ≤ x57_3) = true := decide_eq_true c36
                                        clear c36
                                        by_cases c37 : a1 = 0
                                        · rw [if_pos c37] at H
                                          exact absurd H (by simp)
                                        · rw [if_neg c37] at H
                                          have c37b0 : (a1 == 0) = false := beq_eq_false_iff_ne.mpr c37
                                          have c37b1 : (a1 != 0) = true := bne_iff_ne.mpr c37
                                          obtain ⟨ji38, hji38⟩ : ∃ j_ : Int, (Int.tmod (rd ((rd_T36 l0 x62_4).f0) x57_3) a1) = j_ := ⟨_, rfl⟩
                                          replace H : (if 0 ≤ (ji38) then (if (ji38) < (x14_4.length : Int) then (if (rd_L2 x14_4 (ji38)).length < 17592186044416 then (impl_Contend.l3 k4 l0 a1 x12_3 x57_3 (x14_4.set ((ji38) : Int).toNat ((rd_L2 x14_4 (ji38)) ++ [x62_4])) a2 x57_3 l0 (l0.length : Int) (wrap64 (x62_4 + 1))) else (none)) else (none)) else (none)) = some (r1, r2) := by first | (rw [hji38] at H; exact H) | (simp only [hji38] at H ⊢; exact H)
                                          by_cases c39 : 0 ≤ (ji38)
                                          · rw [if_pos c39] at H
                                            have c39b0 : decide (0 ≤ (ji38)) = true := decide_eq_true c39
                                            clear c39
                                            by_cases c40 : (ji38) < (x14_4.length : Int)
                                            · rw [if_pos c40] at H
                                              have c40b0 : decide ((ji38) < (x14_4.length : Int)) = true := decide_eq_true c40
                                              clear c40
                                              by_cases c41 : (rd_L2 x14_4 (ji38)).length < 17592186044416
                                              · rw [if_pos c41] at H
                                                have LMc41 := Aside0.mk c41
                                                clear c41
                                                obtain ⟨y237, hy237⟩ : ∃ y_ : List Int, y_ = ((rd_L2 x14_4 (ji38)) ++ [x62_4]) := ⟨_, rfl⟩
                                                replace H : (impl_Contend.l3 k4 l0 a1 x12_3 x57_3 (x14_4.set ((ji38) : Int).toNat y237) a2 x57_3 l0 (l0.length : Int) (wrap64 (x62_4 + 1))) = some (r1, r2) := by first | (rw [hy237]; with_reducible exact H) | (have H2_ := (Option.bind_some _ _).symm.trans H; rw [hy237]; with_reducible exact H2_) | (have H2_ := (Option.bind_some _ _).symm.trans H; with_reducible exact H2_) | with_reducible exact H | (rw [hy237]; exact H) | exact H
                                                have Ny237 := Aside0.mk hy237
                                                clear hy237
                                                obtain ⟨y240, hy240⟩ : ∃ y_ : List (List Int), y_ = (x14_4.set ((ji38) : Int).toNat y237) := ⟨_, rfl⟩
                                                replace H : (impl_Contend.l3 k4 l0 a1 x12_3 x57_3 y240 a2 x57_3 l0 (l0.length : Int) (wrap64 (x62_4 + 1))) = some (r1, r2) := by first | (rw [hy240]; with_reducible exact H) | (have H2_ := (Option.bind_some _ _).symm.trans H; rw [hy240]; with_reducible exact H2_) | (have H2_ := (Option.bind_some _ _).symm.trans H; with_reducible exact H2_) | with_reducible exact H | (rw [hy240]; exact H) | exact H
                                                have Ny240 := Aside0.mk hy240
                                                clear hy240
                                                have H' := Aside0.mk H
                                                clear H
                                                have p232 : 0 ≤ (x62_4 : Int) := of_decide_eq_true (by first | (with_reducible assumption) | assumption)
                                                have q232 : x62_4 < (l0.length : Int) := of_decide_eq_true (by first | (with_reducible assumption) | assumption)
                                                obtain ⟨ad232, A232_0, c232_0, e232, hx232_0, hl232_0, hi232_0⟩ := at_T36 HR0.out x62_4 p232 q232
                                                cases e232
                                                try (replace hx232_0 := (HB.out.cell (World.block_lt_of_cell? w _ hx232_0)).trans hx232_0)
                                                have HR232_0 := Aside0.mk hi232_0
                                                have HC232_0 := Aside0.mk hl232_0
                                                clear hi232_0 hl232_0
                                                replace p232 := eq_true p232
                                                replace q232 := eq_true q232
                                                go_wp2_with (first | ((with_reducible refine gate_dst (N := 16) rfl ?_); (try (refine gate_guard (by rfl) ?_; dsimp only)); refine box_event ?hg (N := 16) ?hd (cs := #[.slice none 0 0]) (t := 36) ?hr ?_; (case hd => rfl); (case hg => rfl); (case hr => first | (go_simp; done) | (go_simp; rfl)); intro gb233 hg w43 hbox hb; have n0_ := Aside0.mk (Kd.R_below (by (with_reducible repeat (first | apply Kd.R_alloc | apply Kd.R_drewN | apply Kd.R_drew)); exact HO_12.out) hb); have n1_ := Aside0.mk (Kd.S_below (by (with_reducible repeat (first | apply Kd.S_alloc | apply Kd.S_drewN | apply Kd.S_drew)); exact HO_14.out) hb); have n2_ := Aside0.mk (below_step (by repeat (first | (with_reducible first | exact HB.out | apply below_alloc | apply pw_below_drewN | apply below_drew1) | exact HB.out)) hb); have n3_ := Aside0.mk (hbox); have n4_ := Aside0.mk ((by rw [hg]; exact (below_size (by repeat (first | (with_reducible first | exact HB.out | apply below_alloc | apply pw_below_drewN | apply below_drew1) | exact HB.out))) : w.heap.size ≤ gb233)); have n5_ := Aside0.mk ((by rw [hg]; exact (below_size (by repeat (first | (with_reducible first | exact HB.out | apply below_alloc | apply pw_below_drewN | apply below_drew1) | exact HB.out))) : w.heap.size ≤ gb233)); clear HO_12; clear HO_14; clear HB; have HO_12 := n0_; have HO_14 := n1_; have HB := n2_; have BK233 := n3_; have GW233 := n4_; have GE233 := n5_; clear n0_ n1_ n2_ n3_ n4_ n5_; clear hb hbox hg; have hcz44_0 : w43.cell? ⟨gb233, 0, none⟩ = some (.slice none 0 0) := (blk_cell BK233.out 0).trans rfl; have hfz44_0 := blk_frozen BK233.out 0) | ((with_reducible refine gate_store (t := 36) (p := 16) rfl ?_); refine store_event (t := 36) (p := 16) (v := ?vo_w45) (w1 := (w43.setCell ⟨gb233, 0, none⟩ (.slice A232_0 ((rd_T36 l0 x62_4).f0).length c232_0))) ?hg ?ho ?hn ?hr ?_; (case ho => rfl); (case hg => rfl); (case hn => rfl); (case hr => first | (go_simp; done) | (go_simp; rfl)); intro w45 hw; have n0_ : Aside0 (Kd.R (Kd.int .i64) 3 w45 w.heap.size (fun _ => True) v227 x12_3) := ⟨(by rw [hw]; exact (by (with_reducible repeat (first | apply Kd.R_alloc | apply Kd.R_drewN | apply Kd.R_drew)); exact Kd.R_mono (Kd.R_far (p := ⟨gb233, 0, none⟩) (Kd.R_types HO_12.out BK233.out (by decide)) (fun _ hk => hk.2) (.slice A232_0 ((rd_T36 l0 x62_4).f0).length c232_0)) (fun _ hk => trivial)))⟩; have n1_ : Aside0 (Kd.S (Kd.slice 3 (Kd.int .i64)) 51 w45 w.heap.size (fun k_ => some k_ ≠ (v227 : Value).ownBlock) v230 x14_4) := ⟨(by rw [hw]; exact (by (with_reducible repeat (first | apply Kd.S_alloc | apply Kd.S_drewN | apply Kd.S_drew)); exact Kd.S_mono (Kd.S_far (p := ⟨gb233, 0, none⟩) (Kd.S_types HO_14.out BK233.out (by decide)) (fun _ hk => hk.2) (.slice A232_0 ((rd_T36 l0 x62_4).f0).length c232_0)) (fun _ hk => hk.1)))⟩; have n2_ : Aside0 (w45.heap[gb233]? = some (.cells #[.slice A232_0 ((rd_T36 l0 x62_4).f0).length c232_0] 36 (0, 0))) := ⟨(by rw [hw]; exact (by (with_reducible repeat (first | refine blk_drewN ?_ _ | refine blk_drew ?_ | refine blk_alloc ?_ _)); refine blk_put (cs := #[.slice none 0 0]) ?_ 0 _ rfl; (with_reducible repeat (first | refine blk_drewN ?_ _ | refine blk_drew ?_ | refine blk_alloc ?_ _)); exact BK233.out))⟩; have n3_ : Aside0 (Below w.heap.size w w45) := ⟨(by rw [hw]; exact (by repeat (first | (with_reducible first | exact HB.out | apply below_alloc | apply pw_below_drewN | apply below_drew1 | refine below_set ?_ GE233.out) | exact HB.out)))⟩; clear hw; clear HO_12; clear HO_14; clear BK233; clear HB; have HO_12 := n0_; have HO_14 := n1_; have BK233 := n2_; have HB := n3_; clear n0_ n1_ n2_ n3_; obtain ⟨Ao46, co46, eo46⟩ := Kd.R_slice HO_12.out; subst eo46; have p234 : 0 ≤ (x62_4 : Int) := of_decide_eq_true (by first | (with_reducible assumption) | assumption); have q234 : x62_4 < (x12_3.length : Int) := of_decide_eq_true (by first | (with_reducible assumption) | assumption); obtain ⟨ad234, e234, hx234_0⟩ := Kd.at_int (Kd.R_reads' HO_12.out).2.2 x62_4 p234 q234; cases e234; replace p234 := eq_true p234; replace q234 := eq_true q234; have hcz47_0 : w45.cell? ⟨gb233, 0, none⟩ = some (.slice A232_0 ((rd_T36 l0 x62_4).f0).length c232_0) := (blk_cell BK233.out 0).trans rfl; have hfz47_0 := blk_frozen BK233.out 0; have p235 : 0 ≤ (x57_3 : Int) := of_decide_eq_true (by first | (with_reducible assumption) | assumption); have q235 : x57_3 < (((rd_T36 l0 x62_4).f0).length : Int) := of_decide_eq_true (by first | (with_reducible assumption) | assumption); obtain ⟨ad235, e235, hx235_0⟩ := Kd.at_int HR232_0.out x57_3 p235 q235; cases e235; replace hx235_0 := (HB.out.cell (World.block_lt_of_cell? w _ hx235_0)).trans hx235_0; replace p235 := eq_true p235; replace q235 := eq_true q235; obtain ⟨Ao48, co48, eo48⟩ := Kd.S_slice HO_14.out; subst eo48; have HE_ := HV122.out; injection HE_ with ea1_ ea2_ ea3_; have HE48 := Aside0.mk ea1_; have LN48 := Aside0.mk ea2_; clear ea1_ ea2_ ea3_; have p236 : 0 ≤ ((ji38) : Int) := of_decide_eq_true (by first | (with_reducible assumption) | assumption); have q236 : (ji38) < (x14_4.length : Int) := of_decide_eq_true (by first | (with_reducible assumption) | assumption); obtain ⟨ad236, A236_0, c236_0, e236, hx236_0, hl236_0, hi236_0⟩ := at_L2 (Kd.S_reads' HO_14.out).2.2 (ji38) p236 q236; cases e236; obtain ⟨ce236, hce236, hMe236, hcc236⟩ := Kd.S_get HO_14.out [] (ji38) p236 (by first | exact q236 | exact of_decide_eq_true (by first | (with_reducible assumption) | assumption) | (have e_ := (Kd.S_reads' HO_14.out).1; omega)); obtain ⟨ve236_0, rfl, ge236_0⟩ := hMe236; have hv236_0 := hcc236 0 _ rfl; rw [Nat.add_zero, show ((Kd.slice 3 (Kd.int .i64))).sz = 1 from rfl, Nat.mul_one] at hv236_0; replace hv236_0 := Option.some.inj (hv236_0.symm.trans hx236_0); rw [hv236_0] at ge236_0; have HL236_0 := Aside0.mk (show Kd.R (Kd.int .i64) 3 _ _ _ _ (rd_L2 x14_4 (ji38)) from ge236_0); clear hv236_0 ge236_0; have HX236_0 := Aside0.mk hx236_0; clear hcc236 hce236; have HR236_0 := Aside0.mk hi236_0; have HC236_0 := Aside0.mk hl236_0; clear hi236_0 hl236_0; replace p236 := eq_true p236; replace q236 := eq_true q236; obtain ⟨go49, co49, eo49, gb49, gl49, cl49, HG49⟩ := Kd.S_form HO_14.out (by have h_ : ((ji38) : Int) < ((x14_4.length : Int) : Int) := of_decide_eq_true (by first | (with_reducible assumption) | assumption); have h2_ : 0 ≤ ((ji38) : Int) := (of_decide_eq_true (by first | (with_reducible assumption) | assumption)); omega); (first | cases eo49 | (injection eo49 with ea_ en_ ec_; (first | subst ea_ | (injection ea_ with ea_; subst ea_)); subst ec_; clear en_)); have hE_ := HE48.out; injection hE_ with hE_; injection hE_ with hE_; subst hE_; have a16_ : ji38 < 16 := (by have h_ : ((ji38) : Int) < ((x14_4.length : Int) : Int) := of_decide_eq_true (by first | (with_reducible assumption) | assumption); have := LN48.out; omega); have a16b_ : decide (ji38 < 16) = true := decide_eq_true a16_; have GB49 := Aside0.mk gb49; have GG49 := Aside0.mk HG49; clear gb49 gl49 HG49; (first | simp only [add_plain] at hx236_0 | skip); obtain ⟨oki49, ce49, hcl49, hM49, hcc49, _, _, hH49⟩ := Kd.S_elem HO_14.out [] ((ji38) : Int) (of_decide_eq_true (by first | (with_reducible assumption) | assumption)) (by have h_ : ((ji38) : Int) < ((x14_4.length : Int) : Int) := of_decide_eq_true (by first | (with_reducible assumption) | assumption); first | exact h_ | (have e_ := (Kd.S_reads' HO_14.out).1; omega) | simpa using h_); obtain ⟨ve49_0, rfl, ge49_0⟩ := hM49; have hv49 := hcc49 0 _ rfl; have hX49 := HX236_0.out; (try simp only [add_plain] at hX49); (try simp only [Nat.add_zero] at hv49); (try rw [show ((Kd.slice 3 (Kd.int .i64))).sz = 1 from rfl, Nat.mul_one] at hv49); replace hv49 := Option.some.inj (hv49.symm.trans hX49); subst hv49; clear hX49 hcc49 hcl49; have UU49 := Aside0.mk (show Kd.R (Kd.int .i64) 3 _ w.heap.size oki49 (.slice A236_0 (rd_L2 x14_4 (ji38)).length c236_0) (rd_L2 x14_4 (ji38)) from ge49_0); have HH49 := Aside0.mk hH49; have HN49 := Aside0.mk (Kd.S_reads' HO_14.out).1; clear hH49 ge49_0) | ((with_reducible refine gate_builtin (b := .append) (xs := #[.tmp 89, .tmp 91]) rfl ?_); (try (refine gate_guard (by rfl) ?_; dsimp only)); at_builtin; refine Kd.R_append (Kd.int .i64) (w0 := w) w.heap.size rfl (.tmp 89) (.tmp 91) 27 3 (.int .i64 0) 8 rfl Try.underlying27 info3 rfl (by decide) (by omega) (.slice A236_0 (rd_L2 x14_4 (ji38)).length c236_0) (rd_L2 x14_4 (ji38)) x62_4 [.int .i64 x62_4] (fun k_ => oki49 k_ ∨ ((fun k_ => some k_ ≠ (.slice (some ad234) x12_3.length co46 : Value).ownBlock)) k_ ∧ w45.heap.size ≤ k_) (fun _ => False) rfl rfl ?aP (fun _ hk => hk.elim) ?aF ?aO ?aB ?aS ?aL ?_; (case aP => exact rfl); (case aB => exact (by repeat (first | (with_reducible first | exact HB.out | apply below_alloc | apply pw_below_drewN | apply below_drew1 | refine below_set ?_ GE233.out) | exact HB.out))); (case aF => exact (fun k_ hk => .inr ⟨Kd.fresh' (Kd.R_lt (by (with_reducible repeat (first | apply Kd.R_alloc | apply Kd.R_drewN | apply Kd.R_drew)); exact HO_12.out)) k_ hk, hk⟩)); (case aO => exact (by (with_reducible repeat (first | apply Kd.R_alloc | apply Kd.R_drewN | apply Kd.R_drew)); exact Kd.R_mono UU49.out (fun _ hk => .inl hk))); (case aS => exact (below_size (by repeat (first | (with_reducible first | exact HB.out | apply below_alloc | apply pw_below_drewN | apply below_drew1 | refine below_set ?_ GE233.out) | exact HB.out)))); (case aL => have := LMc41.out; omega); intro v238 w50 ho hb hg hat; rw [← Ny237.out] at ho; have n0_ := Aside0.mk (Kd.R_grown2 (by (with_reducible repeat (first | apply Kd.R_alloc | apply Kd.R_drewN | apply Kd.R_drew)); exact HO_12.out) rfl hg (fun k_ e_ => (HL236_0.out.1 k_ e_).1)); have n1_ := Aside0.mk (blk_grown (g := gb233) (o := .cells #[.slice (some ad235) ((rd_T36 l0 x62_4).f0).length c232_0] 36 (0, 0)) (by (with_reducible repeat (first | refine blk_drewN ?_ _ | refine blk_drew ?_ | refine blk_alloc ?_ _)); exact BK233.out) hg (Kd.R_ne HL236_0.out BK233.out (by decide))); have n2_ := Aside0.mk (hb); have n3_ := Aside0.mk (Kd.H_grown (Kd.H_widen (by repeat (first | exact HH49.out | refine Kd.H_alloc ?_ _ | refine Kd.H_drewN ?_ _ | refine Kd.H_drew ?_))) hg (fun k_ e_ => .inl (UU49.out.1 k_ e_))); have n4_ := Aside0.mk (ho); clear HO_12; clear BK233; clear HB; clear HH49; clear HO_14; clear UU49; clear HL236_0; have HO_12 := n0_; have BK233 := n1_; have HB := n2_; have HH49 := n3_; have HO239 := n4_; clear n0_ n1_ n2_ n3_ n4_; clear ho hb hg hat; have p42 : 0 ≤ ((ji38) : Int) := of_decide_eq_true (by first | (with_reducible assumption) | assumption); have q42 : ((ji38) : Int) < ((x14_4.length : Int) : Int) := of_decide_eq_true (by first | (with_reducible assumption) | assumption); replace p42 := eq_true p42; replace q42 := eq_true q42; obtain ⟨Ao53, co53, eo53⟩ := Kd.R_slice HO239.out; subst eo53; obtain ⟨_, _, hraw51, _, _, hcc51, _⟩ := Kd.H_raw HH49.out (of_decide_eq_true (by first | (with_reducible assumption) | assumption)) (by have h_ : ((ji38) : Int) < ((x14_4.length : Int) : Int) := of_decide_eq_true (by first | (with_reducible assumption) | assumption); first | exact h_ | (have e_ := (HN49.out); omega) | simpa using h_); obtain ⟨_, hfr51⟩ := Kd.H_at HH49.out (of_decide_eq_true (by first | (with_reducible assumption) | assumption)) (by have h_ : ((ji38) : Int) < ((x14_4.length : Int) : Int) := of_decide_eq_true (by first | (with_reducible assumption) | assumption); first | exact h_ | (have e_ := (HN49.out); omega) | simpa using h_); have hx51_0 := hcc51 0 _ rfl; have hf51_0 := hfr51 0; (try simp only [Nat.add_zero] at hx51_0 hf51_0); (try rw [show ((Kd.slice 3 (Kd.int .i64))).sz = 1 from rfl, Nat.mul_one] at hx51_0); (try rw [show ((Kd.slice 3 (Kd.int .i64))).sz = 1 from rfl, Nat.mul_one] at hf51_0); have HP51 := Kd.S_seg0 HH49.out (of_decide_eq_true (by first | (with_reducible assumption) | assumption)) (by have h_ : ((ji38) : Int) < ((x14_4.length : Int) : Int) := of_decide_eq_true (by first | (with_reducible assumption) | assumption); first | exact h_ | (have e_ := (HN49.out); omega) | simpa using h_) (seg := [.slice Ao53 y237.length co53]) (j := 0) (show 1 ≤ 1 from by decide) (x' := y237) (Kd.M_row HO239.out) (fun _ hk => hk); (try simp only [show ((Kd.slice 3 (Kd.int .i64))).sz = 1 from rfl, Nat.mul_one, Nat.add_zero] at HP51); clear hcc51 hfr51) | ((with_reducible refine gate_store (t := 27) (p := 93) rfl ?_); refine store_event (t := 27) (p := 93) (v := ?vo_w52) (w1 := (w50.setCell ⟨go49, ((ji38) : Int).toNat, none⟩ (.slice Ao53 y237.length co53))) ?hg ?ho ?hn ?hr ?_; (case ho => rfl); (case hg => rfl); (case hn => rfl); (case hr => first | (go_simp; done) | (go_simp; rfl)); intro w52 hw; have hg : w50.grownBy w52 (some go49) := (by rw [hw]; exact HP51.2); have hp_ : Kd.S (Kd.slice 3 (Kd.int .i64)) 51 w52 w.heap.size (fun k_ => some k_ ≠ (.slice (some ad234) x12_3.length co46 : Value).ownBlock) (.slice (some ⟨go49, 0, none⟩) x14_4.length co48) y240 := (by rw [hw, Ny240.out]; exact HP51.1); clear HP51; have n0_ := Aside0.mk (Kd.R_over' (v := (.slice (some ⟨go49, 0, none⟩) x14_4.length co48)) (by (with_reducible repeat (first | apply Kd.R_alloc | apply Kd.R_drewN | apply Kd.R_drew)); exact HO_12.out) (Kd.R_typed hraw51) (by decide) hg); have n1_ := Aside0.mk (blk_grown (g := gb233) (o := .cells #[.slice (some ad235) ((rd_T36 l0 x62_4).f0).length c232_0] 36 (0, 0)) (by (with_reducible repeat (first | refine blk_drewN ?_ _ | refine blk_drew ?_ | refine blk_alloc ?_ _)); exact BK233.out) hg (Kd.R_ne hraw51 BK233.out (by decide))); have n2_ := Aside0.mk ((by rw [hw]; exact below_set HB.out GB49.out : Below w.heap.size w w52)); have n3_ := Aside0.mk (hp_); clear HO_12; clear BK233; clear HB; clear HO239; clear HH49; have HO_12 := n0_; have BK233 := n1_; have HB := n2_; have HO_14 := n3_; clear n0_ n1_ n2_ n3_; clear hg hw hp_ hraw51))
                                                go_roundg k4
                                                case measure => have := HJ3.out; have := HK2.out; have := HK3.out; have := HK4.out; omega
                                                case rel => exact ⟨(y240), (wrap64 (x62_4 + 1)), (by first | rfl | (simp; done) | (simp [*]; done)), H', ⟨by have := HJ3.out; have := HK2.out; have := HK3.out; have := HK4.out; omega⟩, ⟨by (with_reducible repeat (first | apply Kd.R_alloc | apply Kd.R_drewN | apply Kd.R_drew)); exact HO_12.out⟩, ⟨by (with_reducible repeat (first | apply Kd.S_alloc | apply Kd.S_drewN | apply Kd.S_drew)); exact HO_14.out⟩, ⟨by repeat (first | (with_reducible first | exact HB.out | apply below_alloc | apply pw_below_drewN | apply below_drew1 | refine below_set ?_ GE233.out) | exact HB.out)⟩⟩
                                              · rw [if_neg c41] at H
                                                exact absurd H (by simp)
                                            · rw [if_neg c40] at H
                                              exact absurd H (by simp)
                                          · rw [if_neg c39] at H
                                            exact absurd H (by simp)
                                      · rw [if_neg c36] at H
                                        exact absurd H (by simp)
                                    · rw [if_neg c35] at H
                                      have c35b0 : decide (x57_3 < (((rd_T36 l0 x62_4).f0).length : Int)) = false := decide_eq_false c35
                                      clear c35
                                      have H' := Aside0.mk H
                                      clear H
                                      have p232 : 0 ≤ (x62_4 : Int) := of_decide_eq_true (by first | (with_reducible assumption) | assumption)
                                      have q232 : x62_4 < (l0.length : Int) := of_decide_eq_true (by first | (with_reducible assumption) | assumption)
                                      obtain ⟨ad232, A232_0, c232_0, e232, hx232_0, hl232_0, hi232_0⟩ := at_T36 HR0.out x62_4 p232 q232
                                      cases e232
                                      try (replace hx232_0 := (HB.out.cell (World.block_lt_of_cell? w _ hx232_0)).trans hx232_0)
                                      have HR232_0 := Aside0.mk hi232_0
                                      have HC232_0 := Aside0.mk hl232_0
                                      clear hi232_0 hl232_0
                                      replace p232 := eq_true p232
                                      replace q232 := eq_true q232
                                      go_wp2_with (first | ((with_reducible refine gate_dst (N := 16) rfl ?_); (try (refine gate_guard (by rfl) ?_; dsimp only)); refine box_event ?hg (N := 16) ?hd (cs := #[.slice none 0 0]) (t := 36) ?hr ?_; (case hd => rfl); (case hg => rfl); (case hr => first | (go_simp; done) | (go_simp; rfl)); intro gb233 hg w54 hbox hb; have n0_ := Aside0.mk (Kd.R_below (by (with_reducible repeat (first | apply Kd.R_alloc | apply Kd.R_drewN | apply Kd.R_drew)); exact HO_12.out) hb); have n1_ := Aside0.mk (Kd.S_below (by (with_reducible repeat (first | apply Kd.S_alloc | apply Kd.S_drewN | apply Kd.S_drew)); exact HO_14.out) hb); have n2_ := Aside0.mk (below_step (by repeat (first | (with_reducible first | exact HB.out | apply below_alloc | apply pw_below_drewN | apply below_drew1) | exact HB.out)) hb); have n3_ := Aside0.mk (hbox); have n4_ := Aside0.mk ((by rw [hg]; exact (below_size (by repeat (first | (with_reducible first | exact HB.out | apply below_alloc | apply pw_below_drewN | apply below_drew1) | exact HB.out))) : w.heap.size ≤ gb233)); have n5_ := Aside0.mk ((by rw [hg]; exact (below_size (by repeat (first | (with_reducible first | exact HB.out | apply below_alloc | apply pw_below_drewN | apply below_drew1) | exact HB.out))) : w.heap.size ≤ gb233)); clear HO_12; clear HO_14; clear HB; have HO_12 := n0_; have HO_14 := n1_; have HB := n2_; have BK233 := n3_; have GW233 := n4_; have GE233 := n5_; clear n0_ n1_ n2_ n3_ n4_ n5_; clear hb hbox hg; have hcz55_0 : w54.cell? ⟨gb233, 0, none⟩ = some (.slice none 0 0) := (blk_cell BK233.out 0).trans rfl; have hfz55_0 := blk_frozen BK233.out 0; obtain ⟨Ao56, co56, eo56⟩ := Kd.R_slice HO_12.out; subst eo56; have p234 : 0 ≤ (x62_4 : Int) := of_decide_eq_true (by first | (with_reducible assumption) | assumption); have q234 : x62_4 < (x12_3.length : Int) := of_decide_eq_true (by first | (with_reducible assumption) | assumption); obtain ⟨ad234, e234, hx234_0⟩ := Kd.at_int (Kd.R_reads' HO_12.out).2.2 x62_4 p234 q234; cases e234; have hn234_0 : ad234.block ≠ gb233 := Kd.own_blk (Kd.R_ne HO_12.out BK233.out (by decide)); replace hx234_0 := (cell_far (p := ⟨gb233, 0, none⟩) (by first | (rw [add_block]; exact hn234_0) | (show (Addr.add _ _).block ≠ _; rw [add_block]; exact hn234_0) | exact hn234_0) (.slice A232_0 ((rd_T36 l0 x62_4).f0).length c232_0)).trans hx234_0; clear hn234_0; replace p234 := eq_true p234; replace q234 := eq_true q234))
                                      go_roundg k4
                                      case measure => have := HJ3.out; have := HK2.out; have := HK3.out; have := HK4.out; omega
                                      case rel => exact ⟨(x14_4), (wrap64 (x62_4 + 1)), (by first | rfl | (simp; done) | (simp [*]; done)), H', ⟨by have := HJ3.out; have := HK2.out; have := HK3.out; have := HK4.out; omega⟩, ⟨by (with_reducible repeat (first | apply Kd.R_alloc | apply Kd.R_drewN | apply Kd.R_drew)); exact Kd.R_mono (Kd.R_far (p := ⟨gb233, 0, none⟩) (Kd.R_types HO_12.out BK233.out (by decide)) (fun _ hk => hk.2) (.slice A232_0 ((rd_T36 l0 x62_4).f0).length c232_0)) (fun _ hk => trivial)⟩, ⟨by (with_reducible repeat (first | apply Kd.S_alloc | apply Kd.S_drewN | apply Kd.S_drew)); exact Kd.S_mono (Kd.S_far (p := ⟨gb233, 0, none⟩) (Kd.S_types HO_14.out BK233.out (by decide)) (fun _ hk => hk.2) (.slice A232_0 ((rd_T36 l0 x62_4).f0).length c232_0)) (fun _ hk => hk.1)⟩, ⟨by repeat (first | (with_reducible first | exact HB.out | apply below_alloc | apply pw_below_drewN | apply below_drew1 | refine below_set ?_ GE233.out) | exact HB.out)⟩⟩
                                  · rw [if_neg c34] at H
                                    have c34b0 : decide ((rd x12_3 x62_4) < 0) = false := decide_eq_false c34
                                    clear c34
                                    have H' := Aside0.mk H
                                    clear H
                                    have p232 : 0 ≤ (x62_4 : Int) := of_decide_eq_true (by first | (with_reducible assumption) | assumption)
                                    have q232 : x62_4 < (l0.length : Int) := of_decide_eq_true (by first | (with_reducible assumption) | assumption)
                                    obtain ⟨ad232, A232_0, c232_0, e232, hx232_0, hl232_0, hi232_0⟩ := at_T36 HR0.out x62_4 p232 q232
                                    cases e232
                                    try (replace hx232_0 := (HB.out.cell (World.block_lt_of_cell? w _ hx232_0)).trans hx232_0)
                                    have HR232_0 := Aside0.mk hi232_0
                                    have HC232_0 := Aside0.mk hl232_0
                                    clear hi232_0 hl232_0
                                    replace p232 := eq_true p232
                                    replace q232 := eq_true q232
                                    go_wp2_with (first | ((with_reducible refine gate_dst (N := 16) rfl ?_); (try (refine gate_guard (by rfl) ?_; dsimp only)); refine box_event ?hg (N := 16) ?hd (cs := #[.slice none 0 0]) (t := 36) ?hr ?_; (case hd => rfl); (case hg => rfl); (case hr => first | (go_simp; done) | (go_simp; rfl)); intro gb233 hg w57 hbox hb; have n0_ := Aside0.mk (Kd.R_below (by (with_reducible repeat (first | apply Kd.R_alloc | apply Kd.R_drewN | apply Kd.R_drew)); exact HO_12.out) hb); have n1_ := Aside0.mk (Kd.S_below (by (with_reducible repeat (first | apply Kd.S_alloc | apply Kd.S_drewN | apply Kd.S_drew)); exact HO_14.out) hb); have n2_ := Aside0.mk (below_step (by repeat (first | (with_reducible first | exact HB.out | apply below_alloc | apply pw_below_drewN | apply below_drew1) | exact HB.out)) hb); have n3_ := Aside0.mk (hbox); have n4_ := Aside0.mk ((by rw [hg]; exact (below_size (by repeat (first | (with_reducible first | exact HB.out | apply below_alloc | apply pw_below_drewN | apply below_drew1) | exact HB.out))) : w.heap.size ≤ gb233)); have n5_ := Aside0.mk ((by rw [hg]; exact (below_size (by repeat (first | (with_reducible first | exact HB.out | apply below_alloc | apply pw_below_drewN | apply below_drew1) | exact HB.out))) : w.heap.size ≤ gb233)); clear HO_12; clear HO_14; clear HB; have HO_12 := n0_; have HO_14 := n1_; have HB := n2_; have BK233 := n3_; have GW233 := n4_; have GE233 := n5_; clear n0_ n1_ n2_ n3_ n4_ n5_; clear hb hbox hg; have hcz58_0 : w57.cell? ⟨gb233, 0, none⟩ = some (.slice none 0 0) := (blk_cell BK233.out 0).trans rfl; have hfz58_0 := blk_frozen BK233.out 0; obtain ⟨Ao59, co59, eo59⟩ := Kd.R_slice HO_12.out; subst eo59; have p234 : 0 ≤ (x62_4 : Int) := of_decide_eq_true (by first | (with_reducible assumption) | assumption); have q234 : x62_4 < (x12_3.length : Int) := of_decide_eq_true (by first | (with_reducible assumption) | assumption); obtain ⟨ad234, e234, hx234_0⟩ := Kd.at_int (Kd.R_reads' HO_12.out).2.2 x62_4 p234 q234; cases e234; have hn234_0 : ad234.block ≠ gb233 := Kd.own_blk (Kd.R_ne HO_12.out BK233.out (by decide)); replace hx234_0 := (cell_far (p := ⟨gb233, 0, none⟩) (by first | (rw [add_block]; exact hn234_0) | (show (Addr.add _ _).block ≠ _; rw [add_block]; exact hn234_0) | exact hn234_0) (.slice A232_0 ((rd_T36 l0 x62_4).f0).length c232_0)).trans hx234_0; clear hn234_0; replace p234 := eq_true p234; replace q234 := eq_true q234))
                                    go_roundg k4
                                    case measure => have := HJ3.out; have := HK2.out; have := HK3.out; have := HK4.out; omega
                                    case rel => exact ⟨(x14_4), (wrap64 (x62_4 + 1)), (by first | rfl | (simp; done) | (simp [*]; done)), H', ⟨by have := HJ3.out; have := HK2.out; have := HK3.out; have := HK4.out; omega⟩, ⟨by (with_reducible repeat (first | apply Kd.R_alloc | apply Kd.R_drewN | apply Kd.R_drew)); exact Kd.R_mono (Kd.R_far (p := ⟨gb233, 0, none⟩) (Kd.R_types HO_12.out BK233.out (by decide)) (fun _ hk => hk.2) (.slice A232_0 ((rd_T36 l0 x62_4).f0).length c232_0)) (fun _ hk => trivial)⟩, ⟨by (with_reducible repeat (first | apply Kd.S_alloc | apply Kd.S_drewN | apply Kd.S_drew)); exact Kd.S_mono (Kd.S_far (p := ⟨gb233, 0, none⟩) (Kd.S_types HO_14.out BK233.out (by decide)) (fun _ hk => hk.2) (.slice A232_0 ((rd_T36 l0 x62_4).f0).length c232_0)) (fun _ hk => hk.1)⟩, ⟨by repeat (first | (with_reducible first | exact HB.out | apply below_alloc | apply pw_below_drewN | apply below_drew1 | refine below_set ?_ GE233.out) | exact HB.out)⟩⟩
                                · rw [if_neg c33] at H
                                  exact absurd H (by simp)
                              · rw [if_neg c32] at H
                                exact absurd H (by simp)
                            · rw [if_neg c31] at H
                              exact absurd H (by simp)
                          · rw [if_neg c30] at H
                            have c30b0 : decide (x62_4 < (l0.length : Int)) = false := decide_eq_false c30
                            clear c30
                            have H' := Aside0.mk H
                            clear H
                            have HS_ := HO_14.out
                            rw [HV122.out] at HS_
                            obtain ⟨cur_, hcur_, hcs_, hln_⟩ := Go.Proofs.Ytheinelpeapleaa.HandArr.S_block HS_
                            have BKA := Aside0.mk hcur_
                            have CSA := Aside0.mk (show (Try.prog.info? 51).map (·.size) = some cur_.size from (show (Try.prog.info? 51).map (·.size) = some 16 by kernel_rfl).trans (by rw [hcs_]))
                            clear HS_ hcur_ hcs_ hln_
                            go_wp2_with (first | ((with_reducible refine gate_dst (N := 95) rfl ?_); refine wpList_load_row rfl 51 (.tmp 14) rfl gb230 rfl 51 cur_ (0, 0) _ BKA.out Try.underlying51 rfl CSA.out ?_))
                            go_loopg [96] k4 (fun kq v96 w' => ∃ (x12_5 : List Int) (x96_5 : Int), v96 = .int .i64 x96_5 ∧ Aside0 (impl_Contend.l4 kq l0 a1 x12_5 x57_3 a2 x57_3 x14_4 x96_5 = some (r1, r2)) ∧ Aside0 (kq ≤ k4) ∧ Aside0 (Kd.R (Kd.int .i64) 3 w' w.heap.size (fun _ => True) v227 x12_5) ∧ Aside0 (Kd.S (Kd.slice 3 (Kd.int .i64)) 51 w' w.heap.size (fun k_ => some k_ ≠ (v227 : Value).ownBlock) v230 x14_4) ∧ Aside0 (w'.heap[gb230]? = some (.cells cur_ 51 (0, 0))) ∧ Aside0 (Below w.heap.size w w'))
                            case atStart => exact ⟨(x12_3), (0), (by first | rfl | (simp; done) | (simp [*]; done)), H', ⟨Nat.le_refl _⟩, ⟨by (with_reducible repeat (first | apply Kd.R_alloc | apply Kd.R_drewN | apply Kd.R_drew)); exact HO_12.out⟩, ⟨by (with_reducible repeat (first | apply Kd.S_alloc | apply Kd.S_drewN | apply Kd.S_drew)); exact HO_14.out⟩, ⟨by (with_reducible repeat (first | refine blk_drewN ?_ _ | refine blk_drew ?_ | refine blk_alloc ?_ _)); exact BKA.out⟩, ⟨by repeat (first | (with_reducible first | exact HB.out | apply below_alloc | apply pw_below_drewN | apply below_drew1) | exact HB.out)⟩⟩
                            case round =>
                              clear H'
                              try clear c1
                              try clear c2
                              try clear p2
                              try clear q2
                              try clear hx2
                              try clear c3
                              try clear c4
                              try clear p4
                              try clear q4
                              try clear c5
                              try clear hx5
                              try clear hf5
                              try clear c6
                              try clear p6
                              try clear c8
                              try clear c10
                              try clear c11
                              try clear c11b0
                              try clear c12
                              try clear c12b0
                              try clear c13
                              try clear c13b0
                              try clear c16
                              try clear c16b0
                              try clear c17
                              try clear c17b0
                              try clear c18
                              try clear c18b0
                              try clear c20
                              try clear c21
                              try clear p21
                              try clear q21
                              try clear hx21
                              try clear p22
                              try clear q22
                              try clear hx22
                              try clear c23
                              try clear p23
                              try clear q23
                              try clear hx23
                              try clear c24
                              try clear c26
                              try clear c26b0
                              try clear c27
                              try clear c27b0
                              try clear c27b1
                              try clear c30
                              try clear c30b0
                              try clear c31
                              try clear c31b0
                              try clear c32
                              try clear c32b0
                              try clear c33
                              try clear c33b0
                              try clear c34
                              try clear c34b0
                              try clear c35
                              try clear c35b0
                              try clear c36
                              try clear c36b0
                              try clear c37
                              try clear c37b0
                              try clear c37b1
                              try clear c39
                              try clear c39b0
                              try clear c40
                              try clear c40b0
                              try clear c41
                              try clear p42
                              try clear q42
                              try clear c49
                              try clear c51
                              try clear hx51
                              try clear hf51
                              try clear hcz15_0
                              try clear hcz44_0
                              try clear hcz47_0
                              try clear hcz55_0
                              try clear hcz58_0
                              try clear hfz15_0
                              try clear hfz44_0
                              try clear hfz47_0
                              try clear hfz55_0
                              try clear hfz58_0
                              try clear hx219_0
                              try clear hx221_0
                              try clear hx232_0
                              try clear hx234_0
                              try clear hx235_0
                              try clear hx236_0
                              try clear hx51_0
                              try clear p2
                              try clear p21
                              try clear p219
                              try clear p22
                              try clear p221
                              try clear p232
                              try clear p234
                              try clear p235
                              try clear p236
                              try clear p42
                              try clear p6
                              try clear q2
                              try clear q21
                              try clear q219
                              try clear q22
                              try clear q221
                              try clear q232
                              try clear q234
                              try clear q235
                              try clear q236
                              try clear q42
                              obtain ⟨x12_5, x96_5, rfl, HA, HK5, HO_12, HO_95, BKA, HB⟩ := hrel
                              cases gk with
                              | zero => exact absurd HA.out (by simp [impl_Contend.l4])
                              | succ k5 =>
                                have H := HA.out
                                clear HA
                                simp only [impl_Contend.l4] at H
                                by_cases c60 : x96_5 < 16
                                · rw [if_pos c60] at H
                                  have c60b0 : decide (x96_5 < 16) = true := decide_eq_true c60
                                  clear c60
                                  by_cases c61 : 0 ≤ x96_5
                                  · rw [if_pos c61] at H
                                    have c61b0 : decide (0 ≤ x96_5) = true := decide_eq_true c61
                                    clear c61
                                    by_cases c62 : x96_5 < (x14_4.length : Int)
                                    · rw [if_pos c62] at H
                                      have c62b0 : decide (x96_5 < (x14_4.length : Int)) = true := decide_eq_true c62
                                      clear c62
                                      by_cases c63 : ((rd_L2 x14_4 x96_5).length : Int) = 1
                                      · rw [if_pos c63] at H
                                        have c63b0 : (((rd_L2 x14_4 x96_5).length : Int) == 1) = true := beq_iff_eq.mpr c63
                                        have c63b1 : (((rd_L2 x14_4 x96_5).length : Int) != 1) = false := bne_eq_false_iff_eq.mpr c63
                                        clear c63
                                        by_cases c64 : 0 < ((rd_L2 x14_4 x96_5).length : Int)
                                        · rw [if_pos c64] at H
                                          have c64b0 : decide (0 < ((rd_L2 x14_4 x96_5).length : Int)) = true := decide_eq_true c64
                                          have c64b1 : decide (0 < (rd_L2 x14_4 x96_5).length) = true := decide_eq_true (by omega)
                                          clear c64
                                          by_cases c65 : 0 ≤ (rd (rd_L2 x14_4 x96_5) 0)
                                          · rw [if_pos c65] at H
                                            have c65b0 : decide (0 ≤ (rd (rd_L2 x14_4 x96_5) 0)) = true := decide_eq_true c65
                                            clear c65
                                            by_cases c66 : (rd (rd_L2 x14_4 x96_5) 0) < (x12_5.length : Int)
                                            · rw [if_pos c66] at H
                                              have c66b0 : decide ((rd (rd_L2 x14_4 x96_5) 0) < (x12_5.length : Int)) = true := decide_eq_true c66
                                              clear c66
                                              obtain ⟨y243, hy243⟩ : ∃ y_ : List Int, y_ = (x12_5.set ((rd (rd_L2 x14_4 x96_5) 0) : Int).toNat x57_3) := ⟨_, rfl⟩
                                              replace H : (impl_Contend.l4 k5 l0 a1 y243 x57_3 a2 x57_3 x14_4 (wrap64 (x96_5 + 1))) = some (r1, r2) := by first | (rw [hy243]; with_reducible exact H) | (have H2_ := (Option.bind_some _ _).symm.trans H; rw [hy243]; with_reducible exact H2_) | (have H2_ := (Option.bind_some _ _).symm.trans H; with_reducible exact H2_) | with_reducible exact H | (rw [hy243]; exact H) | exact H
                                              have Ny243 := Aside0.mk hy243
                                              clear hy243
                                              have H' := Aside0.mk H
                                              clear H
                                              obtain ⟨Ao68, co68, eo68⟩ := Kd.S_slice HO_95.out
                                              subst eo68
                                              have HE_ := HV122.out
                                              injection HE_ with ea1_ ea2_ ea3_
                                              have HE68 := Aside0.mk ea1_
                                              clear ea1_ ea2_ ea3_
                                              have p241 : 0 ≤ (x96_5 : Int) := of_decide_eq_true (by first | (with_reducible assumption) | assumption)
                                              have q241 : x96_5 < (x14_4.length : Int) := of_decide_eq_true (by first | (with_reducible assumption) | assumption)
                                              obtain ⟨ad241, A241_0, c241_0, e241, hx241_0, hl241_0, hi241_0⟩ := at_L2 (Kd.S_reads' HO_95.out).2.2 x96_5 p241 q241
                                              cases e241
                                              have hE_ := HE68.out
                                              injection hE_ with hE_
                                              have HCI := Aside0.mk (show cur_[(x96_5 : Int).toNat]? = some (.slice A241_0 (rd_L2 x14_4 x96_5).length c241_0) from (blk_cell BKA.out _).symm.trans (by have h_ := hx241_0; rw [hE_] at h_; simp only [add_plain, Nat.zero_add, Nat.mul_one] at h_; exact h_))
                                              clear hE_
                                              have P0_ := Aside0.mk (show 0 ≤ (x96_5 : Int) from of_decide_eq_true (by first | (with_reducible assumption) | assumption))
                                              have P1_ := Aside0.mk (show (x96_5 : Int) < 16 from of_decide_eq_true (by first | (with_reducible assumption) | assumption))
                                              obtain ⟨ce241, hce241, hMe241, hcc241⟩ := Kd.S_get HO_95.out [] x96_5 p241 (by first | exact q241 | exact of_decide_eq_true (by first | (with_reducible assumption) | assumption) | (have e_ := (Kd.S_reads' HO_95.out).1; omega))
                                              obtain ⟨ve241_0, rfl, ge241_0⟩ := hMe241
                                              have hv241_0 := hcc241 0 _ rfl
                                              rw [Nat.add_zero, show ((Kd.slice 3 (Kd.int .i64))).sz = 1 from rfl, Nat.mul_one] at hv241_0
                                              replace hv241_0 := Option.some.inj (hv241_0.symm.trans hx241_0)
                                              rw [hv241_0] at ge241_0
                                              have HL241_0 := Aside0.mk (show Kd.R (Kd.int .i64) 3 _ _ _ _ (rd_L2 x14_4 x96_5) from ge241_0)
                                              clear hv241_0 ge241_0
                                              have HX241_0 := Aside0.mk hx241_0
                                              clear hcc241 hce241
                                              have HR241_0 := Aside0.mk hi241_0
                                              have HC241_0 := Aside0.mk hl241_0
                                              clear hi241_0 hl241_0
                                              replace p241 := eq_true p241
                                              replace q241 := eq_true q241
                                              have p242 : 0 ≤ (0 : Int) := (by omega)
                                              have q242 : 0 < ((rd_L2 x14_4 x96_5).length : Int) := of_decide_eq_true (by first | (with_reducible assumption) | assumption)
                                              obtain ⟨ad242, e242, hx242_0⟩ := Kd.at_int (by repeat (first | (with_reducible exact HR241_0.out) | (with_reducible refine Kd.C_alloc ?_ _) | (with_reducible refine Kd.C_drewN ?_ _) | (with_reducible refine Kd.C_drew ?_) | exact HR241_0.out)) 0 p242 q242
                                              cases e242
                                              have qi242 : (0 < (rd_L2 x14_4 x96_5).length) = True := eq_true (by omega)
                                              (try rw [show ((0 : Int)).toNat = 0 from rfl] at hx242_0)
                                              (try rw [Addr.add_zero'] at hx242_0)
                                              replace p242 := eq_true p242
                                              replace q242 := eq_true q242
                                              have p67 : 0 ≤ ((rd (rd_L2 x14_4 x96_5) 0) : Int) := of_decide_eq_true (by first | (with_reducible assumption) | assumption)
                                              have q67 : ((rd (rd_L2 x14_4 x96_5) 0) : Int) < ((x12_5.length : Int) : Int) := of_decide_eq_true (by first | (with_reducible assumption) | assumption)
                                              obtain ⟨go67, co67, eo67, gb67, gl67, cl67, HG67⟩ := Kd.R_form HO_12.out (by omega)
                                              (first | cases eo67 | (injection eo67 with ea_ en_ ec_; (first | subst ea_ | (injection ea_ with ea_; subst ea_)); subst ec_; clear en_))
                                              have GB67 := Aside0.mk gb67
                                              have GG67 := Aside0.mk HG67
                                              clear gb67 gl67 HG67
                                              obtain ⟨hx67_0, hf67_0⟩ := Kd.R_celln 0 HO_12.out ((rd (rd_L2 x14_4 x96_5) 0) : Int) p67 q67
                                              replace p67 := eq_true p67
                                              replace q67 := eq_true q67
                                              have HP69 := Kd.R_putg HO_12.out ((rd (rd_L2 x14_4 x96_5) 0) : Int) x57_3
                                              go_wp2_with (first | ((with_reducible refine gate_dst (N := 98) rfl ?_); refine Go.Proofs.Ytheinelpeapleaa.HandArr.index_event rfl (.tmp 95) (.tmp 96) rfl cur_ x96_5 _ rfl rfl P0_.out P1_.out HCI.out ?_) | ((with_reducible refine gate_store (t := 3) (p := 107) rfl ?_); refine store_event (t := 3) (p := 107) (v := ?vo_w70) (w1 := (wr.setCell ⟨go67, ((rd (rd_L2 x14_4 x96_5) 0) : Int).toNat, none⟩ (.int .i64 x57_3))) ?hg ?ho ?hn ?hr ?_; (case ho => rfl); (case hg => rfl); (case hn => rfl); (case hr => first | (go_simp; done) | (go_simp; rfl)); intro w70 hw; have hg : wr.grownBy w70 (some go67) := (by rw [hw]; exact HP69.2); have hp_ : Kd.R (Kd.int .i64) 3 w70 w.heap.size (fun _ => True) (.slice (some ⟨go67, 0, none⟩) x12_5.length co67) y243 := (by rw [hw, Ny243.out]; exact HP69.1); clear HP69; have hgA_ := hg; have HOO_ := HO_12; have n0_ := Aside0.mk (hp_); have n1_ := Aside0.mk (Kd.S_after (v := (.slice (some ⟨go67, 0, none⟩) x12_5.length co67)) (v1 := (.slice (some ⟨go67, 0, none⟩) x12_5.length co67)) (ok := (fun _ => True)) (by (with_reducible repeat (first | apply Kd.S_alloc | apply Kd.S_drewN | apply Kd.S_drew)); exact Kd.S_mono HO_95.out (fun _ hk => ⟨trivial, hk⟩)) hg (.inl rfl)); have n2_ := Aside0.mk (Kd.R_after (v := (.slice (some ⟨go67, 0, none⟩) x12_5.length co67)) (v1 := (.slice (some ⟨go67, 0, none⟩) x12_5.length co67)) (ok := (fun k_ => some k_ ≠ (.slice (some ad241) x14_4.length co68 : Value).ownBlock)) (by (with_reducible repeat (first | apply Kd.R_alloc | apply Kd.R_drewN | apply Kd.R_drew)); exact Kd.R_mono HL241_0.out (fun _ hk => ⟨hk.2, hk.1⟩)) hg (.inl rfl)); have n3_ := Aside0.mk ((by rw [hw]; exact below_set (HB.out) GB67.out : Below w.heap.size w w70)); clear HO_12; clear HO_95; clear HL241_0; clear HB; have HO_12 := n0_; have HO_95 := n1_; have HL241_0 := n2_; have HB := n3_; clear n0_ n1_ n2_ n3_; have n4_ := Aside0.mk (blk_grown (g := gb230) (o := .cells cur_ 51 (0, 0)) BKA.out hgA_ (Kd.R_ne HOO_.out BKA.out (by decide))); clear BKA; have BKA := n4_; clear n4_; clear hg hw hp_ hgA_ HOO_))
                                              go_roundg k5
                                              case measure => have := HJ3.out; have := HK2.out; have := HK3.out; have := HK4.out; have := HK5.out; omega
                                              case rel => exact ⟨(y243), (wrap64 (x96_5 + 1)), (by first | rfl | (simp; done) | (simp [*]; done)), H', ⟨by have := HJ3.out; have := HK2.out; have := HK3.out; have := HK4.out; have := HK5.out; omega⟩, ⟨by (with_reducible repeat (first | apply Kd.R_alloc | apply Kd.R_drewN | apply Kd.R_drew)); exact HO_12.out⟩, ⟨by (with_reducible repeat (first | apply Kd.S_alloc | apply Kd.S_drewN | apply Kd.S_drew)); exact Kd.S_mono HO_95.out (fun _ hk => hk.2)⟩, ⟨by (with_reducible repeat (first | refine blk_drewN ?_ _ | refine blk_drew ?_ | refine blk_alloc ?_ _)); exact BKA.out⟩, ⟨by repeat (first | (with_reducible first | exact HB.out | apply below_alloc | apply pw_below_drewN | apply below_drew1) | exact HB.out)⟩⟩
                                            · rw [if_neg c66] at H
                                              exact absurd H (by simp)
                                          · rw [if_neg c65] at H
                                            exact absurd H (by simp)
                                        · rw [if_neg c64] at H
                                          exact absurd H (by simp)
                                      · rw [if_neg c63] at H
                                        have c63b0 : (((rd_L2 x14_4 x96_5).length : Int) == 1) = false := beq_eq_false_iff_ne.mpr c63
                                        have c63b1 : (((rd_L2 x14_4 x96_5).length : Int) != 1) = true := bne_iff_ne.mpr c63
                                        have H' := Aside0.mk H
                                        clear H
                                        obtain ⟨Ao71, co71, eo71⟩ := Kd.S_slice HO_95.out
                                        subst eo71
                                        have HE_ := HV122.out
                                        injection HE_ with ea1_ ea2_ ea3_
                                        have HE68 := Aside0.mk ea1_
                                        clear ea1_ ea2_ ea3_
                                        have p241 : 0 ≤ (x96_5 : Int) := of_decide_eq_true (by first | (with_reducible assumption) | assumption)
                                        have q241 : x96_5 < (x14_4.length : Int) := of_decide_eq_true (by first | (with_reducible assumption) | assumption)
                                        obtain ⟨ad241, A241_0, c241_0, e241, hx241_0, hl241_0, hi241_0⟩ := at_L2 (Kd.S_reads' HO_95.out).2.2 x96_5 p241 q241
                                        cases e241
                                        have hE_ := HE68.out
                                        injection hE_ with hE_
                                        have HCI := Aside0.mk (show cur_[(x96_5 : Int).toNat]? = some (.slice A241_0 (rd_L2 x14_4 x96_5).length c241_0) from (blk_cell BKA.out _).symm.trans (by have h_ := hx241_0; rw [hE_] at h_; simp only [add_plain, Nat.zero_add, Nat.mul_one] at h_; exact h_))
                                        clear hE_
                                        have P0_ := Aside0.mk (show 0 ≤ (x96_5 : Int) from of_decide_eq_true (by first | (with_reducible assumption) | assumption))
                                        have P1_ := Aside0.mk (show (x96_5 : Int) < 16 from of_decide_eq_true (by first | (with_reducible assumption) | assumption))
                                        obtain ⟨ce241, hce241, hMe241, hcc241⟩ := Kd.S_get HO_95.out [] x96_5 p241 (by first | exact q241 | exact of_decide_eq_true (by first | (with_reducible assumption) | assumption) | (have e_ := (Kd.S_reads' HO_95.out).1; omega))
                                        obtain ⟨ve241_0, rfl, ge241_0⟩ := hMe241
                                        have hv241_0 := hcc241 0 _ rfl
                                        rw [Nat.add_zero, show ((Kd.slice 3 (Kd.int .i64))).sz = 1 from rfl, Nat.mul_one] at hv241_0
                                        replace hv241_0 := Option.some.inj (hv241_0.symm.trans hx241_0)
                                        rw [hv241_0] at ge241_0
                                        have HL241_0 := Aside0.mk (show Kd.R (Kd.int .i64) 3 _ _ _ _ (rd_L2 x14_4 x96_5) from ge241_0)
                                        clear hv241_0 ge241_0
                                        have HX241_0 := Aside0.mk hx241_0
                                        clear hcc241 hce241
                                        have HR241_0 := Aside0.mk hi241_0
                                        have HC241_0 := Aside0.mk hl241_0
                                        clear hi241_0 hl241_0
                                        replace p241 := eq_true p241
                                        replace q241 := eq_true q241
                                        go_wp2_with (first | ((with_reducible refine gate_dst (N := 98) rfl ?_); refine Go.Proofs.Ytheinelpeapleaa.HandArr.index_event rfl (.tmp 95) (.tmp 96) rfl cur_ x96_5 _ rfl rfl P0_.out P1_.out HCI.out ?_))
                                        go_roundg k5
                                        case measure => have := HJ3.out; have := HK2.out; have := HK3.out; have := HK4.out; have := HK5.out; omega
                                        case rel => exact ⟨(x12_5), (wrap64 (x96_5 + 1)), (by first | rfl | (simp; done) | (simp [*]; done)), H', ⟨by have := HJ3.out; have := HK2.out; have := HK3.out; have := HK4.out; have := HK5.out; omega⟩, ⟨by (with_reducible repeat (first | apply Kd.R_alloc | apply Kd.R_drewN | apply Kd.R_drew)); exact HO_12.out⟩, ⟨by (with_reducible repeat (first | apply Kd.S_alloc | apply Kd.S_drewN | apply Kd.S_drew)); exact HO_95.out⟩, ⟨by (with_reducible repeat (first | refine blk_drewN ?_ _ | refine blk_drew ?_ | refine blk_alloc ?_ _)); exact BKA.out⟩, ⟨by repeat (first | (with_reducible first | exact HB.out | apply below_alloc | apply pw_below_drewN | apply below_drew1) | exact HB.out)⟩⟩
                                    · rw [if_neg c62] at H
                                      exact absurd H (by simp)
                                  · rw [if_neg c61] at H
                                    exact absurd H (by simp)
                                · rw [if_neg c60] at H
                                  have c60b0 : decide (x96_5 < 16) = false := decide_eq_false c60
                                  clear c60
                                  have H' := Aside0.mk H
                                  clear H
                                  go_wp2
                                  go_roundg k5
                                  case measure => have := HJ3.out; have := HK2.out; have := HK3.out; have := HK4.out; have := HK5.out; omega
                                  case rel => exact ⟨(x12_5), (wrap64 (x57_3 + 1)), (by first | rfl | (simp; done) | (simp [*]; done)), H', ⟨by have := HJ3.out; have := HK2.out; have := HK3.out; have := HK4.out; have := HK5.out; omega⟩, ⟨by (with_reducible repeat (first | apply Kd.R_alloc | apply Kd.R_drewN | apply Kd.R_drew)); exact HO_12.out⟩, ⟨by repeat (first | (with_reducible first | exact HB.out | apply below_alloc | apply pw_below_drewN | apply below_drew1) | exact HB.out)⟩⟩
                    · rw [if_neg c27] at H
                      exact absurd H (by simp)
                  · rw [if_neg c26] at H
                    have c26b0 : decide (x57_3 < a2) = false := decide_eq_false c26
                    clear c26
                    simp only [Option.some.injEq, Prod.mk.injEq] at H
                    obtain ⟨rfl, rfl⟩ := H
                    go_wp2
                    go_ret2
                    exact ⟨_, by first | rfl | (simp [errW_none, errW_some] <;> rfl) | (simp [*, errW_none, errW_some] <;> rfl), by (with_reducible repeat (first | apply Kd.R_alloc | apply Kd.R_drewN | apply Kd.R_drew)); exact HO_12.out, by repeat (first | (with_reducible first | exact HB.out | apply below_alloc | apply pw_below_drewN | apply below_drew1) | exact HB.out)⟩

end Go.Proofs.Ytheinelpeapleaa.MFnAlone
