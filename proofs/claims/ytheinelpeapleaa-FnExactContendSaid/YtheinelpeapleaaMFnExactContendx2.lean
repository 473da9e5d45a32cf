/- The functions that the law FnExactContend reaches, as plain functions, and that the code comes to them. Begun as a text of the print over stubs; turned by wip/handstub.py and wip/mend.py. -/
import Derived.Test.YtheinelpeapleaaHandArr
import Derived.Laws.Rows
import Derived.Test.YtheinelpeapleaaMFnExactContendx0
import Derived.Test.YtheinelpeapleaaMFnExactContendx1
namespace Go.Proofs.Ytheinelpeapleaa.MFnExactContend
open Go.RowKit Go.Proofs.YtheinelpeapleaaW.PrintWords Go.Proofs.YtheinelpeapleaaW.PrintLast Go.Proofs.YtheinelpeapleaaW.PrintMore
attribute [local go_sem] max2_int min2_int max_two min_two max_three min_three max_four min_four   -- for this text's walks alone
set_option linter.unusedVariables false
set_option linter.unusedSimpArgs false

/-! ### impl_Contend: function 12 -/
mutual
def impl_Contend.j0 : Nat → List (S36) → Int → Int → Bool → Option (List Int × Bool)
  | 0, _, _, _, _ => none
  | k + 1, x0, x1, x2, x33 => if x33 = true then (some (([] : List Int), false)) else (impl_Contend.l0 k x0 x1 x2 x0 (x0.length : Int) 0)
def impl_Contend.l0 : Nat → List (S36) → Int → Int → List (S36) → Int → Int → Option (List Int × Bool)
  | 0, _, _, _, _, _, _ => none
  | k + 1, x0, x1, x2, x34, x35, x36 => if x36 < x35 then (if 0 ≤ x36 then (if x36 < (x34.length : Int) then (impl_Contend.l1 k x0 x1 x2 x34 x35 x36 ((rd_T36 x34 x36).f0) (((rd_T36 x34 x36).f0).length : Int) 0) else (none)) else (none)) else ((slices_Repeat_int_int.f k (([(-1)] : List Int)) (x0.length : Int)).bind fun t118 => (impl_Contend.l2 k x0 x1 t118 x2 0))
def impl_Contend.l1 : Nat → List (S36) → Int → Int → List (S36) → Int → Int → List Int → Int → Int → Option (List Int × Bool)
  | 0, _, _, _, _, _, _, _, _, _ => none
  | k + 1, x0, x1, x2, x34, x35, x36, x41, x42, x43 => if x43 < x42 then (if 0 ≤ x43 then (if x43 < (x41.length : Int) then ((impl_in.f (rd x41 x43) 0 1000).bind fun t114 => (if t114 = true then (impl_Contend.l1 k x0 x1 x2 x34 x35 x36 x41 x42 (wrap64 (x43 + 1))) else (some (([] : List Int), false)))) else (none)) else (none)) else (impl_Contend.l0 k x0 x1 x2 x34 x35 (wrap64 (x36 + 1)))
def impl_Contend.l2 : Nat → List (S36) → Int → List Int → Int → Int → Option (List Int × Bool)
  | 0, _, _, _, _, _ => none
  | k + 1, x0, x1, x12, x56, x57 => if x57 < x56 then (if 16 ≤ 11728124029610 then (impl_Contend.l3 k x0 x1 x12 x57 (List.replicate 16 []) x56 x57 x0 (x0.length : Int) 0) else (none)) else (some (x12, true))
def impl_Contend.l3 : Nat → List (S36) → Int → List Int → Int → List (List Int) → Int → Int → List (S36) → Int → Int → Option (List Int × Bool)
  | 0, _, _, _, _, _, _, _, _, _, _ => none
  | k + 1, x0, x1, x12, x13, x14, x56, x57, x60, x61, x62 => if x62 < x61 then (if 0 ≤ x62 then (if x62 < (x60.length : Int) then (if x62 < (x12.length : Int) then (if (rd x12 x62) < 0 then (if x13 < (((rd_T36 x60 x62).f0).length : Int) then (if 0 ≤ x13 then (if x1 = 0 then (none) else (if 0 ≤ (Int.tmod (rd ((rd_T36 x60 x62).f0) x13) x1) then (if (Int.tmod (rd ((rd_T36 x60 x62).f0) x13) x1) < (x14.length : Int) then (if (rd_L1 x14 (Int.tmod (rd ((rd_T36 x60 x62).f0) x13) x1)).length < 17592186044416 then (impl_Contend.l3 k x0 x1 x12 x13 (x14.set ((Int.tmod (rd ((rd_T36 x60 x62).f0) x13) x1) : Int).toNat ((rd_L1 x14 (Int.tmod (rd ((rd_T36 x60 x62).f0) x13) x1)) ++ [x62])) x56 x57 x60 x61 (wrap64 (x62 + 1))) else (none)) else (none)) else (none))) else (none)) else (impl_Contend.l3 k x0 x1 x12 x13 x14 x56 x57 x60 x61 (wrap64 (x62 + 1)))) else (impl_Contend.l3 k x0 x1 x12 x13 x14 x56 x57 x60 x61 (wrap64 (x62 + 1)))) else (none)) else (none)) else (none)) else (impl_Contend.l4 k x0 x1 x12 x13 x56 x57 x14 0)
def impl_Contend.l4 : Nat → List (S36) → Int → List Int → Int → Int → Int → List (List Int) → Int → Option (List Int × Bool)
  | 0, _, _, _, _, _, _, _, _ => none
  | k + 1, x0, x1, x12, x13, x56, x57, x95, x96 => if x96 < 16 then (if 0 ≤ x96 then (if x96 < (x95.length : Int) then (if ((rd_L1 x95 x96).length : Int) = 1 then (if 0 < ((rd_L1 x95 x96).length : Int) then (if 0 ≤ (rd (rd_L1 x95 x96) 0) then (if (rd (rd_L1 x95 x96) 0) < (x12.length : Int) then (impl_Contend.l4 k x0 x1 (x12.set ((rd (rd_L1 x95 x96) 0) : Int).toNat x13) x13 x56 x57 x95 (wrap64 (x96 + 1))) else (none)) else (none)) else (none)) else (impl_Contend.l4 k x0 x1 x12 x13 x56 x57 x95 (wrap64 (x96 + 1)))) else (none)) else (none)) else (impl_Contend.l2 k x0 x1 x12 x56 (wrap64 (x57 + 1)))
end
def impl_Contend.f (k : Nat) (l0 : List (S36)) (a1 : Int) (a2 : Int) : Option (List Int × Bool) := (impl_in.f (l0.length : Int) 1 40).bind fun t108 => (if t108 = true then ((impl_in.f a1 1 16).bind fun t109 => (if t109 = true then ((impl_in.f a2 0 60).bind fun t110 => (impl_Contend.j0 k l0 a1 a2 (!t110))) else (impl_Contend.j0 k l0 a1 a2 true))) else (impl_Contend.j0 k l0 a1 a2 true))
theorem impl_Contend.mono_l : ∀ k, (∀ y0 y1 y2 y3, LeO (impl_Contend.j0 k y0 y1 y2 y3) (impl_Contend.j0 (k + 1) y0 y1 y2 y3)) ∧ (∀ y0 y1 y2 y3 y4 y5, LeO (impl_Contend.l0 k y0 y1 y2 y3 y4 y5) (impl_Contend.l0 (k + 1) y0 y1 y2 y3 y4 y5)) ∧ (∀ y0 y1 y2 y3 y4 y5 y6 y7 y8, LeO (impl_Contend.l1 k y0 y1 y2 y3 y4 y5 y6 y7 y8) (impl_Contend.l1 (k + 1) y0 y1 y2 y3 y4 y5 y6 y7 y8)) ∧ (∀ y0 y1 y2 y3 y4, LeO (impl_Contend.l2 k y0 y1 y2 y3 y4) (impl_Contend.l2 (k + 1) y0 y1 y2 y3 y4)) ∧ (∀ y0 y1 y2 y3 y4 y5 y6 y7 y8 y9, LeO (impl_Contend.l3 k y0 y1 y2 y3 y4 y5 y6 y7 y8 y9) (impl_Contend.l3 (k + 1) y0 y1 y2 y3 y4 y5 y6 y7 y8 y9)) ∧ (∀ y0 y1 y2 y3 y4 y5 y6 y7, LeO (impl_Contend.l4 k y0 y1 y2 y3 y4 y5 y6 y7) (impl_Contend.l4 (k + 1) y0 y1 y2 y3 y4 y5 y6 y7))
  | 0 => ⟨fun _ _ _ _ r h => by simp [impl_Contend.j0] at h, fun _ _ _ _ _ _ r h => by simp [impl_Contend.l0] at h, fun _ _ _ _ _ _ _ _ _ r h => by simp [impl_Contend.l1] at h, fun _ _ _ _ _ r h => by simp [impl_Contend.l2] at h, fun _ _ _ _ _ _ _ _ _ _ r h => by simp [impl_Contend.l3] at h, fun _ _ _ _ _ _ _ _ r h => by simp [impl_Contend.l4] at h⟩
  | k + 1 => by
    obtain ⟨ih0, ih1, ih2, ih3, ih4, ih5⟩ := impl_Contend.mono_l k
    refine ⟨?_, ?_, ?_, ?_, ?_, ?_⟩
    · intro y0 y1 y2 y3
      unfold impl_Contend.j0
      repeat' first
      | (with_reducible exact ih0 _ _ _ _)
      | (with_reducible exact ih1 _ _ _ _ _ _)
      | (with_reducible exact ih2 _ _ _ _ _ _ _ _ _)
      | (with_reducible exact ih3 _ _ _ _ _)
      | (with_reducible exact ih4 _ _ _ _ _ _ _ _ _ _)
      | (with_reducible exact ih5 _ _ _ _ _ _ _ _)
      | (with_reducible exact slices_Repeat_int_int.mono _ _ _)
      | (with_reducible exact LeO.refl _)
      | (with_reducible exact LeO.none _)
      | (with_reducible refine LeO.ite ?_ ?_)
      | (with_reducible refine LeO.bind ?_ (fun _ => ?_))
      | exact ih0 _ _ _ _
      | exact ih1 _ _ _ _ _ _
      | exact ih2 _ _ _ _ _ _ _ _ _
      | exact ih3 _ _ _ _ _
      | exact ih4 _ _ _ _ _ _ _ _ _ _
      | exact ih5 _ _ _ _ _ _ _ _
      | exact slices_Repeat_int_int.mono _ _ _
      | exact LeO.none _
      | refine LeO.ite ?_ ?_
      | refine LeO.bind ?_ (fun _ => ?_)
    · intro y0 y1 y2 y3 y4 y5
      unfold impl_Contend.l0
      repeat' first
      | (with_reducible exact ih0 _ _ _ _)
      | (with_reducible exact ih1 _ _ _ _ _ _)
      | (with_reducible exact ih2 _ _ _ _ _ _ _ _ _)
      | (with_reducible exact ih3 _ _ _ _ _)
      | (with_reducible exact ih4 _ _ _ _ _ _ _ _ _ _)
      | (with_reducible exact ih5 _ _ _ _ _ _ _ _)
      | (with_reducible exact slices_Repeat_int_int.mono _ _ _)
      | (with_reducible exact LeO.refl _)
      | (with_reducible exact LeO.none _)
      | (with_reducible refine LeO.ite ?_ ?_)
      | (with_reducible refine LeO.bind ?_ (fun _ => ?_))
      | exact ih0 _ _ _ _
      | exact ih1 _ _ _ _ _ _
      | exact ih2 _ _ _ _ _ _ _ _ _
      | exact ih3 _ _ _ _ _
      | exact ih4 _ _ _ _ _ _ _ _ _ _
      | exact ih5 _ _ _ _ _ _ _ _
      | exact slices_Repeat_int_int.mono _ _ _
      | exact LeO.none _
      | refine LeO.ite ?_ ?_
      | refine LeO.bind ?_ (fun _ => ?_)
    · intro y0 y1 y2 y3 y4 y5 y6 y7 y8
      unfold impl_Contend.l1
      repeat' first
      | (with_reducible exact ih0 _ _ _ _)
      | (with_reducible exact ih1 _ _ _ _ _ _)
      | (with_reducible exact ih2 _ _ _ _ _ _ _ _ _)
      | (with_reducible exact ih3 _ _ _ _ _)
      | (with_reducible exact ih4 _ _ _ _ _ _ _ _ _ _)
      | (with_reducible exact ih5 _ _ _ _ _ _ _ _)
      | (with_reducible exact slices_Repeat_int_int.mono _ _ _)
      | (with_reducible exact LeO.refl _)
      | (with_reducible exact LeO.none _)
      | (with_reducible refine LeO.ite ?_ ?_)
      | (with_reducible refine LeO.bind ?_ (fun _ => ?_))
      | exact ih0 _ _ _ _
      | exact ih1 _ _ _ _ _ _
      | exact ih2 _ _ _ _ _ _ _ _ _
      | exact ih3 _ _ _ _ _
      | exact ih4 _ _ _ _ _ _ _ _ _ _
      | exact ih5 _ _ _ _ _ _ _ _
      | exact slices_Repeat_int_int.mono _ _ _
      | exact LeO.none _
      | refine LeO.ite ?_ ?_
      | refine LeO.bind ?_ (fun _ => ?_)
    · intro y0 y1 y2 y3 y4
      unfold impl_Contend.l2
      repeat' first
      | (with_reducible exact ih0 _ _ _ _)
      | (with_reducible exact ih1 _ _ _ _ _ _)
      | (with_reducible exact ih2 _ _ _ _ _ _ _ _ _)
      | (with_reducible exact ih3 _ _ _ _ _)
      | (with_reducible exact ih4 _ _ _ _ _ _ _ _ _ _)
      | (with_reducible exact ih5 _ _ _ _ _ _ _ _)
      | (with_reducible exact slices_Repeat_int_int.mono _ _ _)
      | (with_reducible exact LeO.refl _)
      | (with_reducible exact LeO.none _)
      | (with_reducible refine LeO.ite ?_ ?_)
      | (with_reducible refine LeO.bind ?_ (fun _ => ?_))
      | exact ih0 _ _ _ _
      | exact ih1 _ _ _ _ _ _
      | exact ih2 _ _ _ _ _ _ _ _ _
      | exact ih3 _ _ _ _ _
      | exact ih4 _ _ _ _ _ _ _ _ _ _
      | exact ih5 _ _ _ _ _ _ _ _
      | exact slices_Repeat_int_int.mono _ _ _
      | exact LeO.none _
      | refine LeO.ite ?_ ?_
      | refine LeO.bind ?_ (fun _ => ?_)
    · intro y0 y1 y2 y3 y4 y5 y6 y7 y8 y9
      unfold impl_Contend.l3
      repeat' first
      | (with_reducible exact ih0 _ _ _ _)
      | (with_reducible exact ih1 _ _ _ _ _ _)
      | (with_reducible exact ih2 _ _ _ _ _ _ _ _ _)
      | (with_reducible exact ih3 _ _ _ _ _)
      | (with_reducible exact ih4 _ _ _ _ _ _ _ _ _ _)
      | (with_reducible exact ih5 _ _ _ _ _ _ _ _)
      | (with_reducible exact slices_Repeat_int_int.mono _ _ _)
      | (with_reducible exact LeO.refl _)
      | (with_reducible exact LeO.none _)
      | (with_reducible refine LeO.ite ?_ ?_)
      | (with_reducible refine LeO.bind ?_ (fun _ => ?_))
      | exact ih0 _ _ _ _
      | exact ih1 _ _ _ _ _ _
      | exact ih2 _ _ _ _ _ _ _ _ _
      | exact ih3 _ _ _ _ _
      | exact ih4 _ _ _ _ _ _ _ _ _ _
      | exact ih5 _ _ _ _ _ _ _ _
      | exact slices_Repeat_int_int.mono _ _ _
      | exact LeO.none _
      | refine LeO.ite ?_ ?_
      | refine LeO.bind ?_ (fun _ => ?_)
    · intro y0 y1 y2 y3 y4 y5 y6 y7
      unfold impl_Contend.l4
      repeat' first
      | (with_reducible exact ih0 _ _ _ _)
      | (with_reducible exact ih1 _ _ _ _ _ _)
      | (with_reducible exact ih2 _ _ _ _ _ _ _ _ _)
      | (with_reducible exact ih3 _ _ _ _ _)
      | (with_reducible exact ih4 _ _ _ _ _ _ _ _ _ _)
      | (with_reducible exact ih5 _ _ _ _ _ _ _ _)
      | (with_reducible exact slices_Repeat_int_int.mono _ _ _)
      | (with_reducible exact LeO.refl _)
      | (with_reducible exact LeO.none _)
      | (with_reducible refine LeO.ite ?_ ?_)
      | (with_reducible refine LeO.bind ?_ (fun _ => ?_))
      | exact ih0 _ _ _ _
      | exact ih1 _ _ _ _ _ _
      | exact ih2 _ _ _ _ _ _ _ _ _
      | exact ih3 _ _ _ _ _
      | exact ih4 _ _ _ _ _ _ _ _ _ _
      | exact ih5 _ _ _ _ _ _ _ _
      | exact slices_Repeat_int_int.mono _ _ _
      | exact LeO.none _
      | refine LeO.ite ?_ ?_
      | refine LeO.bind ?_ (fun _ => ?_)
theorem impl_Contend.mono : ∀ a0 a1 a2 k, LeO (impl_Contend.f k a0 a1 a2) (impl_Contend.f (k + 1) a0 a1 a2) := by
  intro a0 a1 a2 k
  obtain ⟨ih0, ih1, ih2, ih3, ih4, ih5⟩ := impl_Contend.mono_l k
  unfold impl_Contend.f
  repeat' first
      | (with_reducible exact ih0 _ _ _ _)
      | (with_reducible exact ih1 _ _ _ _ _ _)
      | (with_reducible exact ih2 _ _ _ _ _ _ _ _ _)
      | (with_reducible exact ih3 _ _ _ _ _)
      | (with_reducible exact ih4 _ _ _ _ _ _ _ _ _ _)
      | (with_reducible exact ih5 _ _ _ _ _ _ _ _)
      | (with_reducible exact slices_Repeat_int_int.mono _ _ _)
      | (with_reducible exact LeO.refl _)
      | (with_reducible exact LeO.none _)
      | (with_reducible refine LeO.ite ?_ ?_)
      | (with_reducible refine LeO.bind ?_ (fun _ => ?_))
      | exact ih0 _ _ _ _
      | exact ih1 _ _ _ _ _ _
      | exact ih2 _ _ _ _ _ _ _ _ _
      | exact ih3 _ _ _ _ _
      | exact ih4 _ _ _ _ _ _ _ _ _ _
      | exact ih5 _ _ _ _ _ _ _ _
      | exact slices_Repeat_int_int.mono _ _ _
      | exact LeO.none _
      | refine LeO.ite ?_ ?_
      | refine LeO.bind ?_ (fun _ => ?_)
set_option maxHeartbeats 8000000 in
set_option maxRecDepth 100000 in
theorem impl_Contend.calls (k : Nat) (A0 : Option Addr) (c0 : Nat) (l0 : List (S36)) (a1 : Int) (a2 : Int) (r1 : List Int) (r2 : Bool) (w : World) (hr0 : Kd.C k36 w A0 l0.length l0) (hc0 : l0.length ≤ c0) (h : impl_Contend.f k l0 a1 a2 = some (r1, r2)) :
    Calls Try.prog 12 #[.slice A0 l0.length c0, .int .i64 a1, .int .i64 a2] w fun e w' => ∃ v0_ : Value, e = .returned (.tuple #[v0_, .bool r2]) ∧ Kd.R (Kd.int .i64) 3 w' w.heap.size (fun _ => True) v0_ r1 ∧ Below w.heap.size w w' := by
  have hu36 := Try.underlying36
  have HR0 := Aside0.mk hr0
  have HC0 := Aside0.mk hc0
  clear hr0 hc0
  have HB := Aside0.mk (Below.refl w.heap.size w)
  have H : ((impl_in.f (l0.length : Int) 1 40).bind fun t108 => (if t108 = true then ((impl_in.f a1 1 16).bind fun t109 => (if t109 = true then ((impl_in.f a2 0 60).bind fun t110 => (impl_Contend.j0 k l0 a1 a2 (!t110))) else (impl_Contend.j0 k l0 a1 a2 true))) else (impl_Contend.j0 k l0 a1 a2 true))) = some (r1, r2) := h
  clear h
  have HC4 := Aside0.mk H
  clear H
  go_enter Try.func12, Try.ntmps12
  go_upto_region 1 with (fail)
  go_cut [33] (fun v33 wc => ∃ (kq : Nat) (x33_3 : Bool), v33 = .bool x33_3 ∧ Aside0 (impl_Contend.j0 kq l0 a1 a2 x33_3 = some (r1, r2)) ∧ Aside0 (kq ≤ k) ∧ Aside0 (Below w.heap.size w wc))
  case first =>
    have H := HC4.out
    clear HC4
    replace H := Option.bind_eq_some_iff.mp H
    obtain ⟨t108, A50, H⟩ := H
    replace H : (if t108 = true then ((impl_in.f a1 1 16).bind fun t109 => (if t109 = true then ((impl_in.f a2 0 60).bind fun t110 => (impl_Contend.j0 k l0 a1 a2 (!t110))) else (impl_Contend.j0 k l0 a1 a2 true))) else (impl_Contend.j0 k l0 a1 a2 true)) = some (r1, r2) := H
    have A5 := Aside0.mk A50
    clear A50
    by_cases c6 : t108 = true
    · subst c6
      have H1 : ((impl_in.f a1 1 16).bind fun t109 => (if t109 = true then ((impl_in.f a2 0 60).bind fun t110 => (impl_Contend.j0 k l0 a1 a2 (!t110))) else (impl_Contend.j0 k l0 a1 a2 true))) = some (r1, r2) := by rw [if_pos rfl] at H; exact H
      clear H
      have H := H1
      clear H1
      replace H := Option.bind_eq_some_iff.mp H
      obtain ⟨t109, A70, H⟩ := H
      replace H : (if t109 = true then ((impl_in.f a2 0 60).bind fun t110 => (impl_Contend.j0 k l0 a1 a2 (!t110))) else (impl_Contend.j0 k l0 a1 a2 true)) = some (r1, r2) := H
      have A7 := Aside0.mk A70
      clear A70
      by_cases c8 : t109 = true
      · subst c8
        have H1 : ((impl_in.f a2 0 60).bind fun t110 => (impl_Contend.j0 k l0 a1 a2 (!t110))) = some (r1, r2) := by rw [if_pos rfl] at H; exact H
        clear H
        have H := H1
        clear H1
        replace H := Option.bind_eq_some_iff.mp H
        obtain ⟨t110, A90, H⟩ := H
        replace H : (impl_Contend.j0 k l0 a1 a2 (!t110)) = some (r1, r2) := H
        have A9 := Aside0.mk A90
        clear A90
        have H' := Aside0.mk H
        clear H
        go_wp2_with (first | ((with_reducible refine gate_callee (f := 24) rfl ?_); refine goesL_ (some 22) rfl rfl Try.func24 (by kernel_rfl) rfl #[.int .i64 (l0.length : Int), .int .i64 1, .int .i64 40] rfl (by (try simp only [List.map_toArray, List.map_cons, List.map_nil]); first | done | rfl | (simp only [List.length_drop, List.length_take]; rfl)) ?_; (with_reducible refine (impl_in.calls (l0.length : Int) 1 40 true _ A5.out).mono ?_); rintro e w' ⟨rfl, ⟨nd, rfl⟩⟩; refine ⟨_, rfl, ?_⟩) | (go_at_call 24; (with_reducible refine (impl_in.calls a1 1 16 true _ A7.out).mono ?_); rintro e w' ⟨rfl, ⟨nd, rfl⟩⟩) | (go_at_call 24; (with_reducible refine (impl_in.calls a2 0 60 t110 _ A9.out).mono ?_); rintro e w' ⟨rfl, ⟨nd, rfl⟩⟩))
        go_meet
        case rel => exact ⟨_, (!t110), (by first | rfl | (simp; done) | (simp [*]; done)), H', ⟨by first | omega | exact Nat.le_refl _⟩, ⟨by repeat (first | (with_reducible first | exact HB.out | apply below_alloc | apply pw_below_drewN | apply below_drew1) | exact HB.out)⟩⟩
      · replace c8 := Bool.eq_false_iff.mpr c8
        subst c8
        have H1 : (impl_Contend.j0 k l0 a1 a2 true) = some (r1, r2) := by rw [if_neg (show ¬ (false = true) by decide)] at H; exact H
        clear H
        have H := H1
        clear H1
        have H' := Aside0.mk H
        clear H
        go_wp2_with (first | ((with_reducible refine gate_callee (f := 24) rfl ?_); refine goesL_ (some 22) rfl rfl Try.func24 (by kernel_rfl) rfl #[.int .i64 (l0.length : Int), .int .i64 1, .int .i64 40] rfl (by (try simp only [List.map_toArray, List.map_cons, List.map_nil]); first | done | rfl | (simp only [List.length_drop, List.length_take]; rfl)) ?_; (with_reducible refine (impl_in.calls (l0.length : Int) 1 40 true _ A5.out).mono ?_); rintro e w' ⟨rfl, ⟨nd, rfl⟩⟩; refine ⟨_, rfl, ?_⟩) | (go_at_call 24; (with_reducible refine (impl_in.calls a1 1 16 false _ A7.out).mono ?_); rintro e w' ⟨rfl, ⟨nd, rfl⟩⟩))
        go_meet
        case rel => exact ⟨_, (true), (by first | rfl | (simp; done) | (simp [*]; done)), H', ⟨by first | omega | exact Nat.le_refl _⟩, ⟨by repeat (first | (with_reducible first | exact HB.out | apply below_alloc | apply pw_below_drewN | apply below_drew1) | exact HB.out)⟩⟩
    · replace c6 := Bool.eq_false_iff.mpr c6
      subst c6
      have H1 : (impl_Contend.j0 k l0 a1 a2 true) = some (r1, r2) := by rw [if_neg (show ¬ (false = true) by decide)] at H; exact H
      clear H
      have H := H1
      clear H1
      have H' := Aside0.mk H
      clear H
      go_wp2_with (first | ((with_reducible refine gate_callee (f := 24) rfl ?_); refine goesL_ (some 22) rfl rfl Try.func24 (by kernel_rfl) rfl #[.int .i64 (l0.length : Int), .int .i64 1, .int .i64 40] rfl (by (try simp only [List.map_toArray, List.map_cons, List.map_nil]); first | done | rfl | (simp only [List.length_drop, List.length_take]; rfl)) ?_; (with_reducible refine (impl_in.calls (l0.length : Int) 1 40 false _ A5.out).mono ?_); rintro e w' ⟨rfl, ⟨nd, rfl⟩⟩; refine ⟨_, rfl, ?_⟩))
      go_meet
      case rel => exact ⟨_, (true), (by first | rfl | (simp; done) | (simp [*]; done)), H', ⟨by first | omega | exact Nat.le_refl _⟩, ⟨by repeat (first | (with_reducible first | exact HB.out | apply below_alloc | apply pw_below_drewN | apply below_drew1) | exact HB.out)⟩⟩
  case rest =>
    clear HC4
    try clear c1
    try clear c2
    try clear p2
    try clear c6
    try clear c8
    obtain ⟨kq, x33_3, rfl, HA, HJ3, HB⟩ := hcut
    cases kq with
    | zero => exact absurd HA.out (by simp [impl_Contend.j0])
    | succ kj3 =>
      have H := HA.out
      clear HA
      simp only [impl_Contend.j0] at H
      by_cases c10 : x33_3 = true
      · subst c10
        have H1 : (some (([] : List Int), false)) = some (r1, r2) := by rw [if_pos rfl] at H; exact H
        clear H
        have H := H1
        clear H1
        simp only [Option.some.injEq, Prod.mk.injEq] at H
        obtain ⟨rfl, rfl⟩ := H
        go_wp2
        go_ret2
        exact ⟨_, by first | rfl | (simp [errW_none, errW_some] <;> rfl) | (simp [*, errW_none, errW_some] <;> rfl), by first | exact Kd.R_nil _ _ _ _ _ | exact Kd.N_nil _ _ _ _ _ | exact Kd.V_nil _ _ _ _ _ | exact Kd.Q_nil _ _ _ _ _ | exact Kd.S_nil _ _ _ _ _, by repeat (first | (with_reducible first | exact HB.out | apply below_alloc | apply pw_below_drewN | apply below_drew1) | exact HB.out)⟩
      · replace c10 := Bool.eq_false_iff.mpr c10
        subst c10
        have H1 : (impl_Contend.l0 kj3 l0 a1 a2 l0 (l0.length : Int) 0) = some (r1, r2) := by rw [if_neg (show ¬ (false = true) by decide)] at H; exact H
        clear H
        have H := H1
        clear H1
        have H' := Aside0.mk H
        clear H
        go_wp2
        go_loopg [36] kj3 (fun kq v36 w' => ∃ (x36_2 : Int), v36 = .int .i64 x36_2 ∧ Aside0 (impl_Contend.l0 kq l0 a1 a2 l0 (l0.length : Int) x36_2 = some (r1, r2)) ∧ Aside0 (kq ≤ kj3) ∧ Aside0 (Below w.heap.size w w'))
        case atStart => exact ⟨(0), (by first | rfl | (simp; done) | (simp [*]; done)), H', ⟨Nat.le_refl _⟩, ⟨by repeat (first | (with_reducible first | exact HB.out | apply below_alloc | apply pw_below_drewN | apply below_drew1) | exact HB.out)⟩⟩
        case round =>
          clear H'
          try clear c1
          try clear c2
          try clear p2
          try clear c6
          try clear c8
          try clear c10
          try clear p2
          obtain ⟨x36_2, rfl, HA, HK2, HB⟩ := hrel
          cases gk with
          | zero => exact absurd HA.out (by simp [impl_Contend.l0])
          | succ k2 =>
            have H := HA.out
            clear HA
            simp only [impl_Contend.l0] at H
            by_cases c11 : x36_2 < (l0.length : Int)
            · rw [if_pos c11] at H
              have c11b0 : decide (x36_2 < (l0.length : Int)) = true := decide_eq_true c11
              clear c11
              by_cases c12 : 0 ≤ x36_2
              · rw [if_pos c12] at H
                have c12b0 : decide (0 ≤ x36_2) = true := decide_eq_true c12
                clear c12
                by_cases c13 : x36_2 < (l0.length : Int)
                · rw [if_pos c13] at H
                  have c13b0 : decide (x36_2 < (l0.length : Int)) = true := decide_eq_true c13
                  clear c13
                  have H' := Aside0.mk H
                  clear H
                  have p111 : 0 ≤ (x36_2 : Int) := of_decide_eq_true (by first | (with_reducible assumption) | assumption)
                  have q111 : x36_2 < (l0.length : Int) := of_decide_eq_true (by first | (with_reducible assumption) | assumption)
                  obtain ⟨ad111, A111_0, c111_0, e111, hx111_0, hl111_0, hi111_0⟩ := at_T36 HR0.out x36_2 p111 q111
                  cases e111
                  try (replace hx111_0 := (HB.out.cell (World.block_lt_of_cell? w _ hx111_0)).trans hx111_0)
                  have HR111_0 := Aside0.mk hi111_0
                  have HC111_0 := Aside0.mk hl111_0
                  clear hi111_0 hl111_0
                  replace p111 := eq_true p111
                  replace q111 := eq_true q111
                  go_wp2_with (first | ((with_reducible refine gate_dst (N := 9) rfl ?_); (try (refine gate_guard (by rfl) ?_; dsimp only)); refine box_event ?hg (N := 9) ?hd (cs := #[.slice none 0 0]) (t := 36) ?hr ?_; (case hd => rfl); (case hg => rfl); (case hr => first | (go_simp; done) | (go_simp; rfl)); intro gb112 hg w14 hbox hb; have n0_ := Aside0.mk (below_step (by repeat (first | (with_reducible first | exact HB.out | apply below_alloc | apply pw_below_drewN | apply below_drew1) | exact HB.out)) hb); have n1_ := Aside0.mk (hbox); have n2_ := Aside0.mk ((by rw [hg]; exact (below_size (by repeat (first | (with_reducible first | exact HB.out | apply below_alloc | apply pw_below_drewN | apply below_drew1) | exact HB.out))) : w.heap.size ≤ gb112)); have n3_ := Aside0.mk ((by rw [hg]; exact (below_size (by repeat (first | (with_reducible first | exact HB.out | apply below_alloc | apply pw_below_drewN | apply below_drew1) | exact HB.out))) : w.heap.size ≤ gb112)); clear HB; have HB := n0_; have BK112 := n1_; have GW112 := n2_; have GE112 := n3_; clear n0_ n1_ n2_ n3_; clear hb hbox hg; have hcz15_0 : w14.cell? ⟨gb112, 0, none⟩ = some (.slice none 0 0) := (blk_cell BK112.out 0).trans rfl; have hfz15_0 := blk_frozen BK112.out 0))
                  go_loopg [43] k2 (fun kq v43 w' => ∃ (x43_3 : Int), v43 = .int .i64 x43_3 ∧ Aside0 (impl_Contend.l1 kq l0 a1 a2 l0 (l0.length : Int) x36_2 ((rd_T36 l0 x36_2).f0) (((rd_T36 l0 x36_2).f0).length : Int) x43_3 = some (r1, r2)) ∧ Aside0 (kq ≤ k2) ∧ Aside0 (w'.heap[gb112]? = some (.cells #[(.slice A111_0 ((rd_T36 l0 x36_2).f0).length c111_0)] 36 (0, 0))) ∧ Aside0 (Below w.heap.size w w'))
                  case atStart => exact ⟨(0), (by first | rfl | (simp; done) | (simp [*]; done)), H', ⟨Nat.le_refl _⟩, ⟨by (with_reducible repeat (first | refine blk_drewN ?_ _ | refine blk_drew ?_ | refine blk_alloc ?_ _)); refine blk_put (cs := #[.slice none 0 0]) ?_ 0 _ rfl; (with_reducible repeat (first | refine blk_drewN ?_ _ | refine blk_drew ?_ | refine blk_alloc ?_ _)); exact BK112.out⟩, ⟨by repeat (first | (with_reducible first | exact HB.out | apply below_alloc | apply pw_below_drewN | apply below_drew1 | refine below_set ?_ GE112.out) | exact HB.out)⟩⟩
                  case round =>
                    clear H'
                    try clear c1
                    try clear p1
                    try clear q1
                    try clear hx1
                    try clear c2
                    try clear p2
                    try clear c6
                    try clear c8
                    try clear c10
                    try clear c11
                    try clear c11b0
                    try clear p11
                    try clear q11
                    try clear hx11
                    try clear c12
                    try clear c12b0
                    try clear c13
                    try clear c13b0
                    try clear hcz15_0
                    try clear hfz15_0
                    try clear hx111_0
                    try clear p111
                    try clear p2
                    try clear q111
                    obtain ⟨x43_3, rfl, HA, HK3, BK112, HB⟩ := hrel
                    cases gk with
                    | zero => exact absurd HA.out (by simp [impl_Contend.l1])
                    | succ k3 =>
                      have H := HA.out
                      clear HA
                      simp only [impl_Contend.l1] at H
                      by_cases c16 : x43_3 < (((rd_T36 l0 x36_2).f0).length : Int)
                      · rw [if_pos c16] at H
                        have c16b0 : decide (x43_3 < (((rd_T36 l0 x36_2).f0).length : Int)) = true := decide_eq_true c16
                        clear c16
                        by_cases c17 : 0 ≤ x43_3
                        · rw [if_pos c17] at H
                          have c17b0 : decide (0 ≤ x43_3) = true := decide_eq_true c17
                          clear c17
                          by_cases c18 : x43_3 < (((rd_T36 l0 x36_2).f0).length : Int)
                          · rw [if_pos c18] at H
                            have c18b0 : decide (x43_3 < (((rd_T36 l0 x36_2).f0).length : Int)) = true := decide_eq_true c18
                            clear c18
                            replace H := Option.bind_eq_some_iff.mp H
                            obtain ⟨t114, A190, H⟩ := H
                            replace H : (if t114 = true then (impl_Contend.l1 k3 l0 a1 a2 l0 (l0.length : Int) x36_2 ((rd_T36 l0 x36_2).f0) (((rd_T36 l0 x36_2).f0).length : Int) (wrap64 (x43_3 + 1))) else (some (([] : List Int), false))) = some (r1, r2) := H
                            have A19 := Aside0.mk A190
                            clear A190
                            by_cases c20 : t114 = true
                            · subst c20
                              have H1 : (impl_Contend.l1 k3 l0 a1 a2 l0 (l0.length : Int) x36_2 ((rd_T36 l0 x36_2).f0) (((rd_T36 l0 x36_2).f0).length : Int) (wrap64 (x43_3 + 1))) = some (r1, r2) := by rw [if_pos rfl] at H; exact H
                              clear H
                              have H := H1
                              clear H1
                              have H' := Aside0.mk H
                              clear H
                              have p113 : 0 ≤ (x43_3 : Int) := of_decide_eq_true (by first | (with_reducible assumption) | assumption)
                              have q113 : x43_3 < (((rd_T36 l0 x36_2).f0).length : Int) := of_decide_eq_true (by first | (with_reducible assumption) | assumption)
                              obtain ⟨ad113, e113, hx113_0⟩ := Kd.at_int HR111_0.out x43_3 p113 q113
                              cases e113
                              try (replace hx113_0 := (HB.out.cell (World.block_lt_of_cell? w _ hx113_0)).trans hx113_0)
                              replace p113 := eq_true p113
                              replace q113 := eq_true q113
                              go_wp2_with (first | ((with_reducible refine gate_callee (f := 24) rfl ?_); refine goesL_ (some 48) rfl rfl Try.func24 (by kernel_rfl) rfl #[.int .i64 (rd ((rd_T36 l0 x36_2).f0) x43_3), .int .i64 0, .int .i64 1000] rfl (by (try simp only [List.map_toArray, List.map_cons, List.map_nil]); first | done | rfl | (simp only [List.length_drop, List.length_take]; rfl)) ?_; (with_reducible refine (impl_in.calls (rd ((rd_T36 l0 x36_2).f0) x43_3) 0 1000 true _ A19.out).mono ?_); rintro e w' ⟨rfl, ⟨nd, rfl⟩⟩; refine ⟨_, rfl, ?_⟩))
                              go_roundg k3
                              case measure => have := HJ3.out; have := HK2.out; have := HK3.out; omega
                              case rel => exact ⟨(wrap64 (x43_3 + 1)), (by first | rfl | (simp; done) | (simp [*]; done)), H', ⟨by have := HJ3.out; have := HK2.out; have := HK3.out; omega⟩, ⟨by (with_reducible repeat (first | refine blk_drewN ?_ _ | refine blk_drew ?_ | refine blk_alloc ?_ _)); exact BK112.out⟩, ⟨by repeat (first | (with_reducible first | exact HB.out | apply below_alloc | apply pw_below_drewN | apply below_drew1 | refine below_set ?_ GE112.out) | exact HB.out)⟩⟩
                            · replace c20 := Bool.eq_false_iff.mpr c20
                              subst c20
                              have H1 : (some (([] : List Int), false)) = some (r1, r2) := by rw [if_neg (show ¬ (false = true) by decide)] at H; exact H
                              clear H
                              have H := H1
                              clear H1
                              simp only [Option.some.injEq, Prod.mk.injEq] at H
                              obtain ⟨rfl, rfl⟩ := H
                              have p113 : 0 ≤ (x43_3 : Int) := of_decide_eq_true (by first | (with_reducible assumption) | assumption)
                              have q113 : x43_3 < (((rd_T36 l0 x36_2).f0).length : Int) := of_decide_eq_true (by first | (with_reducible assumption) | assumption)
                              obtain ⟨ad113, e113, hx113_0⟩ := Kd.at_int HR111_0.out x43_3 p113 q113
                              cases e113
                              try (replace hx113_0 := (HB.out.cell (World.block_lt_of_cell? w _ hx113_0)).trans hx113_0)
                              replace p113 := eq_true p113
                              replace q113 := eq_true q113
                              go_wp2_with (first | ((with_reducible refine gate_callee (f := 24) rfl ?_); refine goesL_ (some 48) rfl rfl Try.func24 (by kernel_rfl) rfl #[.int .i64 (rd ((rd_T36 l0 x36_2).f0) x43_3), .int .i64 0, .int .i64 1000] rfl (by (try simp only [List.map_toArray, List.map_cons, List.map_nil]); first | done | rfl | (simp only [List.length_drop, List.length_take]; rfl)) ?_; (with_reducible refine (impl_in.calls (rd ((rd_T36 l0 x36_2).f0) x43_3) 0 1000 false _ A19.out).mono ?_); rintro e w' ⟨rfl, ⟨nd, rfl⟩⟩; refine ⟨_, rfl, ?_⟩))
                              go_ret2
                              exact ⟨_, by first | rfl | (simp [errW_none, errW_some] <;> rfl) | (simp [*, errW_none, errW_some] <;> rfl), by first | exact Kd.R_nil _ _ _ _ _ | exact Kd.N_nil _ _ _ _ _ | exact Kd.V_nil _ _ _ _ _ | exact Kd.Q_nil _ _ _ _ _ | exact Kd.S_nil _ _ _ _ _, by repeat (first | (with_reducible first | exact HB.out | apply below_alloc | apply pw_below_drewN | apply below_drew1 | refine below_set ?_ GE112.out) | exact HB.out)⟩
                          · rw [if_neg c18] at H
                            exact absurd H (by simp)
                        · rw [if_neg c17] at H
                          exact absurd H (by simp)
                      · rw [if_neg c16] at H
                        have c16b0 : decide (x43_3 < (((rd_T36 l0 x36_2).f0).length : Int)) = false := decide_eq_false c16
                        clear c16
                        have H' := Aside0.mk H
                        clear H
                        go_wp2
                        go_roundg k3
                        case measure => have := HJ3.out; have := HK2.out; have := HK3.out; omega
                        case rel => exact ⟨(wrap64 (x36_2 + 1)), (by first | rfl | (simp; done) | (simp [*]; done)), H', ⟨by have := HJ3.out; have := HK2.out; have := HK3.out; omega⟩, ⟨by repeat (first | (with_reducible first | exact HB.out | apply below_alloc | apply pw_below_drewN | apply below_drew1 | refine below_set ?_ GE112.out) | exact HB.out)⟩⟩
                · rw [if_neg c13] at H
                  exact absurd H (by simp)
              · rw [if_neg c12] at H
                exact absurd H (by simp)
            · rw [if_neg c11] at H
              have c11b0 : decide (x36_2 < (l0.length : Int)) = false := decide_eq_false c11
              clear c11
              obtain ⟨y115, hy115⟩ : ∃ y_ : List Int, y_ = (([(-1)] : List Int)) := ⟨_, rfl⟩
              replace H : ((slices_Repeat_int_int.f k2 y115 (l0.length : Int)).bind fun t118 => (impl_Contend.l2 k2 l0 a1 t118 a2 0)) = some (r1, r2) := by first | (rw [hy115]; with_reducible exact H) | (have H2_ := (Option.bind_some _ _).symm.trans H; rw [hy115]; with_reducible exact H2_) | (have H2_ := (Option.bind_some _ _).symm.trans H; with_reducible exact H2_) | with_reducible exact H | (rw [hy115]; exact H) | exact H
              have Ny115 := Aside0.mk hy115
              clear hy115
              replace H := Option.bind_eq_some_iff.mp H
              obtain ⟨t118, A210, H⟩ := H
              replace H : (impl_Contend.l2 k2 l0 a1 t118 a2 0) = some (r1, r2) := H
              have A21 := Aside0.mk A210
              clear A210
              have H' := Aside0.mk H
              clear H
              go_wp2_with (first | ((with_reducible refine gate_dst (N := 52) rfl ?_); (try (refine gate_guard (by rfl) ?_; dsimp only)); refine Kd.R_lit (Kd.int .i64) _ 3 ?hg (N := 52) ?hd (xs := ([(-1)] : List Int)) (inner := [.int .i64 (-1)]) (ok := fun _ => True) (okp := fun _ => True) ?hr ?hp (fun _ hk => hk) trivial (Below.refl _ _) (Nat.le_refl _) (by simp) ?_; (case hd => rfl); (case hg => rfl); (case hr => first | (go_simp; done) | (go_simp; rfl)); (case hp => exact (Reps.one (show Kd.M (Kd.int .i64) _ _ _ (-1) [.int .i64 (-1)] from rfl) (Reps.none _ _))); intro v116 w22 ho23 hb hg_ hnew_; clear hg_ hnew_; (first | rw [← Ny115.out] at ho23 | (simp only [Int.reduceToNat] at ho23; rw [← Ny115.out] at ho23)); have n0_ := Aside0.mk (Kd.R_lower ho23 (below_size (by repeat (first | (with_reducible first | exact HB.out | apply below_alloc | apply pw_below_drewN | apply below_drew1) | exact HB.out)))); have n1_ := Aside0.mk (below_step (by repeat (first | (with_reducible first | exact HB.out | apply below_alloc | apply pw_below_drewN | apply below_drew1) | exact HB.out)) hb); clear HB; have HO117 := n0_; have HB := n1_; clear n0_ n1_; clear hb ho23; obtain ⟨Ao24, co24, eo24⟩ := Kd.R_slice HO117.out; subst eo24) | ((with_reducible refine gate_callee (f := 27) rfl ?_); refine goesL_ (some 55) rfl rfl Try.func27 (by kernel_rfl) rfl #[.slice Ao24 y115.length co24, .int .i64 (l0.length : Int)] rfl (by (try simp only [List.map_toArray, List.map_cons, List.map_nil]); first | done | rfl | (simp only [List.length_drop, List.length_take]; rfl)) ?_; (with_reducible refine (slices_Repeat_int_int.calls k2 _ _ y115 (l0.length : Int) t118 _ ?side1 ?side2 A21.out).mono ?_); (case side1 => repeat (first | exact (Kd.R_reads' HO117.out).2.2 | (with_reducible refine Kd.C_alloc ?_ _) | (with_reducible refine Kd.C_drewN ?_ _) | (with_reducible refine Kd.C_drew ?_))); (case side2 => exact (Kd.R_reads' HO117.out).2.1); rintro e w25 ⟨v119, rfl, ho0, hb⟩; refine ⟨_, rfl, ?_⟩; have n0_ := Aside0.mk (Kd.R_elder' (by (with_reducible repeat (first | apply Kd.R_alloc | apply Kd.R_drewN | apply Kd.R_drew)); exact HO117.out) (Kd.R_base ho0) hb); have n1_ := Aside0.mk (Kd.R_lower (Kd.R_new' ho0 (Kd.R_lt (by (with_reducible repeat (first | apply Kd.R_alloc | apply Kd.R_drewN | apply Kd.R_drew)); exact HO117.out))) (below_size (by repeat (first | (with_reducible first | exact HB.out | apply below_alloc | apply pw_below_drewN | apply below_drew1) | exact HB.out)))); have n2_ := Aside0.mk (below_step (by repeat (first | (with_reducible first | exact HB.out | apply below_alloc | apply pw_below_drewN | apply below_drew1) | exact HB.out)) hb); clear HO117; clear HB; have HO117 := n0_; have HO120 := n1_; have HB := n2_; clear n0_ n1_ n2_; (try clear hb); (try clear hb2); (try clear hk); (try clear hi); (try clear ho0)))
              go_loopg [57] k2 (fun kq v57 w' => ∃ (x12_3 : List Int) (x57_3 : Int), v57 = .int .i64 x57_3 ∧ Aside0 (impl_Contend.l2 kq l0 a1 x12_3 a2 x57_3 = some (r1, r2)) ∧ Aside0 (kq ≤ k2) ∧ Aside0 (Kd.R (Kd.int .i64) 3 w' w.heap.size (fun _ => True) v119 x12_3) ∧ Aside0 (Below w.heap.size w w'))
              case atStart => exact ⟨(t118), (0), (by first | rfl | (simp; done) | (simp [*]; done)), H', ⟨Nat.le_refl _⟩, ⟨by (with_reducible repeat (first | apply Kd.R_alloc | apply Kd.R_drewN | apply Kd.R_drew)); exact Kd.R_mono HO120.out (fun _ hk => trivial)⟩, ⟨by repeat (first | (with_reducible first | exact HB.out | apply below_alloc | apply pw_below_drewN | apply below_drew1) | exact HB.out)⟩⟩
              case round =>
                clear H'
                try clear c1
                try clear p1
                try clear q1
                try clear hx1
                try clear c2
                try clear p2
                try clear c6
                try clear p6
                try clear c8
                try clear c10
                try clear c11
                try clear c11b0
                try clear p11
                try clear q11
                try clear hx11
                try clear c12
                try clear c12b0
                try clear c13
                try clear c13b0
                try clear c16
                try clear c16b0
                try clear c17
                try clear c17b0
                try clear c18
                try clear c18b0
                try clear c20
                try clear c24
                try clear hcz15_0
                try clear hfz15_0
                try clear hx111_0
                try clear hx113_0
                try clear p1
                try clear p11
                try clear p111
                try clear p113
                try clear p2
                try clear q1
                try clear q11
                try clear q111
                try clear q113
                obtain ⟨x12_3, x57_3, rfl, HA, HK3, HO_12, HB⟩ := hrel
                cases gk with
                | zero => exact absurd HA.out (by simp [impl_Contend.l2])
                | succ k3 =>
                  have H := HA.out
                  clear HA
                  simp only [impl_Contend.l2] at H
                  by_cases c26 : x57_3 < a2
                  · rw [if_pos c26] at H
                    have c26b0 : decide (x57_3 < a2) = true := decide_eq_true c26
                    clear c26
                    by_cases c27 : 16 ≤ 11728124029610
                    · rw [if_pos c27] at H
                      have c27b0 := eq_true c27
                      have c27b1 : decide (16 ≤ 11728124029610) = true := decide_eq_true c27
                      clear c27
                      obtain ⟨y121, hy121⟩ : ∃ y_ : List (List Int), y_ = (List.replicate 16 []) := ⟨_, rfl⟩
                      replace H : (impl_Contend.l3 k3 l0 a1 x12_3 x57_3 y121 a2 x57_3 l0 (l0.length : Int) 0) = some (r1, r2) := by first | (rw [hy121]; with_reducible exact H) | (have H2_ := (Option.bind_some _ _).symm.trans H; rw [hy121]; with_reducible exact H2_) | (have H2_ := (Option.bind_some _ _).symm.trans H; with_reducible exact H2_) | with_reducible exact H | (rw [hy121]; exact H) | exact H
                      have Ny121 := Aside0.mk hy121
                      clear hy121
                      have H' := Aside0.mk H
                      clear H
                      go_wp2_with (first | ((with_reducible refine gate_dst (N := 14) rfl ?_); (try (refine gate_guard (by rfl) ?_; dsimp only)); refine box_event ?hg (N := 14) ?hd (cs := Go.Proofs.Ytheinelpeapleaa.HandArr.nils) (t := 51) ?hr ?_; (case hd => rfl); (case hg => rfl); (case hr => first | (go_simp; done) | (go_simp; rfl)); intro gb122 hgA w28 hbox hb; obtain ⟨v122, hv122⟩ : ∃ v_ : Value, v_ = .slice (some ⟨gb122, 0, none⟩) 16 16 := ⟨_, rfl⟩; have ho29 := Go.Proofs.Ytheinelpeapleaa.HandArr.S_of_arr hbox (Nat.le_of_eq hgA.symm) (fun _ => True) trivial; rw [← hv122] at ho29; have HV122 := Aside0.mk hv122; clear hv122 hbox hgA; (first | rw [← Ny121.out] at ho29 | (simp only [Int.reduceToNat] at ho29; rw [← Ny121.out] at ho29)); have n0_ := Aside0.mk (Kd.R_below (by (with_reducible repeat (first | apply Kd.R_alloc | apply Kd.R_drewN | apply Kd.R_drew)); exact HO_12.out) hb); have n1_ := Aside0.mk (Kd.S_lower (Kd.S_new' ho29 (Kd.R_lt (by (with_reducible repeat (first | apply Kd.R_alloc | apply Kd.R_drewN | apply Kd.R_drew)); exact HO_12.out))) (below_size (by repeat (first | (with_reducible first | exact HB.out | apply below_alloc | apply pw_below_drewN | apply below_drew1) | exact HB.out)))); have n2_ := Aside0.mk (below_step (by repeat (first | (with_reducible first | exact HB.out | apply below_alloc | apply pw_below_drewN | apply below_drew1) | exact HB.out)) hb); clear HO_12; clear HB; have HO_12 := n0_; have HO123 := n1_; have HB := n2_; clear n0_ n1_ n2_; clear hb ho29))
                      go_loopg [62] k3 (fun kq v62 w' => ∃ (x14_4 : List (List Int)) (x62_4 : Int), v62 = .int .i64 x62_4 ∧ Aside0 (impl_Contend.l3 kq l0 a1 x12_3 x57_3 x14_4 a2 x57_3 l0 (l0.length : Int) x62_4 = some (r1, r2)) ∧ Aside0 (kq ≤ k3) ∧ Aside0 (Kd.R (Kd.int .i64) 3 w' w.heap.size (fun _ => True) v119 x12_3) ∧ Aside0 (Kd.S (Kd.slice 3 (Kd.int .i64)) 51 w' w.heap.size (fun k_ => some k_ ≠ (v119 : Value).ownBlock) v122 x14_4) ∧ Aside0 (Below w.heap.size w w'))
                      case atStart => exact ⟨(y121), (0), (by first | rfl | (simp; done) | (simp [*]; done)), H', ⟨Nat.le_refl _⟩, ⟨by (with_reducible repeat (first | apply Kd.R_alloc | apply Kd.R_drewN | apply Kd.R_drew)); exact HO_12.out⟩, ⟨by (with_reducible repeat (first | apply Kd.S_alloc | apply Kd.S_drewN | apply Kd.S_drew)); exact Kd.S_mono HO123.out (fun _ hk => hk.2)⟩, ⟨by repeat (first | (with_reducible first | exact HB.out | apply below_alloc | apply pw_below_drewN | apply below_drew1) | exact HB.out)⟩⟩
                      case round =>
                        clear H'
                        try clear c1
                        try clear p1
                        try clear q1
                        try clear hx1
                        try clear c2
                        try clear p2
                        try clear c6
                        try clear p6
                        try clear c8
                        try clear c10
                        try clear c11
                        try clear c11b0
                        try clear p11
                        try clear q11
                        try clear hx11
                        try clear c12
                        try clear c12b0
                        try clear c13
                        try clear c13b0
                        try clear c16
                        try clear c16b0
                        try clear c17
                        try clear c17b0
                        try clear c18
                        try clear c18b0
                        try clear c20
                        try clear c24
                        try clear c26
                        try clear c26b0
                        try clear c27
                        try clear c27b0
                        try clear c27b1
                        try clear hcz15_0
                        try clear hfz15_0
                        try clear hx111_0
                        try clear hx113_0
                        try clear p1
                        try clear p11
                        try clear p111
                        try clear p113
                        try clear p2
                        try clear p6
                        try clear q1
                        try clear q11
                        try clear q111
                        try clear q113
                        obtain ⟨x14_4, x62_4, rfl, HA, HK4, HO_12, HO_14, HB⟩ := hrel
                        cases gk with
                        | zero => exact absurd HA.out (by simp [impl_Contend.l3])
                        | succ k4 =>
                          have H := HA.out
                          clear HA
                          simp only [impl_Contend.l3] at H
                          by_cases c30 : x62_4 < (l0.length : Int)
                          · rw [if_pos c30] at H
                            have c30b0 : decide (x62_4 < (l0.length : Int)) = true := decide_eq_true c30
                            clear c30
                            by_cases c31 : 0 ≤ x62_4
                            · rw [if_pos c31] at H
                              have c31b0 : decide (0 ≤ x62_4) = true := decide_eq_true c31
                              clear c31
                              by_cases c32 : x62_4 < (l0.length : Int)
                              · rw [if_pos c32] at H
                                have c32b0 : decide (x62_4 < (l0.length : Int)) = true := decide_eq_true c32
                                clear c32
                                by_cases c33 : x62_4 < (x12_3.length : Int)
                                · rw [if_pos c33] at H
                                  have c33b0 : decide (x62_4 < (x12_3.length : Int)) = true := decide_eq_true c33
                                  clear c33
                                  by_cases c34 : (rd x12_3 x62_4) < 0
                                  · rw [if_pos c34] at H
                                    have c34b0 : decide ((rd x12_3 x62_4) < 0) = true := decide_eq_true c34
                                    clear c34
                                    by_cases c35 : x57_3 < (((rd_T36 l0 x62_4).f0).length : Int)
                                    · rw [if_pos c35] at H
                                      have c35b0 : decide (x57_3 < (((rd_T36 l0 x62_4).f0).length : Int)) = true := decide_eq_true c35
                                      clear c35
                                      by_cases c36 : 0 ≤ x57_3
                                      · rw [if_pos c36] at H
                                        have c36b0 : decide (0 ≤ x57_3) = true := decide_eq_true c36
                                        clear c36
                                        by_cases c37 : a1 = 0
                                        · rw [if_pos c37] at H
                                          exact absurd H (by simp)
                                        · rw [if_neg c37] at H
                                          have c37b0 : (a1 == 0) = false := beq_eq_false_iff_ne.mpr c37
                                          have c37b1 : (a1 != 0) = true := bne_iff_ne.mpr c37
                                          obtain ⟨ji38, hji38⟩ : ∃ j_ : Int, (Int.tmod (rd ((rd_T36 l0 x62_4).f0) x57_3) a1) = j_ := ⟨_, rfl⟩
                                          replace H : (if 0 ≤ (ji38) then (if (ji38) < (x14_4.length : Int) then (if (rd_L1 x14_4 (ji38)).length < 17592186044416 then (impl_Contend.l3 k4 l0 a1 x12_3 x57_3 (x14_4.set ((ji38) : Int).toNat ((rd_L1 x14_4 (ji38)) ++ [x62_4])) a2 x57_3 l0 (l0.length : Int) (wrap64 (x62_4 + 1))) else (none)) else (none)) else (none)) = some (r1, r2) := by first | (rw [hji38] at H; exact H) | (simp only [hji38] at H ⊢; exact H)
                                          by_cases c39 : 0 ≤ (ji38)
                                          · rw [if_pos c39] at H
                                            have c39b0 : decide (0 ≤ (ji38)) = true := decide_eq_true c39
                                            clear c39
                                            by_cases c40 : (ji38) < (x14_4.length : Int)
                                            · rw [if_pos c40] at H
                                              have c40b0 : decide ((ji38) < (x14_4.length : Int)) = true := decide_eq_true c40
                                              clear c40
                                              by_cases c41 : (rd_L1 x14_4 (ji38)).length < 17592186044416
                                              · rw [if_pos c41] at H
                                                have LMc41 := Aside0.mk c41
                                                clear c41
                                                obtain ⟨y129, hy129⟩ : ∃ y_ : List Int, y_ = ((rd_L1 x14_4 (ji38)) ++ [x62_4]) := ⟨_, rfl⟩
                                                replace H : (impl_Contend.l3 k4 l0 a1 x12_3 x57_3 (x14_4.set ((ji38) : Int).toNat y129) a2 x57_3 l0 (l0.length : Int) (wrap64 (x62_4 + 1))) = some (r1, r2) := by first | (rw [hy129]; with_reducible exact H) | (have H2_ := (Option.bind_some _ _).symm.trans H; rw [hy129]; with_reducible exact H2_) | (have H2_ := (Option.bind_some _ _).symm.trans H; with_reducible exact H2_) | with_reducible exact H | (rw [hy129]; exact H) | exact H
                                                have Ny129 := Aside0.mk hy129
                                                clear hy129
                                                obtain ⟨y132, hy132⟩ : ∃ y_ : List (List Int), y_ = (x14_4.set ((ji38) : Int).toNat y129) := ⟨_, rfl⟩
                                                replace H : (impl_Contend.l3 k4 l0 a1 x12_3 x57_3 y132 a2 x57_3 l0 (l0.length : Int) (wrap64 (x62_4 + 1))) = some (r1, r2) := by first | (rw [hy132]; with_reducible exact H) | (have H2_ := (Option.bind_some _ _).symm.trans H; rw [hy132]; with_reducible exact H2_) | (have H2_ := (Option.bind_some _ _).symm.trans H; with_reducible exact H2_) | with_reducible exact H | (rw [hy132]; exact H) | exact H
                                                have Ny132 := Aside0.mk hy132
                                                clear hy132
                                                have H' := Aside0.mk H
                                                clear H
                                                have p124 : 0 ≤ (x62_4 : Int) := of_decide_eq_true (by first | (with_reducible assumption) | assumption)
                                                have q124 : x62_4 < (l0.length : Int) := of_decide_eq_true (by first | (with_reducible assumption) | assumption)
                                                obtain ⟨ad124, A124_0, c124_0, e124, hx124_0, hl124_0, hi124_0⟩ := at_T36 HR0.out x62_4 p124 q124
                                                cases e124
                                                try (replace hx124_0 := (HB.out.cell (World.block_lt_of_cell? w _ hx124_0)).trans hx124_0)
                                                have HR124_0 := Aside0.mk hi124_0
                                                have HC124_0 := Aside0.mk hl124_0
                                                clear hi124_0 hl124_0
                                                replace p124 := eq_true p124
                                                replace q124 := eq_true q124
                                                go_wp2_with (first | ((with_reducible refine gate_dst (N := 16) rfl ?_); (try (refine gate_guard (by rfl) ?_; dsimp only)); refine box_event ?hg (N := 16) ?hd (cs := #[.slice none 0 0]) (t := 36) ?hr ?_; (case hd => rfl); (case hg => rfl); (case hr => first | (go_simp; done) | (go_simp; rfl)); intro gb125 hg w43 hbox hb; have n0_ := Aside0.mk (Kd.R_below (by (with_reducible repeat (first | apply Kd.R_alloc | apply Kd.R_drewN | apply Kd.R_drew)); exact HO_12.out) hb); have n1_ := Aside0.mk (Kd.S_below (by (with_reducible repeat (first | apply Kd.S_alloc | apply Kd.S_drewN | apply Kd.S_drew)); exact HO_14.out) hb); have n2_ := Aside0.mk (below_step (by repeat (first | (with_reducible first | exact HB.out | apply below_alloc | apply pw_below_drewN | apply below_drew1) | exact HB.out)) hb); have n3_ := Aside0.mk (hbox); have n4_ := Aside0.mk ((by rw [hg]; exact (below_size (by repeat (first | (with_reducible first | exact HB.out | apply below_alloc | apply pw_below_drewN | apply below_drew1) | exact HB.out))) : w.heap.size ≤ gb125)); have n5_ := Aside0.mk ((by rw [hg]; exact (below_size (by repeat (first | (with_reducible first | exact HB.out | apply below_alloc | apply pw_below_drewN | apply below_drew1) | exact HB.out))) : w.heap.size ≤ gb125)); clear HO_12; clear HO_14; clear HB; have HO_12 := n0_; have HO_14 := n1_; have HB := n2_; have BK125 := n3_; have GW125 := n4_; have GE125 := n5_; clear n0_ n1_ n2_ n3_ n4_ n5_; clear hb hbox hg; have hcz44_0 : w43.cell? ⟨gb125, 0, none⟩ = some (.slice none 0 0) := (blk_cell BK125.out 0).trans rfl; have hfz44_0 := blk_frozen BK125.out 0) | ((with_reducible refine gate_store (t := 36) (p := 16) rfl ?_); refine store_event (t := 36) (p := 16) (v := ?vo_w45) (w1 := (w43.setCell ⟨gb125, 0, none⟩ (.slice A124_0 ((rd_T36 l0 x62_4).f0).length c124_0))) ?hg ?ho ?hn ?hr ?_; (case ho => rfl); (case hg => rfl); (case hn => rfl); (case hr => first | (go_simp; done) | (go_simp; rfl)); intro w45 hw; have n0_ : Aside0 (Kd.R (Kd.int .i64) 3 w45 w.heap.size (fun _ => True) v119 x12_3) := ⟨(by rw [hw]; exact (by (with_reducible repeat (first | apply Kd.R_alloc | apply Kd.R_drewN | apply Kd.R_drew)); exact Kd.R_mono (Kd.R_far (p := ⟨gb125, 0, none⟩) (Kd.R_types HO_12.out BK125.out (by decide)) (fun _ hk => hk.2) (.slice A124_0 ((rd_T36 l0 x62_4).f0).length c124_0)) (fun _ hk => trivial)))⟩; have n1_ : Aside0 (Kd.S (Kd.slice 3 (Kd.int .i64)) 51 w45 w.heap.size (fun k_ => some k_ ≠ (v119 : Value).ownBlock) v122 x14_4) := ⟨(by rw [hw]; exact (by (with_reducible repeat (first | apply Kd.S_alloc | apply Kd.S_drewN | apply Kd.S_drew)); exact Kd.S_mono (Kd.S_far (p := ⟨gb125, 0, none⟩) (Kd.S_types HO_14.out BK125.out (by decide)) (fun _ hk => hk.2) (.slice A124_0 ((rd_T36 l0 x62_4).f0).length c124_0)) (fun _ hk => hk.1)))⟩; have n2_ : Aside0 (w45.heap[gb125]? = some (.cells #[.slice A124_0 ((rd_T36 l0 x62_4).f0).length c124_0] 36 (0, 0))) := ⟨(by rw [hw]; exact (by (with_reducible repeat (first | refine blk_drewN ?_ _ | refine blk_drew ?_ | refine blk_alloc ?_ _)); refine blk_put (cs := #[.slice none 0 0]) ?_ 0 _ rfl; (with_reducible repeat (first | refine blk_drewN ?_ _ | refine blk_drew ?_ | refine blk_alloc ?_ _)); exact BK125.out))⟩; have n3_ : Aside0 (Below w.heap.size w w45) := ⟨(by rw [hw]; exact (by repeat (first | (with_reducible first | exact HB.out | apply below_alloc | apply pw_below_drewN | apply below_drew1 | refine below_set ?_ GE125.out) | exact HB.out)))⟩; clear hw; clear HO_12; clear HO_14; clear BK125; clear HB; have HO_12 := n0_; have HO_14 := n1_; have BK125 := n2_; have HB := n3_; clear n0_ n1_ n2_ n3_; obtain ⟨Ao46, co46, eo46⟩ := Kd.R_slice HO_12.out; subst eo46; have p126 : 0 ≤ (x62_4 : Int) := of_decide_eq_true (by first | (with_reducible assumption) | assumption); have q126 : x62_4 < (x12_3.length : Int) := of_decide_eq_true (by first | (with_reducible assumption) | assumption); obtain ⟨ad126, e126, hx126_0⟩ := Kd.at_int (Kd.R_reads' HO_12.out).2.2 x62_4 p126 q126; cases e126; replace p126 := eq_true p126; replace q126 := eq_true q126; have hcz47_0 : w45.cell? ⟨gb125, 0, none⟩ = some (.slice A124_0 ((rd_T36 l0 x62_4).f0).length c124_0) := (blk_cell BK125.out 0).trans rfl; have hfz47_0 := blk_frozen BK125.out 0; have p127 : 0 ≤ (x57_3 : Int) := of_decide_eq_true (by first | (with_reducible assumption) | assumption); have q127 : x57_3 < (((rd_T36 l0 x62_4).f0).length : Int) := of_decide_eq_true (by first | (with_reducible assumption) | assumption); obtain ⟨ad127, e127, hx127_0⟩ := Kd.at_int HR124_0.out x57_3 p127 q127; cases e127; replace hx127_0 := (HB.out.cell (World.block_lt_of_cell? w _ hx127_0)).trans hx127_0; replace p127 := eq_true p127; replace q127 := eq_true q127; obtain ⟨Ao48, co48, eo48⟩ := Kd.S_slice HO_14.out; subst eo48; have HE_ := HV122.out; injection HE_ with ea1_ ea2_ ea3_; have HE48 := Aside0.mk ea1_; have LN48 := Aside0.mk ea2_; clear ea1_ ea2_ ea3_; have p128 : 0 ≤ ((ji38) : Int) := of_decide_eq_true (by first | (with_reducible assumption) | assumption); have q128 : (ji38) < (x14_4.length : Int) := of_decide_eq_true (by first | (with_reducible assumption) | assumption); obtain ⟨ad128, A128_0, c128_0, e128, hx128_0, hl128_0, hi128_0⟩ := at_L1 (Kd.S_reads' HO_14.out).2.2 (ji38) p128 q128; cases e128; obtain ⟨ce128, hce128, hMe128, hcc128⟩ := Kd.S_get HO_14.out [] (ji38) p128 (by first | exact q128 | exact of_decide_eq_true (by first | (with_reducible assumption) | assumption) | (have e_ := (Kd.S_reads' HO_14.out).1; omega)); obtain ⟨ve128_0, rfl, ge128_0⟩ := hMe128; have hv128_0 := hcc128 0 _ rfl; rw [Nat.add_zero, show ((Kd.slice 3 (Kd.int .i64))).sz = 1 from rfl, Nat.mul_one] at hv128_0; replace hv128_0 := Option.some.inj (hv128_0.symm.trans hx128_0); rw [hv128_0] at ge128_0; have HL128_0 := Aside0.mk (show Kd.R (Kd.int .i64) 3 _ _ _ _ (rd_L1 x14_4 (ji38)) from ge128_0); clear hv128_0 ge128_0; have HX128_0 := Aside0.mk hx128_0; clear hcc128 hce128; have HR128_0 := Aside0.mk hi128_0; have HC128_0 := Aside0.mk hl128_0; clear hi128_0 hl128_0; replace p128 := eq_true p128; replace q128 := eq_true q128; obtain ⟨go49, co49, eo49, gb49, gl49, cl49, HG49⟩ := Kd.S_form HO_14.out (by have h_ : ((ji38) : Int) < ((x14_4.length : Int) : Int) := of_decide_eq_true (by first | (with_reducible assumption) | assumption); have h2_ : 0 ≤ ((ji38) : Int) := (of_decide_eq_true (by first | (with_reducible assumption) | assumption)); omega); (first | cases eo49 | (injection eo49 with ea_ en_ ec_; (first | subst ea_ | (injection ea_ with ea_; subst ea_)); subst ec_; clear en_)); have hE_ := HE48.out; injection hE_ with hE_; injection hE_ with hE_; subst hE_; have a16_ : ji38 < 16 := (by have h_ : ((ji38) : Int) < ((x14_4.length : Int) : Int) := of_decide_eq_true (by first | (with_reducible assumption) | assumption); have := LN48.out; omega); have a16b_ : decide (ji38 < 16) = true := decide_eq_true a16_; have GB49 := Aside0.mk gb49; have GG49 := Aside0.mk HG49; clear gb49 gl49 HG49; (first | simp only [add_plain] at hx128_0 | skip); obtain ⟨oki49, ce49, hcl49, hM49, hcc49, _, _, hH49⟩ := Kd.S_elem HO_14.out [] ((ji38) : Int) (of_decide_eq_true (by first | (with_reducible assumption) | assumption)) (by have h_ : ((ji38) : Int) < ((x14_4.length : Int) : Int) := of_decide_eq_true (by first | (with_reducible assumption) | assumption); first | exact h_ | (have e_ := (Kd.S_reads' HO_14.out).1; omega) | simpa using h_); obtain ⟨ve49_0, rfl, ge49_0⟩ := hM49; have hv49 := hcc49 0 _ rfl; have hX49 := HX128_0.out; (try simp only [add_plain] at hX49); (try simp only [Nat.add_zero] at hv49); (try rw [show ((Kd.slice 3 (Kd.int .i64))).sz = 1 from rfl, Nat.mul_one] at hv49); replace hv49 := Option.some.inj (hv49.symm.trans hX49); subst hv49; clear hX49 hcc49 hcl49; have UU49 := Aside0.mk (show Kd.R (Kd.int .i64) 3 _ w.heap.size oki49 (.slice A128_0 (rd_L1 x14_4 (ji38)).length c128_0) (rd_L1 x14_4 (ji38)) from ge49_0); have HH49 := Aside0.mk hH49; have HN49 := Aside0.mk (Kd.S_reads' HO_14.out).1; clear hH49 ge49_0) | ((with_reducible refine gate_builtin (b := .append) (xs := #[.tmp 89, .tmp 91]) rfl ?_); (try (refine gate_guard (by rfl) ?_; dsimp only)); at_builtin; refine Kd.R_append (Kd.int .i64) (w0 := w) w.heap.size rfl (.tmp 89) (.tmp 91) 27 3 (.int .i64 0) 8 rfl Try.underlying27 info3 rfl (by decide) (by omega) (.slice A128_0 (rd_L1 x14_4 (ji38)).length c128_0) (rd_L1 x14_4 (ji38)) x62_4 [.int .i64 x62_4] (fun k_ => oki49 k_ ∨ ((fun k_ => some k_ ≠ (.slice (some ad126) x12_3.length co46 : Value).ownBlock)) k_ ∧ w45.heap.size ≤ k_) (fun _ => False) rfl rfl ?aP (fun _ hk => hk.elim) ?aF ?aO ?aB ?aS ?aL ?_; (case aP => exact rfl); (case aB => exact (by repeat (first | (with_reducible first | exact HB.out | apply below_alloc | apply pw_below_drewN | apply below_drew1 | refine below_set ?_ GE125.out) | exact HB.out))); (case aF => exact (fun k_ hk => .inr ⟨Kd.fresh' (Kd.R_lt (by (with_reducible repeat (first | apply Kd.R_alloc | apply Kd.R_drewN | apply Kd.R_drew)); exact HO_12.out)) k_ hk, hk⟩)); (case aO => exact (by (with_reducible repeat (first | apply Kd.R_alloc | apply Kd.R_drewN | apply Kd.R_drew)); exact Kd.R_mono UU49.out (fun _ hk => .inl hk))); (case aS => exact (below_size (by repeat (first | (with_reducible first | exact HB.out | apply below_alloc | apply pw_below_drewN | apply below_drew1 | refine below_set ?_ GE125.out) | exact HB.out)))); (case aL => have := LMc41.out; omega); intro v130 w50 ho hb hg hat; rw [← Ny129.out] at ho; have n0_ := Aside0.mk (Kd.R_grown2 (by (with_reducible repeat (first | apply Kd.R_alloc | apply Kd.R_drewN | apply Kd.R_drew)); exact HO_12.out) rfl hg (fun k_ e_ => (HL128_0.out.1 k_ e_).1)); have n1_ := Aside0.mk (blk_grown (g := gb125) (o := .cells #[.slice (some ad127) ((rd_T36 l0 x62_4).f0).length c124_0] 36 (0, 0)) (by (with_reducible repeat (first | refine blk_drewN ?_ _ | refine blk_drew ?_ | refine blk_alloc ?_ _)); exact BK125.out) hg (Kd.R_ne HL128_0.out BK125.out (by decide))); have n2_ := Aside0.mk (hb); have n3_ := Aside0.mk (Kd.H_grown (Kd.H_widen (by repeat (first | exact HH49.out | refine Kd.H_alloc ?_ _ | refine Kd.H_drewN ?_ _ | refine Kd.H_drew ?_))) hg (fun k_ e_ => .inl (UU49.out.1 k_ e_))); have n4_ := Aside0.mk (ho); clear HO_12; clear BK125; clear HB; clear HH49; clear HO_14; clear UU49; clear HL128_0; have HO_12 := n0_; have BK125 := n1_; have HB := n2_; have HH49 := n3_; have HO131 := n4_; clear n0_ n1_ n2_ n3_ n4_; clear ho hb hg hat; have p42 : 0 ≤ ((ji38) : Int) := of_decide_eq_true (by first | (with_reducible assumption) | assumption); have q42 : ((ji38) : Int) < ((x14_4.length : Int) : Int) := of_decide_eq_true (by first | (with_reducible assumption) | assumption); replace p42 := eq_true p42; replace q42 := eq_true q42; obtain ⟨Ao53, co53, eo53⟩ := Kd.R_slice HO131.out; subst eo53; obtain ⟨_, _, hraw51, _, _, hcc51, _⟩ := Kd.H_raw HH49.out (of_decide_eq_true (by first | (with_reducible assumption) | assumption)) (by have h_ : ((ji38) : Int) < ((x14_4.length : Int) : Int) := of_decide_eq_true (by first | (with_reducible assumption) | assumption); first | exact h_ | (have e_ := (HN49.out); omega) | simpa using h_); obtain ⟨_, hfr51⟩ := Kd.H_at HH49.out (of_decide_eq_true (by first | (with_reducible assumption) | assumption)) (by have h_ : ((ji38) : Int) < ((x14_4.length : Int) : Int) := of_decide_eq_true (by first | (with_reducible assumption) | assumption); first | exact h_ | (have e_ := (HN49.out); omega) | simpa using h_); have hx51_0 := hcc51 0 _ rfl; have hf51_0 := hfr51 0; (try simp only [Nat.add_zero] at hx51_0 hf51_0); (try rw [show ((Kd.slice 3 (Kd.int .i64))).sz = 1 from rfl, Nat.mul_one] at hx51_0); (try rw [show ((Kd.slice 3 (Kd.int .i64))).sz = 1 from rfl, Nat.mul_one] at hf51_0); have HP51 := Kd.S_seg0 HH49.out (of_decide_eq_true (by first | (with_reducible assumption) | assumption)) (by have h_ : ((ji38) : Int) < ((x14_4.length : Int) : Int) := of_decide_eq_true (by first | (with_reducible assumption) | assumption); first | exact h_ | (have e_ := (HN49.out); omega) | simpa using h_) (seg := [.slice Ao53 y129.length co53]) (j := 0) (show 1 ≤ 1 from by decide) (x' := y129) (Kd.M_row HO131.out) (fun _ hk => hk); (try simp only [show ((Kd.slice 3 (Kd.int .i64))).sz = 1 from rfl, Nat.mul_one, Nat.add_zero] at HP51); clear hcc51 hfr51) | ((with_reducible refine gate_store (t := 27) (p := 93) rfl ?_); refine store_event (t := 27) (p := 93) (v := ?vo_w52) (w1 := (w50.setCell ⟨go49, ((ji38) : Int).toNat, none⟩ (.slice Ao53 y129.length co53))) ?hg ?ho ?hn ?hr ?_; (case ho => rfl); (case hg => rfl); (case hn => rfl); (case hr => first | (go_simp; done) | (go_simp; rfl)); intro w52 hw; have hg : w50.grownBy w52 (some go49) := (by rw [hw]; exact HP51.2); have hp_ : Kd.S (Kd.slice 3 (Kd.int .i64)) 51 w52 w.heap.size (fun k_ => some k_ ≠ (.slice (some ad126) x12_3.length co46 : Value).ownBlock) (.slice (some ⟨go49, 0, none⟩) x14_4.length co48) y132 := (by rw [hw, Ny132.out]; exact HP51.1); clear HP51; have n0_ := Aside0.mk (Kd.R_over' (v := (.slice (some ⟨go49, 0, none⟩) x14_4.length co48)) (by (with_reducible repeat (first | apply Kd.R_alloc | apply Kd.R_drewN | apply Kd.R_drew)); exact HO_12.out) (Kd.R_typed hraw51) (by decide) hg); have n1_ := Aside0.mk (blk_grown (g := gb125) (o := .cells #[.slice (some ad127) ((rd_T36 l0 x62_4).f0).length c124_0] 36 (0, 0)) (by (with_reducible repeat (first | refine blk_drewN ?_ _ | refine blk_drew ?_ | refine blk_alloc ?_ _)); exact BK125.out) hg (Kd.R_ne hraw51 BK125.out (by decide))); have n2_ := Aside0.mk ((by rw [hw]; exact below_set HB.out GB49.out : Below w.heap.size w w52)); have n3_ := Aside0.mk (hp_); clear HO_12; clear BK125; clear HB; clear HO131; clear HH49; have HO_12 := n0_; have BK125 := n1_; have HB := n2_; have HO_14 := n3_; clear n0_ n1_ n2_ n3_; clear hg hw hp_ hraw51))
                                                go_roundg k4
                                                case measure => have := HJ3.out; have := HK2.out; have := HK3.out; have := HK4.out; omega
                                                case rel => exact ⟨(y132), (wrap64 (x62_4 + 1)), (by first | rfl | (simp; done) | (simp [*]; done)), H', ⟨by have := HJ3.out; have := HK2.out; have := HK3.out; have := HK4.out; omega⟩, ⟨by (with_reducible repeat (first | apply Kd.R_alloc | apply Kd.R_drewN | apply Kd.R_drew)); exact HO_12.out⟩, ⟨by (with_reducible repeat (first | apply Kd.S_alloc | apply Kd.S_drewN | apply Kd.S_drew)); exact HO_14.out⟩, ⟨by repeat (first | (with_reducible first | exact HB.out | apply below_alloc | apply pw_below_drewN | apply below_drew1 | refine below_set ?_ GE125.out) | exact HB.out)⟩⟩
                                              · rw [if_neg c41] at H
                                                exact absurd H (by simp)
                                            · rw [if_neg c40] at H
                                              exact absurd H (by simp)
                                          · rw [if_neg c39] at H
                                            exact absurd H (by simp)
                                      · rw [if_neg c36] at H
                                        exact absurd H (by simp)
                                    · rw [if_neg c35] at H
                                      have c35b0 : decide (x57_3 < (((rd_T36 l0 x62_4).f0).length : Int)) = false := decide_eq_false c35
                                      clear c35
                                      have H' := Aside0.mk H
                                      clear H
                                      have p124 : 0 ≤ (x62_4 : Int) := of_decide_eq_true (by first | (with_reducible assumption) | assumption)
                                      have q124 : x62_4 < (l0.length : Int) := of_decide_eq_true (by first | (with_reducible assumption) | assumption)
                                      obtain ⟨ad124, A124_0, c124_0, e124, hx124_0, hl124_0, hi124_0⟩ := at_T36 HR0.out x62_4 p124 q124
                                      cases e124
                                      try (replace hx124_0 := (HB.out.cell (World.block_lt_of_cell? w _ hx124_0)).trans hx124_0)
                                      have HR124_0 := Aside0.mk hi124_0
                                      have HC124_0 := Aside0.mk hl124_0
                                      clear hi124_0 hl124_0
                                      replace p124 := eq_true p124
                                      replace q124 := eq_true q124
                                      go_wp2_with (first | ((with_reducible refine gate_dst (N := 16) rfl ?_); (try (refine gate_guard (by rfl) ?_; dsimp only)); refine box_event ?hg (N := 16) ?hd (cs := #[.slice none 0 0]) (t := 36) ?hr ?_; (case hd => rfl); (case hg => rfl); (case hr => first | (go_simp; done) | (go_simp; rfl)); intro gb125 hg w54 hbox hb; have n0_ := Aside0.mk (Kd.R_below (by (with_reducible repeat (first | apply Kd.R_alloc | apply Kd.R_drewN | apply Kd.R_drew)); exact HO_12.out) hb); have n1_ := Aside0.mk (Kd.S_below (by (with_reducible repeat (first | apply Kd.S_alloc | apply Kd.S_drewN | apply Kd.S_drew)); exact HO_14.out) hb); have n2_ := Aside0.mk (below_step (by repeat (first | (with_reducible first | exact HB.out | apply below_alloc | apply pw_below_drewN | apply below_drew1) | exact HB.out)) hb); have n3_ := Aside0.mk (hbox); have n4_ := Aside0.mk ((by rw [hg]; exact (below_size (by repeat (first | (with_reducible first | exact HB.out | apply below_alloc | apply pw_below_drewN | apply below_drew1) | exact HB.out))) : w.heap.size ≤ gb125)); have n5_ := Aside0.mk ((by rw [hg]; exact (below_size (by repeat (first | (with_reducible first | exact HB.out | apply below_alloc | apply pw_below_drewN | apply below_drew1) | exact HB.out))) : w.heap.size ≤ gb125)); clear HO_12; clear HO_14; clear HB; have HO_12 := n0_; have HO_14 := n1_; have HB := n2_; have BK125 := n3_; have GW125 := n4_; have GE125 := n5_; clear n0_ n1_ n2_ n3_ n4_ n5_; clear hb hbox hg; have hcz55_0 : w54.cell? ⟨gb125, 0, none⟩ = some (.slice none 0 0) := (blk_cell BK125.out 0).trans rfl; have hfz55_0 := blk_frozen BK125.out 0; obtain ⟨Ao56, co56, eo56⟩ := Kd.R_slice HO_12.out; subst eo56; have p126 : 0 ≤ (x62_4 : Int) := of_decide_eq_true (by first | (with_reducible assumption) | assumption); have q126 : x62_4 < (x12_3.length : Int) := of_decide_eq_true (by first | (with_reducible assumption) | assumption); obtain ⟨ad126, e126, hx126_0⟩ := Kd.at_int (Kd.R_reads' HO_12.out).2.2 x62_4 p126 q126; cases e126; have hn126_0 : ad126.block ≠ gb125 := Kd.own_blk (Kd.R_ne HO_12.out BK125.out (by decide)); replace hx126_0 := (cell_far (p := ⟨gb125, 0, none⟩) (by first | (rw [add_block]; exact hn126_0) | (show (Addr.add _ _).block ≠ _; rw [add_block]; exact hn126_0) | exact hn126_0) (.slice A124_0 ((rd_T36 l0 x62_4).f0).length c124_0)).trans hx126_0; clear hn126_0; replace p126 := eq_true p126; replace q126 := eq_true q126))
                                      go_roundg k4
                                      case measure => have := HJ3.out; have := HK2.out; have := HK3.out; have := HK4.out; omega
                                      case rel => exact ⟨(x14_4), (wrap64 (x62_4 + 1)), (by first | rfl | (simp; done) | (simp [*]; done)), H', ⟨by have := HJ3.out; have := HK2.out; have := HK3.out; have := HK4.out; omega⟩, ⟨by (with_reducible repeat (first | apply Kd.R_alloc | apply Kd.R_drewN | apply Kd.R_drew)); exact Kd.R_mono (Kd.R_far (p := ⟨gb125, 0, none⟩) (Kd.R_types HO_12.out BK125.out (by decide)) (fun _ hk => hk.2) (.slice A124_0 ((rd_T36 l0 x62_4).f0).length c124_0)) (fun _ hk => trivial)⟩, ⟨by (with_reducible repeat (first | apply Kd.S_alloc | apply Kd.S_drewN | apply Kd.S_drew)); exact Kd.S_mono (Kd.S_far (p := ⟨gb125, 0, none⟩) (Kd.S_types HO_14.out BK125.out (by decide)) (fun _ hk => hk.2) (.slice A124_0 ((rd_T36 l0 x62_4).f0).length c124_0)) (fun _ hk => hk.1)⟩, ⟨by repeat (first | (with_reducible first | exact HB.out | apply below_alloc | apply pw_below_drewN | apply below_drew1 | refine below_set ?_ GE125.out) | exact HB.out)⟩⟩
                                  · rw [if_neg c34] at H
                                    have c34b0 : decide ((rd x12_3 x62_4) < 0) = false := decide_eq_false c34
                                    clear c34
                                    have H' := Aside0.mk H
                                    clear H
                                    have p124 : 0 ≤ (x62_4 : Int) := of_decide_eq_true (by first | (with_reducible assumption) | assumption)
                                    have q124 : x62_4 < (l0.length : Int) := of_decide_eq_true (by first | (with_reducible assumption) | assumption)
                                    obtain ⟨ad124, A124_0, c124_0, e124, hx124_0, hl124_0, hi124_0⟩ := at_T36 HR0.out x62_4 p124 q124
                                    cases e124
                                    try (replace hx124_0 := (HB.out.cell (World.block_lt_of_cell? w _ hx124_0)).trans hx124_0)
                                    have HR124_0 := Aside0.mk hi124_0
                                    have HC124_0 := Aside0.mk hl124_0
                                    clear hi124_0 hl124_0
                                    replace p124 := eq_true p124
                                    replace q124 := eq_true q124
                                    go_wp2_with (first | ((with_reducible refine gate_dst (N := 16) rfl ?_); (try (refine gate_guard (by rfl) ?_; dsimp only)); refine box_event ?hg (N := 16) ?hd (cs := #[.slice none 0 0]) (t := 36) ?hr ?_; (case hd => rfl); (case hg => rfl); (case hr => first | (go_simp; done) | (go_simp; rfl)); intro gb125 hg w57 hbox hb; have n0_ := Aside0.mk (Kd.R_below (by (with_reducible repeat (first | apply Kd.R_alloc | apply Kd.R_drewN | apply Kd.R_drew)); exact HO_12.out) hb); have n1_ := Aside0.mk (Kd.S_below (by (with_reducible repeat (first | apply Kd.S_alloc | apply Kd.S_drewN | apply Kd.S_drew)); exact HO_14.out) hb); have n2_ := Aside0.mk (below_step (by repeat (first | (with_reducible first | exact HB.out | apply below_alloc | apply pw_below_drewN | apply below_drew1) | exact HB.out)) hb); have n3_ := Aside0.mk (hbox); have n4_ := Aside0.mk ((by rw [hg]; exact (below_size (by repeat (first | (with_reducible first | exact HB.out | apply below_alloc | apply pw_below_drewN | apply below_drew1) | exact HB.out))) : w.heap.size ≤ gb125)); have n5_ := Aside0.mk ((by rw [hg]; exact (below_size (by repeat (first | (with_reducible first | exact HB.out | apply below_alloc | apply pw_below_drewN | apply below_drew1) | exact HB.out))) : w.heap.size ≤ gb125)); clear HO_12; clear HO_14; clear HB; have HO_12 := n0_; have HO_14 := n1_; have HB := n2_; have BK125 := n3_; have GW125 := n4_; have GE125 := n5_; clear n0_ n1_ n2_ n3_ n4_ n5_; clear hb hbox hg; have hcz58_0 : w57.cell? ⟨gb125, 0, none⟩ = some (.slice none 0 0) := (blk_cell BK125.out 0).trans rfl; have hfz58_0 := blk_frozen BK125.out 0; obtain ⟨Ao59, co59, eo59⟩ := Kd.R_slice HO_12.out; subst eo59; have p126 : 0 ≤ (x62_4 : Int) := of_decide_eq_true (by first | (with_reducible assumption) | assumption); have q126 : x62_4 < (x12_3.length : Int) := of_decide_eq_true (by first | (with_reducible assumption) | assumption); obtain ⟨ad126, e126, hx126_0⟩ := Kd.at_int (Kd.R_reads' HO_12.out).2.2 x62_4 p126 q126; cases e126; have hn126_0 : ad126.block ≠ gb125 := Kd.own_blk (Kd.R_ne HO_12.out BK125.out (by decide)); replace hx126_0 := (cell_far (p := ⟨gb125, 0, none⟩) (by first | (rw [add_block]; exact hn126_0) | (show (Addr.add _ _).block ≠ _; rw [add_block]; exact hn126_0) | exact hn126_0) (.slice A124_0 ((rd_T36 l0 x62_4).f0).length c124_0)).trans hx126_0; clear hn126_0; replace p126 := eq_true p126; replace q126 := eq_true q126))
                                    go_roundg k4
                                    case measure => have := HJ3.out; have := HK2.out; have := HK3.out; have := HK4.out; omega
                                    case rel => exact ⟨(x14_4), (wrap64 (x62_4 + 1)), (by first | rfl | (simp; done) | (simp [*]; done)), H', ⟨by have := HJ3.out; have := HK2.out; have := HK3.out; have := HK4.out; omega⟩, ⟨by (with_reducible repeat (first | apply Kd.R_alloc | apply Kd.R_drewN | apply Kd.R_drew)); exact Kd.R_mono (Kd.R_far (p := ⟨gb125, 0, none⟩) (Kd.R_types HO_12.out BK125.out (by decide)) (fun _ hk => hk.2) (.slice A124_0 ((rd_T36 l0 x62_4).f0).length c124_0)) (fun _ hk => trivial)⟩, ⟨by (with_reducible repeat (first | apply Kd.S_alloc | apply Kd.S_drewN | apply Kd.S_drew)); exact Kd.S_mono (Kd.S_far (p := ⟨gb125, 0, none⟩) (Kd.S_types HO_14.out BK125.out (by decide)) (fun _ hk => hk.2) (.slice A124_0 ((rd_T36 l0 x62_4).f0).length c124_0)) (fun _ hk => hk.1)⟩, ⟨by repeat (first | (with_reducible first | exact HB.out | apply below_alloc | apply pw_below_drewN | apply below_drew1 | refine below_set ?_ GE125.out) | exact HB.out)⟩⟩
                                · rw [if_neg c33] at H
                                  exact absurd H (by simp)
                              · rw [if_neg c32] at H
                                exact absurd H (by simp)
                            · rw [if_neg c31] at H
                              exact absurd H (by simp)
                          · rw [if_neg c30] at H
                            have c30b0 : decide (x62_4 < (l0.length : Int)) = false := decide_eq_false c30
                            clear c30
                            have H' := Aside0.mk H
                            clear H
                            have HS_ := HO_14.out
                            rw [HV122.out] at HS_
                            obtain ⟨cur_, hcur_, hcs_, hln_⟩ := Go.Proofs.Ytheinelpeapleaa.HandArr.S_block HS_
                            have BKA := Aside0.mk hcur_
                            have CSA := Aside0.mk (show (Try.prog.info? 51).map (·.size) = some cur_.size from (show (Try.prog.info? 51).map (·.size) = some 16 by kernel_rfl).trans (by rw [hcs_]))
                            clear HS_ hcur_ hcs_ hln_
                            go_wp2_with (first | ((with_reducible refine gate_dst (N := 95) rfl ?_); refine wpList_load_row rfl 51 (.tmp 14) rfl gb122 rfl 51 cur_ (0, 0) _ BKA.out Try.underlying51 rfl CSA.out ?_))
                            go_loopg [96] k4 (fun kq v96 w' => ∃ (x12_5 : List Int) (x96_5 : Int), v96 = .int .i64 x96_5 ∧ Aside0 (impl_Contend.l4 kq l0 a1 x12_5 x57_3 a2 x57_3 x14_4 x96_5 = some (r1, r2)) ∧ Aside0 (kq ≤ k4) ∧ Aside0 (Kd.R (Kd.int .i64) 3 w' w.heap.size (fun _ => True) v119 x12_5) ∧ Aside0 (Kd.S (Kd.slice 3 (Kd.int .i64)) 51 w' w.heap.size (fun k_ => some k_ ≠ (v119 : Value).ownBlock) v122 x14_4) ∧ Aside0 (w'.heap[gb122]? = some (.cells cur_ 51 (0, 0))) ∧ Aside0 (Below w.heap.size w w'))
                            case atStart => exact ⟨(x12_3), (0), (by first | rfl | (simp; done) | (simp [*]; done)), H', ⟨Nat.le_refl _⟩, ⟨by (with_reducible repeat (first | apply Kd.R_alloc | apply Kd.R_drewN | apply Kd.R_drew)); exact HO_12.out⟩, ⟨by (with_reducible repeat (first | apply Kd.S_alloc | apply Kd.S_drewN | apply Kd.S_drew)); exact HO_14.out⟩, ⟨by (with_reducible repeat (first | refine blk_drewN ?_ _ | refine blk_drew ?_ | refine blk_alloc ?_ _)); exact BKA.out⟩, ⟨by repeat (first | (with_reducible first | exact HB.out | apply below_alloc | apply pw_below_drewN | apply below_drew1) | exact HB.out)⟩⟩
                            case round =>
                              clear H'
                              try clear c1
                              try clear p1
                              try clear q1
                              try clear hx1
                              try clear c2
                              try clear p2
                              try clear c3
                              try clear c4
                              try clear p4
                              try clear q4
                              try clear c5
                              try clear hx5
                              try clear hf5
                              try clear c6
                              try clear p6
                              try clear c8
                              try clear c10
                              try clear c11
                              try clear c11b0
                              try clear p11
                              try clear q11
                              try clear hx11
                              try clear c12
                              try clear c12b0
                              try clear p12
                              try clear q12
                              try clear hx12
                              try clear c13
                              try clear c13b0
                              try clear c16
                              try clear c16b0
                              try clear c17
                              try clear c17b0
                              try clear c18
                              try clear c18b0
                              try clear c20
                              try clear c24
                              try clear c26
                              try clear c26b0
                              try clear c27
                              try clear c27b0
                              try clear c27b1
                              try clear c30
                              try clear c30b0
                              try clear c31
                              try clear c31b0
                              try clear c32
                              try clear c32b0
                              try clear c33
                              try clear c33b0
                              try clear c34
                              try clear c34b0
                              try clear c35
                              try clear c35b0
                              try clear c36
                              try clear c36b0
                              try clear c37
                              try clear c37b0
                              try clear c37b1
                              try clear c39
                              try clear c39b0
                              try clear c40
                              try clear c40b0
                              try clear c41
                              try clear p42
                              try clear q42
                              try clear c49
                              try clear c51
                              try clear hx51
                              try clear hf51
                              try clear hcz15_0
                              try clear hcz44_0
                              try clear hcz47_0
                              try clear hcz55_0
                              try clear hcz58_0
                              try clear hfz15_0
                              try clear hfz44_0
                              try clear hfz47_0
                              try clear hfz55_0
                              try clear hfz58_0
                              try clear hx111_0
                              try clear hx113_0
                              try clear hx124_0
                              try clear hx126_0
                              try clear hx127_0
                              try clear hx128_0
                              try clear hx51_0
                              try clear p1
                              try clear p11
                              try clear p111
                              try clear p113
                              try clear p124
                              try clear p126
                              try clear p127
                              try clear p128
                              try clear p2
                              try clear p42
                              try clear p6
                              try clear q1
                              try clear q11
                              try clear q111
                              try clear q113
                              try clear q124
                              try clear q126
                              try clear q127
                              try clear q128
                              try clear q42
                              obtain ⟨x12_5, x96_5, rfl, HA, HK5, HO_12, HO_95, BKA, HB⟩ := hrel
                              cases gk with
                              | zero => exact absurd HA.out (by simp [impl_Contend.l4])
                              | succ k5 =>
                                have H := HA.out
                                clear HA
                                simp only [impl_Contend.l4] at H
                                by_cases c60 : x96_5 < 16
                                · rw [if_pos c60] at H
                                  have c60b0 : decide (x96_5 < 16) = true := decide_eq_true c60
                                  clear c60
                                  by_cases c61 : 0 ≤ x96_5
                                  · rw [if_pos c61] at H
                                    have c61b0 : decide (0 ≤ x96_5) = true := decide_eq_true c61
                                    clear c61
                                    by_cases c62 : x96_5 < (x14_4.length : Int)
                                    · rw [if_pos c62] at H
                                      have c62b0 : decide (x96_5 < (x14_4.length : Int)) = true := decide_eq_true c62
                                      clear c62
                                      by_cases c63 : ((rd_L1 x14_4 x96_5).length : Int) = 1
                                      · rw [if_pos c63] at H
                                        have c63b0 : (((rd_L1 x14_4 x96_5).length : Int) == 1) = true := beq_iff_eq.mpr c63
                                        have c63b1 : (((rd_L1 x14_4 x96_5).length : Int) != 1) = false := bne_eq_false_iff_eq.mpr c63
                                        clear c63
                                        by_cases c64 : 0 < ((rd_L1 x14_4 x96_5).length : Int)
                                        · rw [if_pos c64] at H
                                          have c64b0 : decide (0 < ((rd_L1 x14_4 x96_5).length : Int)) = true := decide_eq_true c64
                                          have c64b1 : decide (0 < (rd_L1 x14_4 x96_5).length) = true := decide_eq_true (by omega)
                                          clear c64
                                          by_cases c65 : 0 ≤ (rd (rd_L1 x14_4 x96_5) 0)
                                          · rw [if_pos c65] at H
                                            have c65b0 : decide (0 ≤ (rd (rd_L1 x14_4 x96_5) 0)) = true := decide_eq_true c65
                                            clear c65
                                            by_cases c66 : (rd (rd_L1 x14_4 x96_5) 0) < (x12_5.length : Int)
                                            · rw [if_pos c66] at H
                                              have c66b0 : decide ((rd (rd_L1 x14_4 x96_5) 0) < (x12_5.length : Int)) = true := decide_eq_true c66
                                              clear c66
                                              obtain ⟨y135, hy135⟩ : ∃ y_ : List Int, y_ = (x12_5.set ((rd (rd_L1 x14_4 x96_5) 0) : Int).toNat x57_3) := ⟨_, rfl⟩
                                              replace H : (impl_Contend.l4 k5 l0 a1 y135 x57_3 a2 x57_3 x14_4 (wrap64 (x96_5 + 1))) = some (r1, r2) := by first | (rw [hy135]; with_reducible exact H) | (have H2_ := (Option.bind_some _ _).symm.trans H; rw [hy135]; with_reducible exact H2_) | (have H2_ := (Option.bind_some _ _).symm.trans H; with_reducible exact H2_) | with_reducible exact H | (rw [hy135]; exact H) | exact H
                                              have Ny135 := Aside0.mk hy135
                                              clear hy135
                                              have H' := Aside0.mk H
                                              clear H
                                              obtain ⟨Ao68, co68, eo68⟩ := Kd.S_slice HO_95.out
                                              subst eo68
                                              have HE_ := HV122.out
                                              injection HE_ with ea1_ ea2_ ea3_
                                              have HE68 := Aside0.mk ea1_
                                              clear ea1_ ea2_ ea3_
                                              have p133 : 0 ≤ (x96_5 : Int) := of_decide_eq_true (by first | (with_reducible assumption) | assumption)
                                              have q133 : x96_5 < (x14_4.length : Int) := of_decide_eq_true (by first | (with_reducible assumption) | assumption)
                                              obtain ⟨ad133, A133_0, c133_0, e133, hx133_0, hl133_0, hi133_0⟩ := at_L1 (Kd.S_reads' HO_95.out).2.2 x96_5 p133 q133
                                              cases e133
                                              have hE_ := HE68.out
                                              injection hE_ with hE_
                                              have HCI := Aside0.mk (show cur_[(x96_5 : Int).toNat]? = some (.slice A133_0 (rd_L1 x14_4 x96_5).length c133_0) from (blk_cell BKA.out _).symm.trans (by have h_ := hx133_0; rw [hE_] at h_; simp only [add_plain, Nat.zero_add, Nat.mul_one] at h_; exact h_))
                                              clear hE_
                                              have P0_ := Aside0.mk (show 0 ≤ (x96_5 : Int) from of_decide_eq_true (by first | (with_reducible assumption) | assumption))
                                              have P1_ := Aside0.mk (show (x96_5 : Int) < 16 from of_decide_eq_true (by first | (with_reducible assumption) | assumption))
                                              obtain ⟨ce133, hce133, hMe133, hcc133⟩ := Kd.S_get HO_95.out [] x96_5 p133 (by first | exact q133 | exact of_decide_eq_true (by first | (with_reducible assumption) | assumption) | (have e_ := (Kd.S_reads' HO_95.out).1; omega))
                                              obtain ⟨ve133_0, rfl, ge133_0⟩ := hMe133
                                              have hv133_0 := hcc133 0 _ rfl
                                              rw [Nat.add_zero, show ((Kd.slice 3 (Kd.int .i64))).sz = 1 from rfl, Nat.mul_one] at hv133_0
                                              replace hv133_0 := Option.some.inj (hv133_0.symm.trans hx133_0)
                                              rw [hv133_0] at ge133_0
                                              have HL133_0 := Aside0.mk (show Kd.R (Kd.int .i64) 3 _ _ _ _ (rd_L1 x14_4 x96_5) from ge133_0)
                                              clear hv133_0 ge133_0
                                              have HX133_0 := Aside0.mk hx133_0
                                              clear hcc133 hce133
                                              have HR133_0 := Aside0.mk hi133_0
                                              have HC133_0 := Aside0.mk hl133_0
                                              clear hi133_0 hl133_0
                                              replace p133 := eq_true p133
                                              replace q133 := eq_true q133
                                              have p134 : 0 ≤ (0 : Int) := (by omega)
                                              have q134 : 0 < ((rd_L1 x14_4 x96_5).length : Int) := of_decide_eq_true (by first | (with_reducible assumption) | assumption)
                                              obtain ⟨ad134, e134, hx134_0⟩ := Kd.at_int (by repeat (first | (with_reducible exact HR133_0.out) | (with_reducible refine Kd.C_alloc ?_ _) | (with_reducible refine Kd.C_drewN ?_ _) | (with_reducible refine Kd.C_drew ?_) | exact HR133_0.out)) 0 p134 q134
                                              cases e134
                                              have qi134 : (0 < (rd_L1 x14_4 x96_5).length) = True := eq_true (by omega)
                                              (try rw [show ((0 : Int)).toNat = 0 from rfl] at hx134_0)
                                              (try rw [Addr.add_zero'] at hx134_0)
                                              replace p134 := eq_true p134
                                              replace q134 := eq_true q134
                                              have p67 : 0 ≤ ((rd (rd_L1 x14_4 x96_5) 0) : Int) := of_decide_eq_true (by first | (with_reducible assumption) | assumption)
                                              have q67 : ((rd (rd_L1 x14_4 x96_5) 0) : Int) < ((x12_5.length : Int) : Int) := of_decide_eq_true (by first | (with_reducible assumption) | assumption)
                                              obtain ⟨go67, co67, eo67, gb67, gl67, cl67, HG67⟩ := Kd.R_form HO_12.out (by omega)
                                              (first | cases eo67 | (injection eo67 with ea_ en_ ec_; (first | subst ea_ | (injection ea_ with ea_; subst ea_)); subst ec_; clear en_))
                                              have GB67 := Aside0.mk gb67
                                              have GG67 := Aside0.mk HG67
                                              clear gb67 gl67 HG67
                                              obtain ⟨hx67_0, hf67_0⟩ := Kd.R_celln 0 HO_12.out ((rd (rd_L1 x14_4 x96_5) 0) : Int) p67 q67
                                              replace p67 := eq_true p67
                                              replace q67 := eq_true q67
                                              have HP69 := Kd.R_putg HO_12.out ((rd (rd_L1 x14_4 x96_5) 0) : Int) x57_3
                                              go_wp2_with (first | ((with_reducible refine gate_dst (N := 98) rfl ?_); refine Go.Proofs.Ytheinelpeapleaa.HandArr.index_event rfl (.tmp 95) (.tmp 96) rfl cur_ x96_5 _ rfl rfl P0_.out P1_.out HCI.out ?_) | ((with_reducible refine gate_store (t := 3) (p := 107) rfl ?_); refine store_event (t := 3) (p := 107) (v := ?vo_w70) (w1 := (wr.setCell ⟨go67, ((rd (rd_L1 x14_4 x96_5) 0) : Int).toNat, none⟩ (.int .i64 x57_3))) ?hg ?ho ?hn ?hr ?_; (case ho => rfl); (case hg => rfl); (case hn => rfl); (case hr => first | (go_simp; done) | (go_simp; rfl)); intro w70 hw; have hg : wr.grownBy w70 (some go67) := (by rw [hw]; exact HP69.2); have hp_ : Kd.R (Kd.int .i64) 3 w70 w.heap.size (fun _ => True) (.slice (some ⟨go67, 0, none⟩) x12_5.length co67) y135 := (by rw [hw, Ny135.out]; exact HP69.1); clear HP69; have hgA_ := hg; have HOO_ := HO_12; have n0_ := Aside0.mk (hp_); have n1_ := Aside0.mk (Kd.S_after (v := (.slice (some ⟨go67, 0, none⟩) x12_5.length co67)) (v1 := (.slice (some ⟨go67, 0, none⟩) x12_5.length co67)) (ok := (fun _ => True)) (by (with_reducible repeat (first | apply Kd.S_alloc | apply Kd.S_drewN | apply Kd.S_drew)); exact Kd.S_mono HO_95.out (fun _ hk => ⟨trivial, hk⟩)) hg (.inl rfl)); have n2_ := Aside0.mk (Kd.R_after (v := (.slice (some ⟨go67, 0, none⟩) x12_5.length co67)) (v1 := (.slice (some ⟨go67, 0, none⟩) x12_5.length co67)) (ok := (fun k_ => some k_ ≠ (.slice (some ad133) x14_4.length co68 : Value).ownBlock)) (by (with_reducible repeat (first | apply Kd.R_alloc | apply Kd.R_drewN | apply Kd.R_drew)); exact Kd.R_mono HL133_0.out (fun _ hk => ⟨hk.2, hk.1⟩)) hg (.inl rfl)); have n3_ := Aside0.mk ((by rw [hw]; exact below_set (HB.out) GB67.out : Below w.heap.size w w70)); clear HO_12; clear HO_95; clear HL133_0; clear HB; have HO_12 := n0_; have HO_95 := n1_; have HL133_0 := n2_; have HB := n3_; clear n0_ n1_ n2_ n3_; have n4_ := Aside0.mk (blk_grown (g := gb122) (o := .cells cur_ 51 (0, 0)) BKA.out hgA_ (Kd.R_ne HOO_.out BKA.out (by decide))); clear BKA; have BKA := n4_; clear n4_; clear hg hw hp_ hgA_ HOO_))
                                              go_roundg k5
                                              case measure => have := HJ3.out; have := HK2.out; have := HK3.out; have := HK4.out; have := HK5.out; omega
                                              case rel => exact ⟨(y135), (wrap64 (x96_5 + 1)), (by first | rfl | (simp; done) | (simp [*]; done)), H', ⟨by have := HJ3.out; have := HK2.out; have := HK3.out; have := HK4.out; have := HK5.out; omega⟩, ⟨by (with_reducible repeat (first | apply Kd.R_alloc | apply Kd.R_drewN | apply Kd.R_drew)); exact HO_12.out⟩, ⟨by (with_reducible repeat (first | apply Kd.S_alloc | apply Kd.S_drewN | apply Kd.S_drew)); exact Kd.S_mono HO_95.out (fun _ hk => hk.2)⟩, ⟨by (with_reducible repeat (first | refine blk_drewN ?_ _ | refine blk_drew ?_ | refine blk_alloc ?_ _)); exact BKA.out⟩, ⟨by repeat (first | (with_reducible first | exact HB.out | apply below_alloc | apply pw_below_drewN | apply below_drew1) | exact HB.out)⟩⟩
                                            · rw [if_neg c66] at H
                                              exact absurd H (by simp)
                                          · rw [if_neg c65] at H
                                            exact absurd H (by simp)
                                        · rw [if_neg c64] at H
                                          exact absurd H (by simp)
                                      · rw [if_neg c63] at H
                                        have c63b0 : (((rd_L1 x14_4 x96_5).length : Int) == 1) = false := beq_eq_false_iff_ne.mpr c63
                                        have c63b1 : (((rd_L1 x14_4 x96_5).length : Int) != 1) = true := bne_iff_ne.mpr c63
                                        have H' := Aside0.mk H
                                        clear H
                                        obtain ⟨Ao71, co71, eo71⟩ := Kd.S_slice HO_95.out
                                        subst eo71
                                        have HE_ := HV122.out
                                        injection HE_ with ea1_ ea2_ ea3_
                                        have HE68 := Aside0.mk ea1_
                                        clear ea1_ ea2_ ea3_
                                        have p133 : 0 ≤ (x96_5 : Int) := of_decide_eq_true (by first | (with_reducible assumption) | assumption)
                                        have q133 : x96_5 < (x14_4.length : Int) := of_decide_eq_true (by first | (with_reducible assumption) | assumption)
                                        obtain ⟨ad133, A133_0, c133_0, e133, hx133_0, hl133_0, hi133_0⟩ := at_L1 (Kd.S_reads' HO_95.out).2.2 x96_5 p133 q133
                                        cases e133
                                        have hE_ := HE68.out
                                        injection hE_ with hE_
                                        have HCI := Aside0.mk (show cur_[(x96_5 : Int).toNat]? = some (.slice A133_0 (rd_L1 x14_4 x96_5).length c133_0) from (blk_cell BKA.out _).symm.trans (by have h_ := hx133_0; rw [hE_] at h_; simp only [add_plain, Nat.zero_add, Nat.mul_one] at h_; exact h_))
                                        clear hE_
                                        have P0_ := Aside0.mk (show 0 ≤ (x96_5 : Int) from of_decide_eq_true (by first | (with_reducible assumption) | assumption))
                                        have P1_ := Aside0.mk (show (x96_5 : Int) < 16 from of_decide_eq_true (by first | (with_reducible assumption) | assumption))
                                        obtain ⟨ce133, hce133, hMe133, hcc133⟩ := Kd.S_get HO_95.out [] x96_5 p133 (by first | exact q133 | exact of_decide_eq_true (by first | (with_reducible assumption) | assumption) | (have e_ := (Kd.S_reads' HO_95.out).1; omega))
                                        obtain ⟨ve133_0, rfl, ge133_0⟩ := hMe133
                                        have hv133_0 := hcc133 0 _ rfl
                                        rw [Nat.add_zero, show ((Kd.slice 3 (Kd.int .i64))).sz = 1 from rfl, Nat.mul_one] at hv133_0
                                        replace hv133_0 := Option.some.inj (hv133_0.symm.trans hx133_0)
                                        rw [hv133_0] at ge133_0
                                        have HL133_0 := Aside0.mk (show Kd.R (Kd.int .i64) 3 _ _ _ _ (rd_L1 x14_4 x96_5) from ge133_0)
                                        clear hv133_0 ge133_0
                                        have HX133_0 := Aside0.mk hx133_0
                                        clear hcc133 hce133
                                        have HR133_0 := Aside0.mk hi133_0
                                        have HC133_0 := Aside0.mk hl133_0
                                        clear hi133_0 hl133_0
                                        replace p133 := eq_true p133
                                        replace q133 := eq_true q133
                                        go_wp2_with (first | ((with_reducible refine gate_dst (N := 98) rfl ?_); refine Go.Proofs.Ytheinelpeapleaa.HandArr.index_event rfl (.tmp 95) (.tmp 96) rfl cur_ x96_5 _ rfl rfl P0_.out P1_.out HCI.out ?_))
                                        go_roundg k5
                                        case measure => have := HJ3.out; have := HK2.out; have := HK3.out; have := HK4.out; have := HK5.out; omega
                                        case rel => exact ⟨(x12_5), (wrap64 (x96_5 + 1)), (by first | rfl | (simp; done) | (simp [*]; done)), H', ⟨by have := HJ3.out; have := HK2.out; have := HK3.out; have := HK4.out; have := HK5.out; omega⟩, ⟨by (with_reducible repeat (first | apply Kd.R_alloc | apply Kd.R_drewN | apply Kd.R_drew)); exact HO_12.out⟩, ⟨by (with_reducible repeat (first | apply Kd.S_alloc | apply Kd.S_drewN | apply Kd.S_drew)); exact HO_95.out⟩, ⟨by (with_reducible repeat (first | refine blk_drewN ?_ _ | refine blk_drew ?_ | refine blk_alloc ?_ _)); exact BKA.out⟩, ⟨by repeat (first | (with_reducible first | exact HB.out | apply below_alloc | apply pw_below_drewN | apply below_drew1) | exact HB.out)⟩⟩
                                    · rw [if_neg c62] at H
                                      exact absurd H (by simp)
                                  · rw [if_neg c61] at H
                                    exact absurd H (by simp)
                                · rw [if_neg c60] at H
                                  have c60b0 : decide (x96_5 < 16) = false := decide_eq_false c60
                                  clear c60
                                  have H' := Aside0.mk H
                                  clear H
                                  go_wp2
                                  go_roundg k5
                                  case measure => have := HJ3.out; have := HK2.out; have := HK3.out; have := HK4.out; have := HK5.out; omega
                                  case rel => exact ⟨(x12_5), (wrap64 (x57_3 + 1)), (by first | rfl | (simp; done) | (simp [*]; done)), H', ⟨by have := HJ3.out; have := HK2.out; have := HK3.out; have := HK4.out; have := HK5.out; omega⟩, ⟨by (with_reducible repeat (first | apply Kd.R_alloc | apply Kd.R_drewN | apply Kd.R_drew)); exact HO_12.out⟩, ⟨by repeat (first | (with_reducible first | exact HB.out | apply below_alloc | apply pw_below_drewN | apply below_drew1) | exact HB.out)⟩⟩
                    · rw [if_neg c27] at H
                      exact absurd H (by simp)
                  · rw [if_neg c26] at H
                    have c26b0 : decide (x57_3 < a2) = false := decide_eq_false c26
                    clear c26
                    simp only [Option.some.injEq, Prod.mk.injEq] at H
                    obtain ⟨rfl, rfl⟩ := H
                    go_wp2
                    go_ret2
                    exact ⟨_, by first | rfl | (simp [errW_none, errW_some] <;> rfl) | (simp [*, errW_none, errW_some] <;> rfl), by (with_reducible repeat (first | apply Kd.R_alloc | apply Kd.R_drewN | apply Kd.R_drew)); exact HO_12.out, by repeat (first | (with_reducible first | exact HB.out | apply below_alloc | apply pw_below_drewN | apply below_drew1) | exact HB.out)⟩

end Go.Proofs.Ytheinelpeapleaa.MFnExactContend
