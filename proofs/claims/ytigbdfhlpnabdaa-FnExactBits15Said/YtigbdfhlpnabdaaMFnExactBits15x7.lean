/- The functions that the law FnExactBits15 reaches, as plain functions, and that the code comes to them. Begun as a text of the print; turned by wip/openize.py and wip/mend.py. -/
import Derived.Test.YtigbdfhlpnabdaaHandE
import Derived.Test.YtigbdfhlpnabdaaMFnExactBits15x0
import Derived.Test.YtigbdfhlpnabdaaMFnExactBits15x2
namespace Go.Proofs.Ytigbdfhlpnabdaa.MFnExactBits15
open Go.RowKit Go.Proofs.YtigbdfhlpnabdaaW.PrintWords Go.Proofs.YtigbdfhlpnabdaaW.PrintLast Go.Proofs.YtigbdfhlpnabdaaW.PrintMore
attribute [local go_sem] max2_int min2_int max_two min_two max_three min_three max_four min_four   -- for this text's walks alone
set_option linter.unusedVariables false
set_option linter.unusedSimpArgs false

/-! ### impl_QuotWide: function 23 -/
def impl_QuotWide.f (k : Nat) (x0 : Nat) (x1 : Nat) (x2 : Nat) (x3 : Nat) : Option (Nat × Nat × Bool) := some (Hand.qrep x0 x1 x2 x3)
theorem impl_QuotWide.mono : ∀ a0 a1 a2 a3 k, LeO (impl_QuotWide.f k a0 a1 a2 a3) (impl_QuotWide.f (k + 1) a0 a1 a2 a3) := fun _ _ _ _ _ => LeO.refl _
theorem impl_QuotWide.calls (k : Nat) (a0 a1 a2 a3 : Nat) (x0 x1 x2 x3 : Nat) (h0 : Fl.cls .f64 a0 = Fl.cls .f64 x0) (h1 : Fl.cls .f64 a1 = Fl.cls .f64 x1) (h2 : Fl.cls .f64 a2 = Fl.cls .f64 x2) (h3 : Fl.cls .f64 a3 = Fl.cls .f64 x3) (r1 r2 : Nat) (r3 : Bool) (w : World) (h : impl_QuotWide.f k x0 x1 x2 x3 = some (r1, r2, r3)) :
  Calls Try.prog 23 #[.agg #[.float .f64 a0, .float .f64 a1], .agg #[.float .f64 a2, .float .f64 a3]] w fun e w' => ∃ b1 b2, Aside0 (Fl.cls .f64 b1 = Fl.cls .f64 r1) ∧ Aside0 (Fl.cls .f64 b2 = Fl.cls .f64 r2) ∧ e = .returned (.tuple #[.agg #[.float .f64 b1, .float .f64 b2], .bool r3]) ∧ Below w.heap.size w w' :=
 Hand.quot_open (fun a b c d w => Hand.impl_QuotWide2.calls a b c d w) a0 a1 a2 a3 x0 x1 x2 x3 h0 h1 h2 h3 r1 r2 r3 w h

/-! ### impl_Train: function 11 -/
def impl_Train.l0 : Nat → List (S31) → Int → Int → Option ((List (S31)))
 | 0, _, _, _ => none
 | k + 1, x1, x2, x5 => if x5 < 26 then (if x1.length < 17592186044416 then ((some (x1 ++ [(⟨floatOfInt .f32 (wrap64 ((wrap64 (2 * (Go.bits .and .i64 x2 1))) - 1)), floatOfInt .f32 (wrap64 ((wrap64 (2 * (Go.bits .and .i64 x2 1))) - 1))⟩ : S31)] : List (S31))).bind fun y210 => (if (Go.bits .and .i64 x2 1) = 1 then (impl_Train.l0 k y210 (Go.bits .xor .i64 (x2 / 2) 20) (wrap64 (x5 + 1))) else (impl_Train.l0 k y210 (x2 / 2) (wrap64 (x5 + 1))))) else (none)) else (some x1)
def impl_Train.f (k : Nat)  : Option ((List (S31))) := impl_Train.l0 k ([] : List (S31)) 5 0
theorem impl_Train.mono_l : ∀ k, (∀ y0 y1 y2, LeO (impl_Train.l0 k y0 y1 y2) (impl_Train.l0 (k + 1) y0 y1 y2))
 | 0 => fun _ _ _ r h => by simp [impl_Train.l0] at h
 | k + 1 => by
  have ih0 := impl_Train.mono_l k
  ·intro y0 y1 y2
   unfold impl_Train.l0
   repeat' first
   | (with_reducible exact ih0 _ _ _)
   | (with_reducible exact LeO.refl _)
   | (with_reducible exact LeO.none _)
   | (with_reducible refine LeO.ite ?_ ?_)
   | (with_reducible refine LeO.bind ?_ (fun _ => ?_))
   | exact ih0 _ _ _
   | exact LeO.none _
   | refine LeO.ite ?_ ?_
   | refine LeO.bind ?_ (fun _ => ?_)
theorem impl_Train.mono : ∀ k, LeO (impl_Train.f k ) (impl_Train.f (k + 1) ) := by
 intro  k
 have ih0 := impl_Train.mono_l k
 unfold impl_Train.f
 repeat' first
   | (with_reducible exact ih0 _ _ _)
   | (with_reducible exact LeO.refl _)
   | (with_reducible exact LeO.none _)
   | (with_reducible refine LeO.ite ?_ ?_)
   | (with_reducible refine LeO.bind ?_ (fun _ => ?_))
   | exact ih0 _ _ _
   | exact LeO.none _
   | refine LeO.ite ?_ ?_
   | refine LeO.bind ?_ (fun _ => ?_)
set_option maxHeartbeats 8000000 in
set_option maxRecDepth 100000 in
theorem impl_Train.calls (k : Nat)  (r : List (S31)) (w : World) (h : impl_Train.f k  = some r) :
  Calls Try.prog 11 #[] w fun e w' => ∃ v0_ : Value, e = .returned (v0_) ∧ Kd.R k31 31 w' w.heap.size (fun _ => True) v0_ r ∧ Below w.heap.size w w' := by
 have hu31 := Try.underlying31
 have HB := Aside0.mk (Below.refl w.heap.size w)
 have H : (impl_Train.l0 k ([] : List (S31)) 5 0) = some r := h
 clear h
 have H' := Aside0.mk H
 clear H
 go_enter Try.func11, Try.ntmps11
 go_wp2
 go_loopg [1, 2, 5] k (fun kq v1 v2 v5 w' => ∃ (x1_1 : List (S31)) (x2_1 : Int) (x5_1 : Int), v2 = .int .i64 x2_1 ∧ v5 = .int .i64 x5_1 ∧ Aside0 (impl_Train.l0 kq x1_1 x2_1 x5_1 = some r) ∧ Aside0 (kq ≤ k) ∧ Aside0 (Kd.R k31 31 w' w.heap.size (fun _ => True) v1 x1_1) ∧ Aside0 (Below w.heap.size w w'))
 case atStart => exact ⟨(([] : List (S31))), (5), (0), (by first | rfl | (simp; done) | (simp [*]; done)), (by first | rfl | (simp; done) | (simp [*]; done)), H', ⟨Nat.le_refl _⟩, ⟨by first | exact Kd.R_nil _ _ _ _ _ | exact Kd.N_nil _ _ _ _ _ | exact Kd.V_nil _ _ _ _ _ | exact Kd.Q_nil _ _ _ _ _ | exact Kd.S_nil _ _ _ _ _⟩, ⟨by repeat (first | (with_reducible first | exact HB.out | apply below_alloc | apply pw_below_drewN | apply below_drew1) | exact HB.out)⟩⟩
 case round =>
  clear H'
  obtain ⟨x1_1, x2_1, x5_1, rfl, rfl, HA, HK1, HO_1, HB⟩ := hrel
  cases gk with
  | zero => exact absurd HA.out (by simp [impl_Train.l0])
  | succ k1 =>
   have H := HA.out
   clear HA
   simp only [impl_Train.l0] at H
   by_cases c1 : x5_1 < 26
   ·rw [if_pos c1] at H
    have c1b0 : decide (x5_1 < 26) = true := decide_eq_true c1
    clear c1
    by_cases c2 : x1_1.length < 17592186044416
    ·rw [if_pos c2] at H
     have LMc2 := Aside0.mk c2
     clear c2
     obtain ⟨y210, hy210⟩ : ∃ y_ : List (S31), y_ = (x1_1 ++ [(⟨floatOfInt .f32 (wrap64 ((wrap64 (2 * (Go.bits .and .i64 x2_1 1))) - 1)), floatOfInt .f32 (wrap64 ((wrap64 (2 * (Go.bits .and .i64 x2_1 1))) - 1))⟩ : S31)]) := ⟨_, rfl⟩
     replace H : (if (Go.bits .and .i64 x2_1 1) = 1 then (impl_Train.l0 k1 y210 (Go.bits .xor .i64 (x2_1 / 2) 20) (wrap64 (x5_1 + 1))) else (impl_Train.l0 k1 y210 (x2_1 / 2) (wrap64 (x5_1 + 1)))) = some r := by first | (rw [hy210]; with_reducible exact H) | (have H2_ := (Option.bind_some _ _).symm.trans H; rw [hy210]; with_reducible exact H2_) | (have H2_ := (Option.bind_some _ _).symm.trans H; with_reducible exact H2_) | with_reducible exact H | (rw [hy210]; exact H) | exact H
     have Ny210 := Aside0.mk hy210
     clear hy210
     by_cases c3 : (Go.bits .and .i64 x2_1 1) = 1
     ·rw [if_pos c3] at H
      have c3b0 : ((Go.bits .and .i64 x2_1 1) == 1) = true := beq_iff_eq.mpr c3
      have c3b1 : ((Go.bits .and .i64 x2_1 1) != 1) = false := bne_eq_false_iff_eq.mpr c3
      clear c3
      have H' := Aside0.mk H
      clear H
      go_wp2_with (first | ((with_reducible refine gate_builtin (b := .append) (xs := #[.tmp 12, .tmp 16]) rfl ?_); at_builtin; refine Kd.R_append k31 (w0 := w) w.heap.size rfl (.tmp 12) (.tmp 16) 22 31 (.agg #[(.float .f32 0), (.float .f32 0)]) 8 rfl Try.underlying22 info31 rfl (by decide) (by omega) u1 x1_1 (⟨floatOfInt .f32 (wrap64 ((wrap64 (2 * (Go.bits .and .i64 x2_1 1))) - 1)), floatOfInt .f32 (wrap64 ((wrap64 (2 * (Go.bits .and .i64 x2_1 1))) - 1))⟩ : S31) [.float .f32 (floatOfInt .f32 (wrap64 ((wrap64 (2 * (Go.bits .and .i64 x2_1 1))) - 1))), .float .f32 (floatOfInt .f32 (wrap64 ((wrap64 (2 * (Go.bits .and .i64 x2_1 1))) - 1)))] (fun _ => True) (fun _ => False) rfl rfl ?aP (fun _ hk => hk.elim) ?aF ?aO ?aB ?aS ?aL ?_; (case aP => exact k31_mkM _ _ _ (⟨floatOfInt .f32 (wrap64 ((wrap64 (2 * (Go.bits .and .i64 x2_1 1))) - 1)), floatOfInt .f32 (wrap64 ((wrap64 (2 * (Go.bits .and .i64 x2_1 1))) - 1))⟩ : S31)); (case aB => exact (by repeat (first | (with_reducible first | exact HB.out | apply below_alloc | apply pw_below_drewN | apply below_drew1) | exact HB.out))); (case aF => exact (fun _ _ => trivial)); (case aO => exact (by (with_reducible repeat (first | apply Kd.R_alloc | apply Kd.R_drewN | apply Kd.R_drew)); exact HO_1.out)); (case aS => exact (below_size (by repeat (first | (with_reducible first | exact HB.out | apply below_alloc | apply pw_below_drewN | apply below_drew1) | exact HB.out)))); (case aL => have := LMc2.out; omega); intro v211 w4 ho hb hg hat; rw [← Ny210.out] at ho; have n0_ := Aside0.mk (hb); have n1_ := Aside0.mk (ho); clear HB; clear HO_1; have HB := n0_; have HO212 := n1_; clear n0_ n1_; clear ho hb hg hat))
      go_roundg k1
      case measure => have := HK1.out; omega
      case rel => exact ⟨(y210), (Go.bits .xor .i64 (x2_1 / 2) 20), (wrap64 (x5_1 + 1)), (by first | rfl | (simp; done) | (simp [*]; done)), (by first | rfl | (simp; done) | (simp [*]; done)), H', ⟨by have := HK1.out; omega⟩, ⟨by (with_reducible repeat (first | apply Kd.R_alloc | apply Kd.R_drewN | apply Kd.R_drew)); exact HO212.out⟩, ⟨by repeat (first | (with_reducible first | exact HB.out | apply below_alloc | apply pw_below_drewN | apply below_drew1) | exact HB.out)⟩⟩
     ·rw [if_neg c3] at H
      have c3b0 : ((Go.bits .and .i64 x2_1 1) == 1) = false := beq_eq_false_iff_ne.mpr c3
      have c3b1 : ((Go.bits .and .i64 x2_1 1) != 1) = true := bne_iff_ne.mpr c3
      have H' := Aside0.mk H
      clear H
      go_wp2_with (first | ((with_reducible refine gate_builtin (b := .append) (xs := #[.tmp 12, .tmp 16]) rfl ?_); at_builtin; refine Kd.R_append k31 (w0 := w) w.heap.size rfl (.tmp 12) (.tmp 16) 22 31 (.agg #[(.float .f32 0), (.float .f32 0)]) 8 rfl Try.underlying22 info31 rfl (by decide) (by omega) u1 x1_1 (⟨floatOfInt .f32 (wrap64 ((wrap64 (2 * (Go.bits .and .i64 x2_1 1))) - 1)), floatOfInt .f32 (wrap64 ((wrap64 (2 * (Go.bits .and .i64 x2_1 1))) - 1))⟩ : S31) [.float .f32 (floatOfInt .f32 (wrap64 ((wrap64 (2 * (Go.bits .and .i64 x2_1 1))) - 1))), .float .f32 (floatOfInt .f32 (wrap64 ((wrap64 (2 * (Go.bits .and .i64 x2_1 1))) - 1)))] (fun _ => True) (fun _ => False) rfl rfl ?aP (fun _ hk => hk.elim) ?aF ?aO ?aB ?aS ?aL ?_; (case aP => exact k31_mkM _ _ _ (⟨floatOfInt .f32 (wrap64 ((wrap64 (2 * (Go.bits .and .i64 x2_1 1))) - 1)), floatOfInt .f32 (wrap64 ((wrap64 (2 * (Go.bits .and .i64 x2_1 1))) - 1))⟩ : S31)); (case aB => exact (by repeat (first | (with_reducible first | exact HB.out | apply below_alloc | apply pw_below_drewN | apply below_drew1) | exact HB.out))); (case aF => exact (fun _ _ => trivial)); (case aO => exact (by (with_reducible repeat (first | apply Kd.R_alloc | apply Kd.R_drewN | apply Kd.R_drew)); exact HO_1.out)); (case aS => exact (below_size (by repeat (first | (with_reducible first | exact HB.out | apply below_alloc | apply pw_below_drewN | apply below_drew1) | exact HB.out)))); (case aL => have := LMc2.out; omega); intro v211 w5 ho hb hg hat; rw [← Ny210.out] at ho; have n0_ := Aside0.mk (hb); have n1_ := Aside0.mk (ho); clear HB; clear HO_1; have HB := n0_; have HO212 := n1_; clear n0_ n1_; clear ho hb hg hat))
      go_roundg k1
      case measure => have := HK1.out; omega
      case rel => exact ⟨(y210), (x2_1 / 2), (wrap64 (x5_1 + 1)), (by first | rfl | (simp; done) | (simp [*]; done)), (by first | rfl | (simp; done) | (simp [*]; done)), H', ⟨by have := HK1.out; omega⟩, ⟨by (with_reducible repeat (first | apply Kd.R_alloc | apply Kd.R_drewN | apply Kd.R_drew)); exact HO212.out⟩, ⟨by repeat (first | (with_reducible first | exact HB.out | apply below_alloc | apply pw_below_drewN | apply below_drew1) | exact HB.out)⟩⟩
    ·rw [if_neg c2] at H
     exact absurd H (by simp)
   ·rw [if_neg c1] at H
    have c1b0 : decide (x5_1 < 26) = false := decide_eq_false c1
    clear c1
    obtain rfl := Option.some.inj H
    go_wp2
    go_ret
    exact ⟨_, by first | rfl | (simp [errW_none, errW_some] <;> rfl) | (simp [*, errW_none, errW_some] <;> rfl), by (with_reducible repeat (first | apply Kd.R_alloc | apply Kd.R_drewN | apply Kd.R_drew)); exact HO_1.out, by repeat (first | (with_reducible first | exact HB.out | apply below_alloc | apply pw_below_drewN | apply below_drew1) | exact HB.out)⟩

/-! ### impl_addWide: function 41 -/
def impl_addWide.f (a0_0 : Nat) (a0_1 : Nat) (a1_0 : Nat) (a1_1 : Nat) : Option (Nat × Nat) := some (open_add_f64 a0_0 a1_0, open_add_f64 a0_1 a1_1)
set_option maxHeartbeats 8000000 in
set_option maxRecDepth 100000 in
theorem impl_addWide.calls (a0 : Nat) (a1 : Nat) (a2 : Nat) (a3 : Nat) (x0 : Nat) (x1 : Nat) (x2 : Nat) (x3 : Nat) (h0 : Fl.cls .f64 a0 = Fl.cls .f64 x0) (h1 : Fl.cls .f64 a1 = Fl.cls .f64 x1) (h2 : Fl.cls .f64 a2 = Fl.cls .f64 x2) (h3 : Fl.cls .f64 a3 = Fl.cls .f64 x3) (r1 r2 : Nat) (w : World) (h : impl_addWide.f x0 x1 x2 x3 = some (r1, r2)) :
  Calls Try.prog 41 #[.agg #[.float .f64 a0, .float .f64 a1], .agg #[.float .f64 a2, .float .f64 a3]] w fun e w' => ∃ b1 b2, Aside0 (Fl.cls .f64 b1 = Fl.cls .f64 r1) ∧ Aside0 (Fl.cls .f64 b2 = Fl.cls .f64 r2) ∧ e = .returned (.agg #[.float .f64 b1, .float .f64 b2]) ∧ Below w.heap.size w w' := by
 unfold impl_addWide.f at h
 simp only [Option.some.injEq, Prod.mk.injEq] at h
 obtain ⟨rfl, rfl⟩ := h
 go_enter Try.func41, Try.ntmps41
 go_wp2_with (first | ((with_reducible refine gate_dst (N := 9) rfl ?_); refine Hand.arith_event rfl rfl rfl rfl rfl ?_; intro b_o9 q_o9 h_o9) | ((with_reducible refine gate_dst (N := 14) rfl ?_); refine Hand.arith_event rfl rfl rfl rfl rfl ?_; intro b_o14 q_o14 h_o14))
 apply bodyPost_ret
 ·simp [results, Try.f41, go_sem] <;> rfl
 ·rfl
 ·refine ⟨_, _, ⟨?_⟩, ⟨?_⟩, rfl, ?_⟩
  ·simp only [h_o14.out, h_o9.out, h0, h1, h2, h3, cls_add32, cls_sub32, cls_add64, cls_sub64, cls_mul64, cls_quo64, cls_conv64]
  ·simp only [h_o14.out, h_o9.out, h0, h1, h2, h3, cls_add32, cls_sub32, cls_add64, cls_sub64, cls_mul64, cls_quo64, cls_conv64]
  ·(repeat (first | (with_reducible first | exact Below.refl _ _ | apply below_alloc | apply pw_below_drewN | apply below_drew1) | (refine below_set ?_ (by omega)) | exact Below.refl _ _))

/-! ### impl_Widen: function 42 -/
def impl_Widen.f (a0_0 : Nat) (a0_1 : Nat) : Option (Nat × Nat) := some (open_conv_f64 a0_0, open_conv_f64 a0_1)
set_option maxHeartbeats 8000000 in
set_option maxRecDepth 100000 in
theorem impl_Widen.calls (a0 : Nat) (a1 : Nat) (x0 : Nat) (x1 : Nat) (h0 : Fl.cls .f32 a0 = Fl.cls .f32 x0) (h1 : Fl.cls .f32 a1 = Fl.cls .f32 x1) (r1 r2 : Nat) (w : World) (h : impl_Widen.f x0 x1 = some (r1, r2)) :
  Calls Try.prog 42 #[.agg #[.float .f32 a0, .float .f32 a1]] w fun e w' => ∃ b1 b2, Aside0 (Fl.cls .f64 b1 = Fl.cls .f64 r1) ∧ Aside0 (Fl.cls .f64 b2 = Fl.cls .f64 r2) ∧ e = .returned (.agg #[.float .f64 b1, .float .f64 b2]) ∧ Below w.heap.size w w' := by
 unfold impl_Widen.f at h
 simp only [Option.some.injEq, Prod.mk.injEq] at h
 obtain ⟨rfl, rfl⟩ := h
 go_enter Try.func42, Try.ntmps42
 go_wp2_with (first | ((with_reducible refine gate_dst (N := 5) rfl ?_); refine Hand.widen_event rfl rfl (by kernel_rfl) Try.underlying32 rfl ?_; intro b_o5 q_o5 h_o5) | ((with_reducible refine gate_dst (N := 8) rfl ?_); refine Hand.widen_event rfl rfl (by kernel_rfl) Try.underlying32 rfl ?_; intro b_o8 q_o8 h_o8))
 apply bodyPost_ret
 ·simp [results, Try.f42, go_sem] <;> rfl
 ·rfl
 ·refine ⟨_, _, ⟨?_⟩, ⟨?_⟩, rfl, ?_⟩
  ·simp only [h_o8.out, h_o5.out, h0, h1, cls_add32, cls_sub32, cls_add64, cls_sub64, cls_mul64, cls_quo64, cls_conv64]
  ·simp only [h_o8.out, h_o5.out, h0, h1, cls_add32, cls_sub32, cls_add64, cls_sub64, cls_mul64, cls_quo64, cls_conv64]
  ·(repeat (first | (with_reducible first | exact Below.refl _ _ | apply below_alloc | apply pw_below_drewN | apply below_drew1) | (refine below_set ?_ (by omega)) | exact Below.refl _ _))

/-! ### impl_in: function 51 -/
def impl_in.f (a0 : Int) (a1 : Int) (a2 : Int) : Option (Bool) := if a0 ≥ a1 then (some (decide (a0 ≤ a2))) else (some false)
set_option maxHeartbeats 8000000 in
set_option maxRecDepth 100000 in
theorem impl_in.calls (a0 : Int) (a1 : Int) (a2 : Int) (r : Bool) (w : World) (h : impl_in.f a0 a1 a2 = some r) :
  Calls Try.prog 51 #[.int .i64 a0, .int .i64 a1, .int .i64 a2] w fun e w' => e = .returned (.bool r) ∧ Drawn0 w w' := by
 have H : (if a0 ≥ a1 then (some (decide (a0 ≤ a2))) else (some false)) = some r := h
 clear h
 by_cases c4 : a0 ≥ a1
 ·rw [if_pos c4] at H
  have c4b0 : decide (a1 ≤ a0) = true := decide_eq_true c4
  clear c4
  obtain rfl := Option.some.inj H
  go_enter Try.func51, Try.ntmps51
  go_wp2
  go_ret
  exact ⟨by first | rfl | (simp; done) | (simp [*]; done), by repeat (first | exact Drawn0.refl _ | apply Drawn0.step)⟩
 ·rw [if_neg c4] at H
  have c4b0 : decide (a1 ≤ a0) = false := decide_eq_false c4
  clear c4
  obtain rfl := Option.some.inj H
  go_enter Try.func51, Try.ntmps51
  go_wp2
  go_ret
  exact ⟨by first | rfl | (simp; done) | (simp [*]; done), by repeat (first | exact Drawn0.refl _ | apply Drawn0.step)⟩

/-! ### impl_MulWide: function 52 -/
def impl_MulWide.f (a0_0 : Nat) (a0_1 : Nat) (a1_0 : Nat) (a1_1 : Nat) : Option (Nat × Nat) := some (open_sub_f64 (open_mul_f64 a0_0 a1_0) (open_mul_f64 a0_1 a1_1), open_add_f64 (open_mul_f64 a0_0 a1_1) (open_mul_f64 a0_1 a1_0))
set_option maxHeartbeats 8000000 in
set_option maxRecDepth 100000 in
theorem impl_MulWide.calls (a0 : Nat) (a1 : Nat) (a2 : Nat) (a3 : Nat) (x0 : Nat) (x1 : Nat) (x2 : Nat) (x3 : Nat) (h0 : Fl.cls .f64 a0 = Fl.cls .f64 x0) (h1 : Fl.cls .f64 a1 = Fl.cls .f64 x1) (h2 : Fl.cls .f64 a2 = Fl.cls .f64 x2) (h3 : Fl.cls .f64 a3 = Fl.cls .f64 x3) (r1 r2 : Nat) (w : World) (h : impl_MulWide.f x0 x1 x2 x3 = some (r1, r2)) :
  Calls Try.prog 52 #[.agg #[.float .f64 a0, .float .f64 a1], .agg #[.float .f64 a2, .float .f64 a3]] w fun e w' => ∃ b1 b2, Aside0 (Fl.cls .f64 b1 = Fl.cls .f64 r1) ∧ Aside0 (Fl.cls .f64 b2 = Fl.cls .f64 r2) ∧ e = .returned (.agg #[.float .f64 b1, .float .f64 b2]) ∧ Below w.heap.size w w' := by
 unfold impl_MulWide.f at h
 simp only [Option.some.injEq, Prod.mk.injEq] at h
 obtain ⟨rfl, rfl⟩ := h
 go_enter Try.func52, Try.ntmps52
 go_wp2_with (first | ((with_reducible refine gate_dst (N := 9) rfl ?_); refine Hand.arith_event rfl rfl rfl rfl rfl ?_; intro b_o9 q_o9 h_o9) | ((with_reducible refine gate_dst (N := 14) rfl ?_); refine Hand.arith_event rfl rfl rfl rfl rfl ?_; intro b_o14 q_o14 h_o14) | ((with_reducible refine gate_dst (N := 15) rfl ?_); refine Hand.arith_event rfl rfl rfl rfl rfl ?_; intro b_o15 q_o15 h_o15) | ((with_reducible refine gate_dst (N := 20) rfl ?_); refine Hand.arith_event rfl rfl rfl rfl rfl ?_; intro b_o20 q_o20 h_o20) | ((with_reducible refine gate_dst (N := 25) rfl ?_); refine Hand.arith_event rfl rfl rfl rfl rfl ?_; intro b_o25 q_o25 h_o25) | ((with_reducible refine gate_dst (N := 26) rfl ?_); refine Hand.arith_event rfl rfl rfl rfl rfl ?_; intro b_o26 q_o26 h_o26))
 apply bodyPost_ret
 ·simp [results, Try.f52, go_sem] <;> rfl
 ·rfl
 ·refine ⟨_, _, ⟨?_⟩, ⟨?_⟩, rfl, ?_⟩
  ·simp only [h_o26.out, h_o25.out, h_o20.out, h_o15.out, h_o14.out, h_o9.out, h0, h1, h2, h3, cls_add32, cls_sub32, cls_add64, cls_sub64, cls_mul64, cls_quo64, cls_conv64]
  ·simp only [h_o26.out, h_o25.out, h_o20.out, h_o15.out, h_o14.out, h_o9.out, h0, h1, h2, h3, cls_add32, cls_sub32, cls_add64, cls_sub64, cls_mul64, cls_quo64, cls_conv64]
  ·(repeat (first | (with_reducible first | exact Below.refl _ _ | apply below_alloc | apply pw_below_drewN | apply below_drew1) | (refine below_set ?_ (by omega)) | exact Below.refl _ _))

/-! ### impl_turned: function 53 -/
def impl_turned.f (a0_0 : Nat) (a0_1 : Nat) : Option (Nat × Nat) := some (a0_0, Op.negFloat .f32 a0_1)
set_option maxHeartbeats 8000000 in
set_option maxRecDepth 100000 in
theorem impl_turned.calls (a0_0 : Nat) (a0_1 : Nat) (r1 : Nat) (r2 : Nat) (w : World) (h : impl_turned.f a0_0 a0_1 = some (r1, r2)) :
  Calls Try.prog 53 #[.agg #[.float .f32 a0_0, .float .f32 a0_1]] w fun e w' => e = .returned (.agg #[.float .f32 r1, .float .f32 r2]) ∧ Below w.heap.size w w' := by
 have hu31 := Try.underlying31
 have HB := Aside0.mk (Below.refl w.heap.size w)
 have H : (some (a0_0, Op.negFloat .f32 a0_1)) = some (r1, r2) := h
 clear h
 simp only [Option.some.injEq, Prod.mk.injEq] at H
 obtain ⟨rfl, rfl⟩ := H
 go_enter Try.func53, Try.ntmps53
 go_wp2_with (first | ((with_reducible refine gate_dst (N := 1) rfl ?_); refine box_event ?hg (N := 1) ?hd (cs := #[.float .f32 a0_0, .float .f32 a0_1]) (t := 31) ?hr ?_; (case hd => rfl); (case hg => rfl); (case hr => first | (go_simp; done) | (go_simp; rfl)); intro gb221 hg w2 hbox hb; have n0_ := Aside0.mk (below_step (by repeat (first | (with_reducible first | exact HB.out | apply below_alloc | apply pw_below_drewN | apply below_drew1) | exact HB.out)) hb); have n1_ := Aside0.mk (hbox); have n2_ := Aside0.mk ((by rw [hg]; exact (below_size (by repeat (first | (with_reducible first | exact HB.out | apply below_alloc | apply pw_below_drewN | apply below_drew1) | exact HB.out))) : w.heap.size ≤ gb221)); have n3_ := Aside0.mk ((by rw [hg]; exact (below_size (by repeat (first | (with_reducible first | exact HB.out | apply below_alloc | apply pw_below_drewN | apply below_drew1) | exact HB.out))) : w.heap.size ≤ gb221)); clear HB; have HB := n0_; have BK221 := n1_; have GW221 := n2_; have GE221 := n3_; clear n0_ n1_ n2_ n3_; clear hb hbox hg) | ((with_reducible refine gate_dst (N := 2) rfl ?_); refine box_event ?hg (N := 2) ?hd (cs := #[.float .f32 0, .float .f32 0]) (t := 31) ?hr ?_; (case hd => rfl); (case hg => rfl); (case hr => first | (go_simp; done) | (go_simp; rfl)); intro gb222 hg w3 hbox hb; have n0_ := Aside0.mk (blk_below (g := gb221) (o := .cells #[.float .f32 a0_0, .float .f32 a0_1] 31 (0, 0)) (by (with_reducible repeat (first | refine blk_drewN ?_ _ | refine blk_drew ?_ | refine blk_alloc ?_ _)); exact BK221.out) hb); have n1_ := Aside0.mk (below_step (by repeat (first | (with_reducible first | exact HB.out | apply below_alloc | apply pw_below_drewN | apply below_drew1 | refine below_set ?_ GE221.out) | exact HB.out)) hb); have n2_ := Aside0.mk (hbox); have n3_ := Aside0.mk ((by rw [hg]; exact (below_size (by repeat (first | (with_reducible first | exact HB.out | apply below_alloc | apply pw_below_drewN | apply below_drew1 | refine below_set ?_ GE221.out) | exact HB.out))) : w.heap.size ≤ gb222)); have n4_ := Aside0.mk ((by rw [hg]; exact (below_size (by repeat (first | (with_reducible first | exact HB.out | apply below_alloc | apply pw_below_drewN | apply below_drew1 | refine below_set ?_ GE221.out) | exact HB.out))) : w.heap.size ≤ gb222)); have n5_ := Aside0.mk ((by rw [hg]; exact Nat.ne_of_lt (blk_lt (g := gb221) (o := .cells #[.float .f32 a0_0, .float .f32 a0_1] 31 (0, 0)) (by (with_reducible repeat (first | refine blk_drewN ?_ _ | refine blk_drew ?_ | refine blk_alloc ?_ _)); exact BK221.out)) : gb221 ≠ gb222)); have n6_ := Aside0.mk ((by rw [hg]; exact Nat.ne_of_gt (blk_lt (g := gb221) (o := .cells #[.float .f32 a0_0, .float .f32 a0_1] 31 (0, 0)) (by (with_reducible repeat (first | refine blk_drewN ?_ _ | refine blk_drew ?_ | refine blk_alloc ?_ _)); exact BK221.out)) : gb222 ≠ gb221)); clear BK221; clear HB; have BK221 := n0_; have HB := n1_; have BK222 := n2_; have GW222 := n3_; have GE222 := n4_; have NB221_222 := n5_; have NB222_221 := n6_; clear n0_ n1_ n2_ n3_ n4_ n5_ n6_; clear hb hbox hg; have hnb4 := NB221_222.out; have hnc4 := NB222_221.out; have hcz5_0 : w3.cell? ⟨gb221, 0, none⟩ = some (.float .f32 a0_0) := (blk_cell BK221.out 0).trans rfl; have hcz5_1 : w3.cell? ⟨gb221, 1, none⟩ = some (.float .f32 a0_1) := (blk_cell BK221.out 1).trans rfl; have hfz5_0 := blk_frozen BK221.out 0; have hfz5_1 := blk_frozen BK221.out 1; have hcz6_0 : w3.cell? ⟨gb222, 0, none⟩ = some (.float .f32 0) := (blk_cell BK222.out 0).trans rfl; have hcz6_1 : w3.cell? ⟨gb222, 1, none⟩ = some (.float .f32 0) := (blk_cell BK222.out 1).trans rfl; have hfz6_0 := blk_frozen BK222.out 0; have hfz6_1 := blk_frozen BK222.out 1))
 refine bodyPost_ret (results_cell_row rfl _ _ gb222 31 #[.float .f32 a0_0, .float .f32 (Op.negFloat .f32 a0_1)] (0, 0) _ rfl (by (with_reducible repeat (first | refine blk_drewN ?_ _ | refine blk_drew ?_ | refine blk_alloc ?_ _)); refine blk_put (cs := #[.float .f32 a0_0, .float .f32 0]) ?_ 1 _ rfl; (with_reducible repeat (first | refine blk_drewN ?_ _ | refine blk_drew ?_ | refine blk_alloc ?_ _)); refine blk_put (cs := #[.float .f32 0, .float .f32 0]) ?_ 0 _ rfl; (with_reducible repeat (first | refine blk_drewN ?_ _ | refine blk_drew ?_ | refine blk_alloc ?_ _)); exact BK222.out) Try.underlying31 rfl (by kernel_rfl)) rfl ?_
 exact ⟨by first | rfl | (simp [errW_none, errW_some] <;> rfl) | (simp [*, errW_none, errW_some] <;> rfl), by repeat (first | (with_reducible first | exact HB.out | apply below_alloc | apply pw_below_drewN | apply below_drew1 | refine below_set ?_ GE221.out | refine below_set ?_ GE222.out) | exact HB.out)⟩

end Go.Proofs.Ytigbdfhlpnabdaa.MFnExactBits15
