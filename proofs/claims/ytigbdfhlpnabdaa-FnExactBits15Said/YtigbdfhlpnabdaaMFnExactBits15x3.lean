/- The functions that the law FnExactBits15 reaches, as plain functions, and that the code comes to them. Begun as a text of the print; turned by wip/openize.py and wip/mend.py. -/
import Derived.Test.YtigbdfhlpnabdaaHandE
import Derived.Test.YtigbdfhlpnabdaaMFnExactBits15x0
import Derived.Test.YtigbdfhlpnabdaaMFnExactBits15x2
namespace Go.Proofs.Ytigbdfhlpnabdaa.MFnExactBits15
open Go.RowKit Go.Proofs.YtigbdfhlpnabdaaW.PrintWords Go.Proofs.YtigbdfhlpnabdaaW.PrintLast Go.Proofs.YtigbdfhlpnabdaaW.PrintMore
attribute [local go_sem] max2_int min2_int max_two min_two max_three min_three max_four min_four   -- for this text's walks alone
set_option linter.unusedVariables false
set_option linter.unusedSimpArgs false

/-! ### spec_Train: function 10 -/
def spec_Train.l0 : Nat → List (S31) → Int → Int → Option ((List (S31)))
 | 0, _, _, _ => none
 | k + 1, x1, x2, x3 => if x3 < 26 then ((spec_l15Of.f (Int.tmod x2 2) (Int.tmod x2 2)).bind fun bt136 => (if x1.length < 17592186044416 then ((some (x1 ++ [(⟨bt136.1, bt136.2⟩ : S31)] : List (S31))).bind fun y138 => (if (Int.tmod x2 2) = 1 then (spec_Train.l0 k y138 (Go.bits .xor .i64 (wrap64 (Int.tdiv x2 2)) 20) (wrap64 (x3 + 1))) else (spec_Train.l0 k y138 (wrap64 (Int.tdiv x2 2)) (wrap64 (x3 + 1))))) else (none))) else (some x1)
def spec_Train.f (k : Nat)  : Option ((List (S31))) := spec_Train.l0 k (([] : List (S31))) 5 0
theorem spec_Train.mono_l : ∀ k, (∀ y0 y1 y2, LeO (spec_Train.l0 k y0 y1 y2) (spec_Train.l0 (k + 1) y0 y1 y2))
 | 0 => fun _ _ _ r h => by simp [spec_Train.l0] at h
 | k + 1 => by
  have ih0 := spec_Train.mono_l k
  ·intro y0 y1 y2
   unfold spec_Train.l0
   repeat' first
   | (with_reducible exact ih0 _ _ _)
   | (with_reducible exact LeO.refl _)
   | (with_reducible exact LeO.none _)
   | (with_reducible refine LeO.ite ?_ ?_)
   | (with_reducible refine LeO.bind ?_ (fun _ => ?_))
   | exact ih0 _ _ _
   | exact LeO.none _
   | refine LeO.ite ?_ ?_
   | refine LeO.bind ?_ (fun _ => ?_)
theorem spec_Train.mono : ∀ k, LeO (spec_Train.f k ) (spec_Train.f (k + 1) ) := by
 intro  k
 have ih0 := spec_Train.mono_l k
 unfold spec_Train.f
 repeat' first
   | (with_reducible exact ih0 _ _ _)
   | (with_reducible exact LeO.refl _)
   | (with_reducible exact LeO.none _)
   | (with_reducible refine LeO.ite ?_ ?_)
   | (with_reducible refine LeO.bind ?_ (fun _ => ?_))
   | exact ih0 _ _ _
   | exact LeO.none _
   | refine LeO.ite ?_ ?_
   | refine LeO.bind ?_ (fun _ => ?_)
set_option maxHeartbeats 8000000 in
set_option maxRecDepth 100000 in
theorem spec_Train.calls (k : Nat)  (r : List (S31)) (w : World) (h : spec_Train.f k  = some r) :
  Calls Try.prog 10 #[] w fun e w' => ∃ v0_ : Value, e = .returned (v0_) ∧ Kd.R k31 31 w' w.heap.size (fun _ => True) v0_ r ∧ Below w.heap.size w w' := by
 have HB := Aside0.mk (Below.refl w.heap.size w)
 have H : (spec_Train.l0 k (([] : List (S31))) 5 0) = some r := h
 clear h
 obtain ⟨y133, hy133⟩ : ∃ y_ : List (S31), y_ = (([] : List (S31))) := ⟨_, rfl⟩
 replace H : (spec_Train.l0 k y133 5 0) = some r := by first | (rw [hy133]; with_reducible exact H) | (have H2_ := (Option.bind_some _ _).symm.trans H; rw [hy133]; with_reducible exact H2_) | (have H2_ := (Option.bind_some _ _).symm.trans H; with_reducible exact H2_) | with_reducible exact H | (rw [hy133]; exact H) | exact H
 have Ny133 := Aside0.mk hy133
 clear hy133
 have H' := Aside0.mk H
 clear H
 go_enter Try.func10, Try.ntmps10
 go_wp2_with (first | ((with_reducible refine gate_dst (N := 5) rfl ?_); refine Kd.R_lit k31 _ 31 ?hg (N := 5) ?hd (xs := ([] : List (S31))) (inner := []) (ok := fun _ => True) (okp := fun _ => True) ?hr ?hp (fun _ hk => hk) trivial (Below.refl _ _) (Nat.le_refl _) (by simp) ?_; (case hd => rfl); (case hg => rfl); (case hr => first | (go_simp; done) | (go_simp; rfl)); (case hp => exact (Reps.none _ _)); intro v134 w1 ho2 hb hg_ hnew_; clear hg_ hnew_; (first | rw [← Ny133.out] at ho2 | (simp only [Int.reduceToNat] at ho2; rw [← Ny133.out] at ho2)); have n0_ := Aside0.mk (Kd.R_lower ho2 (below_size (by repeat (first | (with_reducible first | exact HB.out | apply below_alloc | apply pw_below_drewN | apply below_drew1) | exact HB.out)))); have n1_ := Aside0.mk (below_step (by repeat (first | (with_reducible first | exact HB.out | apply below_alloc | apply pw_below_drewN | apply below_drew1) | exact HB.out)) hb); clear HB; have HO135 := n0_; have HB := n1_; clear n0_ n1_; clear hb ho2))
 go_loopg [1, 2, 3] k (fun kq v1 v2 v3 w' => ∃ (x1_1 : List (S31)) (x2_1 : Int) (x3_1 : Int), v2 = .int .i64 x2_1 ∧ v3 = .int .i64 x3_1 ∧ Aside0 (spec_Train.l0 kq x1_1 x2_1 x3_1 = some r) ∧ Aside0 (kq ≤ k) ∧ Aside0 (Kd.R k31 31 w' w.heap.size (fun _ => True) v1 x1_1) ∧ Aside0 (Below w.heap.size w w'))
 case atStart => exact ⟨(y133), (5), (0), (by first | rfl | (simp; done) | (simp [*]; done)), (by first | rfl | (simp; done) | (simp [*]; done)), H', ⟨Nat.le_refl _⟩, ⟨by (with_reducible repeat (first | apply Kd.R_alloc | apply Kd.R_drewN | apply Kd.R_drew)); exact HO135.out⟩, ⟨by repeat (first | (with_reducible first | exact HB.out | apply below_alloc | apply pw_below_drewN | apply below_drew1) | exact HB.out)⟩⟩
 case round =>
  clear H'
  try clear c1
  try clear p2
  obtain ⟨x1_1, x2_1, x3_1, rfl, rfl, HA, HK1, HO_1, HB⟩ := hrel
  cases gk with
  | zero => exact absurd HA.out (by simp [spec_Train.l0])
  | succ k1 =>
   have H := HA.out
   clear HA
   simp only [spec_Train.l0] at H
   by_cases c3 : x3_1 < 26
   ·rw [if_pos c3] at H
    have c3b0 : decide (x3_1 < 26) = true := decide_eq_true c3
    clear c3
    replace H := Option.bind_eq_some_iff.mp H
    obtain ⟨⟨t136, t137⟩, A40, H⟩ := H
    replace H : (if x1_1.length < 17592186044416 then ((some (x1_1 ++ [(⟨t136, t137⟩ : S31)] : List (S31))).bind fun y138 => (if (Int.tmod x2_1 2) = 1 then (spec_Train.l0 k1 y138 (Go.bits .xor .i64 (wrap64 (Int.tdiv x2_1 2)) 20) (wrap64 (x3_1 + 1))) else (spec_Train.l0 k1 y138 (wrap64 (Int.tdiv x2_1 2)) (wrap64 (x3_1 + 1))))) else (none)) = some r := H
    have A4 := Aside0.mk A40
    clear A40
    by_cases c5 : x1_1.length < 17592186044416
    ·rw [if_pos c5] at H
     have LMc5 := Aside0.mk c5
     clear c5
     obtain ⟨y138, hy138⟩ : ∃ y_ : List (S31), y_ = (x1_1 ++ [(⟨t136, t137⟩ : S31)]) := ⟨_, rfl⟩
     replace H : (if (Int.tmod x2_1 2) = 1 then (spec_Train.l0 k1 y138 (Go.bits .xor .i64 (wrap64 (Int.tdiv x2_1 2)) 20) (wrap64 (x3_1 + 1))) else (spec_Train.l0 k1 y138 (wrap64 (Int.tdiv x2_1 2)) (wrap64 (x3_1 + 1)))) = some r := by first | (rw [hy138]; with_reducible exact H) | (have H2_ := (Option.bind_some _ _).symm.trans H; rw [hy138]; with_reducible exact H2_) | (have H2_ := (Option.bind_some _ _).symm.trans H; with_reducible exact H2_) | with_reducible exact H | (rw [hy138]; exact H) | exact H
     have Ny138 := Aside0.mk hy138
     clear hy138
     by_cases c6 : (Int.tmod x2_1 2) = 1
     ·rw [if_pos c6] at H
      have c6b0 : ((Int.tmod x2_1 2) == 1) = true := beq_iff_eq.mpr c6
      have c6b1 : ((Int.tmod x2_1 2) != 1) = false := bne_eq_false_iff_eq.mpr c6
      clear c6
      have H' := Aside0.mk H
      clear H
      go_wp2_with (first | ((with_reducible refine gate_callee (f := 36) rfl ?_); refine goesL_ (some 15) rfl rfl Try.func36 (by kernel_rfl) rfl #[.int .i64 (Int.tmod x2_1 2), .int .i64 (Int.tmod x2_1 2)] rfl (by (try simp only [List.map_toArray, List.map_cons, List.map_nil]); first | done | rfl | (simp only [List.length_drop, List.length_take]; rfl)) ?_; (with_reducible refine (spec_l15Of.calls (Int.tmod x2_1 2) (Int.tmod x2_1 2) t136 t137 _ A4.out).mono ?_); rintro e w7 ⟨rfl, hb⟩; refine ⟨_, rfl, ?_⟩; have n0_ := Aside0.mk (Kd.R_below (by (with_reducible repeat (first | apply Kd.R_alloc | apply Kd.R_drewN | apply Kd.R_drew)); exact HO_1.out) hb); have n1_ := Aside0.mk (below_step (by repeat (first | (with_reducible first | exact HB.out | apply below_alloc | apply pw_below_drewN | apply below_drew1) | exact HB.out)) hb); clear HO_1; clear HB; have HO_1 := n0_; have HB := n1_; clear n0_ n1_; (try clear hb); (try clear hb2); (try clear hk); (try clear hi)) | ((with_reducible refine gate_builtin (b := .append) (xs := #[.tmp 12, .tmp 16]) rfl ?_); at_builtin; refine Kd.R_append k31 (w0 := w) w.heap.size rfl (.tmp 12) (.tmp 16) 22 31 (.agg #[(.float .f32 0), (.float .f32 0)]) 8 rfl Try.underlying22 info31 rfl (by decide) (by omega) u1 x1_1 (⟨t136, t137⟩ : S31) [.float .f32 t136, .float .f32 t137] (fun _ => True) (fun _ => False) rfl rfl ?aP (fun _ hk => hk.elim) ?aF ?aO ?aB ?aS ?aL ?_; (case aP => exact k31_mkM _ _ _ (⟨t136, t137⟩ : S31)); (case aB => exact (by repeat (first | (with_reducible first | exact HB.out | apply below_alloc | apply pw_below_drewN | apply below_drew1) | exact HB.out))); (case aF => exact (fun _ _ => trivial)); (case aO => exact (by (with_reducible repeat (first | apply Kd.R_alloc | apply Kd.R_drewN | apply Kd.R_drew)); exact HO_1.out)); (case aS => exact (below_size (by repeat (first | (with_reducible first | exact HB.out | apply below_alloc | apply pw_below_drewN | apply below_drew1) | exact HB.out)))); (case aL => have := LMc5.out; omega); intro v139 w8 ho hb hg hat; rw [← Ny138.out] at ho; have n0_ := Aside0.mk (hb); have n1_ := Aside0.mk (ho); clear HB; clear HO_1; have HB := n0_; have HO140 := n1_; clear n0_ n1_; clear ho hb hg hat))
      go_roundg k1
      case measure => have := HK1.out; omega
      case rel => exact ⟨(y138), (Go.bits .xor .i64 (wrap64 (Int.tdiv x2_1 2)) 20), (wrap64 (x3_1 + 1)), (by first | rfl | (simp; done) | (simp [*]; done)), (by first | rfl | (simp; done) | (simp [*]; done)), H', ⟨by have := HK1.out; omega⟩, ⟨by (with_reducible repeat (first | apply Kd.R_alloc | apply Kd.R_drewN | apply Kd.R_drew)); exact HO140.out⟩, ⟨by repeat (first | (with_reducible first | exact HB.out | apply below_alloc | apply pw_below_drewN | apply below_drew1) | exact HB.out)⟩⟩
     ·rw [if_neg c6] at H
      have c6b0 : ((Int.tmod x2_1 2) == 1) = false := beq_eq_false_iff_ne.mpr c6
      have c6b1 : ((Int.tmod x2_1 2) != 1) = true := bne_iff_ne.mpr c6
      have H' := Aside0.mk H
      clear H
      go_wp2_with (first | ((with_reducible refine gate_callee (f := 36) rfl ?_); refine goesL_ (some 15) rfl rfl Try.func36 (by kernel_rfl) rfl #[.int .i64 (Int.tmod x2_1 2), .int .i64 (Int.tmod x2_1 2)] rfl (by (try simp only [List.map_toArray, List.map_cons, List.map_nil]); first | done | rfl | (simp only [List.length_drop, List.length_take]; rfl)) ?_; (with_reducible refine (spec_l15Of.calls (Int.tmod x2_1 2) (Int.tmod x2_1 2) t136 t137 _ A4.out).mono ?_); rintro e w9 ⟨rfl, hb⟩; refine ⟨_, rfl, ?_⟩; have n0_ := Aside0.mk (Kd.R_below (by (with_reducible repeat (first | apply Kd.R_alloc | apply Kd.R_drewN | apply Kd.R_drew)); exact HO_1.out) hb); have n1_ := Aside0.mk (below_step (by repeat (first | (with_reducible first | exact HB.out | apply below_alloc | apply pw_below_drewN | apply below_drew1) | exact HB.out)) hb); clear HO_1; clear HB; have HO_1 := n0_; have HB := n1_; clear n0_ n1_; (try clear hb); (try clear hb2); (try clear hk); (try clear hi)) | ((with_reducible refine gate_builtin (b := .append) (xs := #[.tmp 12, .tmp 16]) rfl ?_); at_builtin; refine Kd.R_append k31 (w0 := w) w.heap.size rfl (.tmp 12) (.tmp 16) 22 31 (.agg #[(.float .f32 0), (.float .f32 0)]) 8 rfl Try.underlying22 info31 rfl (by decide) (by omega) u1 x1_1 (⟨t136, t137⟩ : S31) [.float .f32 t136, .float .f32 t137] (fun _ => True) (fun _ => False) rfl rfl ?aP (fun _ hk => hk.elim) ?aF ?aO ?aB ?aS ?aL ?_; (case aP => exact k31_mkM _ _ _ (⟨t136, t137⟩ : S31)); (case aB => exact (by repeat (first | (with_reducible first | exact HB.out | apply below_alloc | apply pw_below_drewN | apply below_drew1) | exact HB.out))); (case aF => exact (fun _ _ => trivial)); (case aO => exact (by (with_reducible repeat (first | apply Kd.R_alloc | apply Kd.R_drewN | apply Kd.R_drew)); exact HO_1.out)); (case aS => exact (below_size (by repeat (first | (with_reducible first | exact HB.out | apply below_alloc | apply pw_below_drewN | apply below_drew1) | exact HB.out)))); (case aL => have := LMc5.out; omega); intro v139 w10 ho hb hg hat; rw [← Ny138.out] at ho; have n0_ := Aside0.mk (hb); have n1_ := Aside0.mk (ho); clear HB; clear HO_1; have HB := n0_; have HO140 := n1_; clear n0_ n1_; clear ho hb hg hat))
      go_roundg k1
      case measure => have := HK1.out; omega
      case rel => exact ⟨(y138), (wrap64 (Int.tdiv x2_1 2)), (wrap64 (x3_1 + 1)), (by first | rfl | (simp; done) | (simp [*]; done)), (by first | rfl | (simp; done) | (simp [*]; done)), H', ⟨by have := HK1.out; omega⟩, ⟨by (with_reducible repeat (first | apply Kd.R_alloc | apply Kd.R_drewN | apply Kd.R_drew)); exact HO140.out⟩, ⟨by repeat (first | (with_reducible first | exact HB.out | apply below_alloc | apply pw_below_drewN | apply below_drew1) | exact HB.out)⟩⟩
    ·rw [if_neg c5] at H
     exact absurd H (by simp)
   ·rw [if_neg c3] at H
    have c3b0 : decide (x3_1 < 26) = false := decide_eq_false c3
    clear c3
    obtain rfl := Option.some.inj H
    go_wp2
    go_ret
    exact ⟨_, by first | rfl | (simp [errW_none, errW_some] <;> rfl) | (simp [*, errW_none, errW_some] <;> rfl), by (with_reducible repeat (first | apply Kd.R_alloc | apply Kd.R_drewN | apply Kd.R_drew)); exact HO_1.out, by repeat (first | (with_reducible first | exact HB.out | apply below_alloc | apply pw_below_drewN | apply below_drew1) | exact HB.out)⟩

/-! ### spec_Widen: function 38 -/
def spec_Widen.f (a0_0 : Nat) (a0_1 : Nat) : Option (Nat × Nat) := some (open_conv_f64 a0_0, open_conv_f64 a0_1)
set_option maxHeartbeats 8000000 in
set_option maxRecDepth 100000 in
theorem spec_Widen.calls (a0 : Nat) (a1 : Nat) (x0 : Nat) (x1 : Nat) (h0 : Fl.cls .f32 a0 = Fl.cls .f32 x0) (h1 : Fl.cls .f32 a1 = Fl.cls .f32 x1) (r1 r2 : Nat) (w : World) (h : spec_Widen.f x0 x1 = some (r1, r2)) :
  Calls Try.prog 38 #[.agg #[.float .f32 a0, .float .f32 a1]] w fun e w' => ∃ b1 b2, Aside0 (Fl.cls .f64 b1 = Fl.cls .f64 r1) ∧ Aside0 (Fl.cls .f64 b2 = Fl.cls .f64 r2) ∧ e = .returned (.agg #[.float .f64 b1, .float .f64 b2]) ∧ Below w.heap.size w w' := by
 unfold spec_Widen.f at h
 simp only [Option.some.injEq, Prod.mk.injEq] at h
 obtain ⟨rfl, rfl⟩ := h
 go_enter Try.func38, Try.ntmps38
 go_wp2_with (first | ((with_reducible refine gate_dst (N := 5) rfl ?_); refine Hand.widen_event rfl rfl (by kernel_rfl) Try.underlying32 rfl ?_; intro b_o5 q_o5 h_o5) | ((with_reducible refine gate_dst (N := 8) rfl ?_); refine Hand.widen_event rfl rfl (by kernel_rfl) Try.underlying32 rfl ?_; intro b_o8 q_o8 h_o8))
 apply bodyPost_ret
 ·simp [results, Try.f38, go_sem] <;> rfl
 ·rfl
 ·refine ⟨_, _, ⟨?_⟩, ⟨?_⟩, rfl, ?_⟩
  ·simp only [h_o8.out, h_o5.out, h0, h1, cls_add32, cls_sub32, cls_add64, cls_sub64, cls_mul64, cls_quo64, cls_conv64]
  ·simp only [h_o8.out, h_o5.out, h0, h1, cls_add32, cls_sub32, cls_add64, cls_sub64, cls_mul64, cls_quo64, cls_conv64]
  ·(repeat (first | (with_reducible first | exact Below.refl _ _ | apply below_alloc | apply pw_below_drewN | apply below_drew1) | (refine below_set ?_ (by omega)) | exact Below.refl _ _))

/-! ### spec_l1In: function 48 -/
def spec_l1In.f (a0 : Int) (a1 : Int) (a2 : Int) : Option (Bool) := if a0 ≥ a1 then (some (decide (a0 ≤ a2))) else (some false)
set_option maxHeartbeats 8000000 in
set_option maxRecDepth 100000 in
theorem spec_l1In.calls (a0 : Int) (a1 : Int) (a2 : Int) (r : Bool) (w : World) (h : spec_l1In.f a0 a1 a2 = some r) :
  Calls Try.prog 48 #[.int .i64 a0, .int .i64 a1, .int .i64 a2] w fun e w' => e = .returned (.bool r) ∧ Drawn0 w w' := by
 have H : (if a0 ≥ a1 then (some (decide (a0 ≤ a2))) else (some false)) = some r := h
 clear h
 by_cases c4 : a0 ≥ a1
 ·rw [if_pos c4] at H
  have c4b0 : decide (a1 ≤ a0) = true := decide_eq_true c4
  clear c4
  obtain rfl := Option.some.inj H
  go_enter Try.func48, Try.ntmps48
  go_wp2
  go_ret
  exact ⟨by first | rfl | (simp; done) | (simp [*]; done), by repeat (first | exact Drawn0.refl _ | apply Drawn0.step)⟩
 ·rw [if_neg c4] at H
  have c4b0 : decide (a1 ≤ a0) = false := decide_eq_false c4
  clear c4
  obtain rfl := Option.some.inj H
  go_enter Try.func48, Try.ntmps48
  go_wp2
  go_ret
  exact ⟨by first | rfl | (simp; done) | (simp [*]; done), by repeat (first | exact Drawn0.refl _ | apply Drawn0.step)⟩

/-! ### spec_MulWide: function 49 -/
def spec_MulWide.f (a0_0 : Nat) (a0_1 : Nat) (a1_0 : Nat) (a1_1 : Nat) : Option (Nat × Nat) := some (open_sub_f64 (open_mul_f64 a0_0 a1_0) (open_mul_f64 a0_1 a1_1), open_add_f64 (open_mul_f64 a0_0 a1_1) (open_mul_f64 a0_1 a1_0))
set_option maxHeartbeats 8000000 in
set_option maxRecDepth 100000 in
theorem spec_MulWide.calls (a0 : Nat) (a1 : Nat) (a2 : Nat) (a3 : Nat) (x0 : Nat) (x1 : Nat) (x2 : Nat) (x3 : Nat) (h0 : Fl.cls .f64 a0 = Fl.cls .f64 x0) (h1 : Fl.cls .f64 a1 = Fl.cls .f64 x1) (h2 : Fl.cls .f64 a2 = Fl.cls .f64 x2) (h3 : Fl.cls .f64 a3 = Fl.cls .f64 x3) (r1 r2 : Nat) (w : World) (h : spec_MulWide.f x0 x1 x2 x3 = some (r1, r2)) :
  Calls Try.prog 49 #[.agg #[.float .f64 a0, .float .f64 a1], .agg #[.float .f64 a2, .float .f64 a3]] w fun e w' => ∃ b1 b2, Aside0 (Fl.cls .f64 b1 = Fl.cls .f64 r1) ∧ Aside0 (Fl.cls .f64 b2 = Fl.cls .f64 r2) ∧ e = .returned (.agg #[.float .f64 b1, .float .f64 b2]) ∧ Below w.heap.size w w' := by
 unfold spec_MulWide.f at h
 simp only [Option.some.injEq, Prod.mk.injEq] at h
 obtain ⟨rfl, rfl⟩ := h
 go_enter Try.func49, Try.ntmps49
 go_wp2_with (first | ((with_reducible refine gate_dst (N := 13) rfl ?_); refine Hand.arith_event rfl rfl rfl rfl rfl ?_; intro b_o13 q_o13 h_o13) | ((with_reducible refine gate_dst (N := 18) rfl ?_); refine Hand.arith_event rfl rfl rfl rfl rfl ?_; intro b_o18 q_o18 h_o18) | ((with_reducible refine gate_dst (N := 23) rfl ?_); refine Hand.arith_event rfl rfl rfl rfl rfl ?_; intro b_o23 q_o23 h_o23) | ((with_reducible refine gate_dst (N := 28) rfl ?_); refine Hand.arith_event rfl rfl rfl rfl rfl ?_; intro b_o28 q_o28 h_o28) | ((with_reducible refine gate_dst (N := 31) rfl ?_); refine Hand.arith_event rfl rfl rfl rfl rfl ?_; intro b_o31 q_o31 h_o31) | ((with_reducible refine gate_dst (N := 34) rfl ?_); refine Hand.arith_event rfl rfl rfl rfl rfl ?_; intro b_o34 q_o34 h_o34))
 apply bodyPost_ret
 ·simp [results, Try.f49, go_sem] <;> rfl
 ·rfl
 ·refine ⟨_, _, ⟨?_⟩, ⟨?_⟩, rfl, ?_⟩
  ·simp only [h_o34.out, h_o31.out, h_o28.out, h_o23.out, h_o18.out, h_o13.out, h0, h1, h2, h3, cls_add32, cls_sub32, cls_add64, cls_sub64, cls_mul64, cls_quo64, cls_conv64]
  ·simp only [h_o34.out, h_o31.out, h_o28.out, h_o23.out, h_o18.out, h_o13.out, h0, h1, h2, h3, cls_add32, cls_sub32, cls_add64, cls_sub64, cls_mul64, cls_quo64, cls_conv64]
  ·(repeat (first | (with_reducible first | exact Below.refl _ _ | apply below_alloc | apply pw_below_drewN | apply below_drew1) | (refine below_set ?_ (by omega)) | exact Below.refl _ _))

/-! ### spec_l14Bar: function 50 -/
def spec_l14Bar.f (a0_0 : Nat) (a0_1 : Nat) : Option (Nat × Nat) := some (a0_0, Op.negFloat .f32 a0_1)
set_option maxHeartbeats 8000000 in
set_option maxRecDepth 100000 in
theorem spec_l14Bar.calls (a0_0 : Nat) (a0_1 : Nat) (r1 : Nat) (r2 : Nat) (w : World) (h : spec_l14Bar.f a0_0 a0_1 = some (r1, r2)) :
  Calls Try.prog 50 #[.agg #[.float .f32 a0_0, .float .f32 a0_1]] w fun e w' => e = .returned (.agg #[.float .f32 r1, .float .f32 r2]) ∧ Below w.heap.size w w' := by
 have hu31 := Try.underlying31
 have HB := Aside0.mk (Below.refl w.heap.size w)
 have H : (some (a0_0, Op.negFloat .f32 a0_1)) = some (r1, r2) := h
 clear h
 simp only [Option.some.injEq, Prod.mk.injEq] at H
 obtain ⟨rfl, rfl⟩ := H
 go_enter Try.func50, Try.ntmps50
 go_wp2_with (first | ((with_reducible refine gate_dst (N := 1) rfl ?_); refine box_event ?hg (N := 1) ?hd (cs := #[.float .f32 a0_0, .float .f32 a0_1]) (t := 31) ?hr ?_; (case hd => rfl); (case hg => rfl); (case hr => first | (go_simp; done) | (go_simp; rfl)); intro gb146 hg w2 hbox hb; have n0_ := Aside0.mk (below_step (by repeat (first | (with_reducible first | exact HB.out | apply below_alloc | apply pw_below_drewN | apply below_drew1) | exact HB.out)) hb); have n1_ := Aside0.mk (hbox); have n2_ := Aside0.mk ((by rw [hg]; exact (below_size (by repeat (first | (with_reducible first | exact HB.out | apply below_alloc | apply pw_below_drewN | apply below_drew1) | exact HB.out))) : w.heap.size ≤ gb146)); have n3_ := Aside0.mk ((by rw [hg]; exact (below_size (by repeat (first | (with_reducible first | exact HB.out | apply below_alloc | apply pw_below_drewN | apply below_drew1) | exact HB.out))) : w.heap.size ≤ gb146)); clear HB; have HB := n0_; have BK146 := n1_; have GW146 := n2_; have GE146 := n3_; clear n0_ n1_ n2_ n3_; clear hb hbox hg) | ((with_reducible refine gate_dst (N := 2) rfl ?_); refine box_event ?hg (N := 2) ?hd (cs := #[.float .f32 0, .float .f32 0]) (t := 31) ?hr ?_; (case hd => rfl); (case hg => rfl); (case hr => first | (go_simp; done) | (go_simp; rfl)); intro gb147 hg w3 hbox hb; have n0_ := Aside0.mk (blk_below (g := gb146) (o := .cells #[.float .f32 a0_0, .float .f32 a0_1] 31 (0, 0)) (by (with_reducible repeat (first | refine blk_drewN ?_ _ | refine blk_drew ?_ | refine blk_alloc ?_ _)); exact BK146.out) hb); have n1_ := Aside0.mk (below_step (by repeat (first | (with_reducible first | exact HB.out | apply below_alloc | apply pw_below_drewN | apply below_drew1 | refine below_set ?_ GE146.out) | exact HB.out)) hb); have n2_ := Aside0.mk (hbox); have n3_ := Aside0.mk ((by rw [hg]; exact (below_size (by repeat (first | (with_reducible first | exact HB.out | apply below_alloc | apply pw_below_drewN | apply below_drew1 | refine below_set ?_ GE146.out) | exact HB.out))) : w.heap.size ≤ gb147)); have n4_ := Aside0.mk ((by rw [hg]; exact (below_size (by repeat (first | (with_reducible first | exact HB.out | apply below_alloc | apply pw_below_drewN | apply below_drew1 | refine below_set ?_ GE146.out) | exact HB.out))) : w.heap.size ≤ gb147)); have n5_ := Aside0.mk ((by rw [hg]; exact Nat.ne_of_lt (blk_lt (g := gb146) (o := .cells #[.float .f32 a0_0, .float .f32 a0_1] 31 (0, 0)) (by (with_reducible repeat (first | refine blk_drewN ?_ _ | refine blk_drew ?_ | refine blk_alloc ?_ _)); exact BK146.out)) : gb146 ≠ gb147)); have n6_ := Aside0.mk ((by rw [hg]; exact Nat.ne_of_gt (blk_lt (g := gb146) (o := .cells #[.float .f32 a0_0, .float .f32 a0_1] 31 (0, 0)) (by (with_reducible repeat (first | refine blk_drewN ?_ _ | refine blk_drew ?_ | refine blk_alloc ?_ _)); exact BK146.out)) : gb147 ≠ gb146)); clear BK146; clear HB; have BK146 := n0_; have HB := n1_; have BK147 := n2_; have GW147 := n3_; have GE147 := n4_; have NB146_147 := n5_; have NB147_146 := n6_; clear n0_ n1_ n2_ n3_ n4_ n5_ n6_; clear hb hbox hg; have hnb4 := NB146_147.out; have hnc4 := NB147_146.out; have hcz5_0 : w3.cell? ⟨gb146, 0, none⟩ = some (.float .f32 a0_0) := (blk_cell BK146.out 0).trans rfl; have hcz5_1 : w3.cell? ⟨gb146, 1, none⟩ = some (.float .f32 a0_1) := (blk_cell BK146.out 1).trans rfl; have hfz5_0 := blk_frozen BK146.out 0; have hfz5_1 := blk_frozen BK146.out 1; have hcz6_0 : w3.cell? ⟨gb147, 0, none⟩ = some (.float .f32 0) := (blk_cell BK147.out 0).trans rfl; have hcz6_1 : w3.cell? ⟨gb147, 1, none⟩ = some (.float .f32 0) := (blk_cell BK147.out 1).trans rfl; have hfz6_0 := blk_frozen BK147.out 0; have hfz6_1 := blk_frozen BK147.out 1))
 refine bodyPost_ret (results_cell_row rfl _ _ gb147 31 #[.float .f32 a0_0, .float .f32 (Op.negFloat .f32 a0_1)] (0, 0) _ rfl (by (with_reducible repeat (first | refine blk_drewN ?_ _ | refine blk_drew ?_ | refine blk_alloc ?_ _)); refine blk_put (cs := #[.float .f32 a0_0, .float .f32 0]) ?_ 1 _ rfl; (with_reducible repeat (first | refine blk_drewN ?_ _ | refine blk_drew ?_ | refine blk_alloc ?_ _)); refine blk_put (cs := #[.float .f32 0, .float .f32 0]) ?_ 0 _ rfl; (with_reducible repeat (first | refine blk_drewN ?_ _ | refine blk_drew ?_ | refine blk_alloc ?_ _)); exact BK147.out) Try.underlying31 rfl (by kernel_rfl)) rfl ?_
 exact ⟨by first | rfl | (simp [errW_none, errW_some] <;> rfl) | (simp [*, errW_none, errW_some] <;> rfl), by repeat (first | (with_reducible first | exact HB.out | apply below_alloc | apply pw_below_drewN | apply below_drew1 | refine below_set ?_ GE146.out | refine below_set ?_ GE147.out) | exact HB.out)⟩

end Go.Proofs.Ytigbdfhlpnabdaa.MFnExactBits15
