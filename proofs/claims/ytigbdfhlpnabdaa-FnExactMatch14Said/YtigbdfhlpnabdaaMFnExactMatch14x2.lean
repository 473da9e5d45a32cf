/- The functions that the law FnExactMatch14 reaches, as plain functions, and that the code comes to them. Begun as a text of the print; turned by wip/openize.py and wip/mend.py. -/
import Derived.Test.YtigbdfhlpnabdaaHandD
import Derived.Test.YtigbdfhlpnabdaaMFnExactMatch14x0
namespace Go.Proofs.Ytigbdfhlpnabdaa.MFnExactMatch14
open Go.RowKit Go.Proofs.YtigbdfhlpnabdaaW.PrintWords Go.Proofs.YtigbdfhlpnabdaaW.PrintLast Go.Proofs.YtigbdfhlpnabdaaW.PrintMore
attribute [local go_sem] max2_int min2_int max_two min_two max_three min_three max_four min_four   -- for this text's walks alone
set_option linter.unusedVariables false
set_option linter.unusedSimpArgs false

/-! ### spec_l1In: function 48 -/
def spec_l1In.f (a0 : Int) (a1 : Int) (a2 : Int) : Option (Bool) := if a0 ≥ a1 then (some (decide (a0 ≤ a2))) else (some false)
set_option maxHeartbeats 8000000 in
set_option maxRecDepth 100000 in
theorem spec_l1In.calls (a0 : Int) (a1 : Int) (a2 : Int) (r : Bool) (w : World) (h : spec_l1In.f a0 a1 a2 = some r) :
    Calls Try.prog 48 #[.int .i64 a0, .int .i64 a1, .int .i64 a2] w fun e w' => e = .returned (.bool r) ∧ Drawn0 w w' := by
  have H : (if a0 ≥ a1 then (some (decide (a0 ≤ a2))) else (some false)) = some r := h
  clear h
  by_cases c4 : a0 ≥ a1
  · rw [if_pos c4] at H
    have c4b0 : decide (a1 ≤ a0) = true := decide_eq_true c4
    clear c4
    obtain rfl := Option.some.inj H
    go_enter Try.func48, Try.ntmps48
    go_wp2
    go_ret
    exact ⟨by first | rfl | (simp; done) | (simp [*]; done), by repeat (first | exact Drawn0.refl _ | apply Drawn0.step)⟩
  · rw [if_neg c4] at H
    have c4b0 : decide (a1 ≤ a0) = false := decide_eq_false c4
    clear c4
    obtain rfl := Option.some.inj H
    go_enter Try.func48, Try.ntmps48
    go_wp2
    go_ret
    exact ⟨by first | rfl | (simp; done) | (simp [*]; done), by repeat (first | exact Drawn0.refl _ | apply Drawn0.step)⟩

/-! ### spec_MulWide: function 49 -/
def spec_MulWide.f (a0_0 : Nat) (a0_1 : Nat) (a1_0 : Nat) (a1_1 : Nat) : Option (Nat × Nat) := some (open_sub_f64 (open_mul_f64 a0_0 a1_0) (open_mul_f64 a0_1 a1_1), open_add_f64 (open_mul_f64 a0_0 a1_1) (open_mul_f64 a0_1 a1_0))
set_option maxHeartbeats 8000000 in
set_option maxRecDepth 100000 in
theorem spec_MulWide.calls (a0 : Nat) (a1 : Nat) (a2 : Nat) (a3 : Nat) (x0 : Nat) (x1 : Nat) (x2 : Nat) (x3 : Nat) (h0 : Fl.cls .f64 a0 = Fl.cls .f64 x0) (h1 : Fl.cls .f64 a1 = Fl.cls .f64 x1) (h2 : Fl.cls .f64 a2 = Fl.cls .f64 x2) (h3 : Fl.cls .f64 a3 = Fl.cls .f64 x3) (r1 r2 : Nat) (w : World) (h : spec_MulWide.f x0 x1 x2 x3 = some (r1, r2)) :
    Calls Try.prog 49 #[.agg #[.float .f64 a0, .float .f64 a1], .agg #[.float .f64 a2, .float .f64 a3]] w fun e w' => ∃ b1 b2, Aside0 (Fl.cls .f64 b1 = Fl.cls .f64 r1) ∧ Aside0 (Fl.cls .f64 b2 = Fl.cls .f64 r2) ∧ e = .returned (.agg #[.float .f64 b1, .float .f64 b2]) ∧ Below w.heap.size w w' := by
  unfold spec_MulWide.f at h
  simp only [Option.some.injEq, Prod.mk.injEq] at h
  obtain ⟨rfl, rfl⟩ := h
  go_enter Try.func49, Try.ntmps49
  go_wp2_with (first | ((with_reducible refine gate_dst (N := 13) rfl ?_); refine Hand.arith_event rfl rfl rfl rfl rfl ?_; intro b_o13 q_o13 h_o13) | ((with_reducible refine gate_dst (N := 18) rfl ?_); refine Hand.arith_event rfl rfl rfl rfl rfl ?_; intro b_o18 q_o18 h_o18) | ((with_reducible refine gate_dst (N := 23) rfl ?_); refine Hand.arith_event rfl rfl rfl rfl rfl ?_; intro b_o23 q_o23 h_o23) | ((with_reducible refine gate_dst (N := 28) rfl ?_); refine Hand.arith_event rfl rfl rfl rfl rfl ?_; intro b_o28 q_o28 h_o28) | ((with_reducible refine gate_dst (N := 31) rfl ?_); refine Hand.arith_event rfl rfl rfl rfl rfl ?_; intro b_o31 q_o31 h_o31) | ((with_reducible refine gate_dst (N := 34) rfl ?_); refine Hand.arith_event rfl rfl rfl rfl rfl ?_; intro b_o34 q_o34 h_o34))
  apply bodyPost_ret
  · simp [results, Try.f49, go_sem] <;> rfl
  · rfl
  · refine ⟨_, _, ⟨?_⟩, ⟨?_⟩, rfl, ?_⟩
    · simp only [h_o34.out, h_o31.out, h_o28.out, h_o23.out, h_o18.out, h_o13.out, h0, h1, h2, h3, cls_add32, cls_sub32, cls_add64, cls_sub64, cls_mul64, cls_quo64, cls_conv64]
    · simp only [h_o34.out, h_o31.out, h_o28.out, h_o23.out, h_o18.out, h_o13.out, h0, h1, h2, h3, cls_add32, cls_sub32, cls_add64, cls_sub64, cls_mul64, cls_quo64, cls_conv64]
    · (repeat (first | (with_reducible first | exact Below.refl _ _ | apply below_alloc | apply pw_below_drewN | apply below_drew1) | (refine below_set ?_ (by omega)) | exact Below.refl _ _))

/-! ### spec_l14Bar: function 50 -/
def spec_l14Bar.f (a0_0 : Nat) (a0_1 : Nat) : Option (Nat × Nat) := some (a0_0, Op.negFloat .f32 a0_1)
set_option maxHeartbeats 8000000 in
set_option maxRecDepth 100000 in
theorem spec_l14Bar.calls (a0_0 : Nat) (a0_1 : Nat) (r1 : Nat) (r2 : Nat) (w : World) (h : spec_l14Bar.f a0_0 a0_1 = some (r1, r2)) :
    Calls Try.prog 50 #[.agg #[.float .f32 a0_0, .float .f32 a0_1]] w fun e w' => e = .returned (.agg #[.float .f32 r1, .float .f32 r2]) ∧ Below w.heap.size w w' := by
  have hu31 := Try.underlying31
  have HB := Aside0.mk (Below.refl w.heap.size w)
  have H : (some (a0_0, Op.negFloat .f32 a0_1)) = some (r1, r2) := h
  clear h
  simp only [Option.some.injEq, Prod.mk.injEq] at H
  obtain ⟨rfl, rfl⟩ := H
  go_enter Try.func50, Try.ntmps50
  go_wp2_with (first | ((with_reducible refine gate_dst (N := 1) rfl ?_); refine box_event ?hg (N := 1) ?hd (cs := #[.float .f32 a0_0, .float .f32 a0_1]) (t := 31) ?hr ?_; (case hd => rfl); (case hg => rfl); (case hr => first | (go_simp; done) | (go_simp; rfl)); intro gb127 hg w2 hbox hb; have n0_ := Aside0.mk (below_step (by repeat (first | (with_reducible first | exact HB.out | apply below_alloc | apply pw_below_drewN | apply below_drew1) | exact HB.out)) hb); have n1_ := Aside0.mk (hbox); have n2_ := Aside0.mk ((by rw [hg]; exact (below_size (by repeat (first | (with_reducible first | exact HB.out | apply below_alloc | apply pw_below_drewN | apply below_drew1) | exact HB.out))) : w.heap.size ≤ gb127)); have n3_ := Aside0.mk ((by rw [hg]; exact (below_size (by repeat (first | (with_reducible first | exact HB.out | apply below_alloc | apply pw_below_drewN | apply below_drew1) | exact HB.out))) : w.heap.size ≤ gb127)); clear HB; have HB := n0_; have BK127 := n1_; have GW127 := n2_; have GE127 := n3_; clear n0_ n1_ n2_ n3_; clear hb hbox hg) | ((with_reducible refine gate_dst (N := 2) rfl ?_); refine box_event ?hg (N := 2) ?hd (cs := #[.float .f32 0, .float .f32 0]) (t := 31) ?hr ?_; (case hd => rfl); (case hg => rfl); (case hr => first | (go_simp; done) | (go_simp; rfl)); intro gb128 hg w3 hbox hb; have n0_ := Aside0.mk (blk_below (g := gb127) (o := .cells #[.float .f32 a0_0, .float .f32 a0_1] 31 (0, 0)) (by (with_reducible repeat (first | refine blk_drewN ?_ _ | refine blk_drew ?_ | refine blk_alloc ?_ _)); exact BK127.out) hb); have n1_ := Aside0.mk (below_step (by repeat (first | (with_reducible first | exact HB.out | apply below_alloc | apply pw_below_drewN | apply below_drew1 | refine below_set ?_ GE127.out) | exact HB.out)) hb); have n2_ := Aside0.mk (hbox); have n3_ := Aside0.mk ((by rw [hg]; exact (below_size (by repeat (first | (with_reducible first | exact HB.out | apply below_alloc | apply pw_below_drewN | apply below_drew1 | refine below_set ?_ GE127.out) | exact HB.out))) : w.heap.size ≤ gb128)); have n4_ := Aside0.mk ((by rw [hg]; exact (below_size (by repeat (first | (with_reducible first | exact HB.out | apply below_alloc | apply pw_below_drewN | apply below_drew1 | refine below_set ?_ GE127.out) | exact HB.out))) : w.heap.size ≤ gb128)); have n5_ := Aside0.mk ((by rw [hg]; exact Nat.ne_of_lt (blk_lt (g := gb127) (o := .cells #[.float .f32 a0_0, .float .f32 a0_1] 31 (0, 0)) (by (with_reducible repeat (first | refine blk_drewN ?_ _ | refine blk_drew ?_ | refine blk_alloc ?_ _)); exact BK127.out)) : gb127 ≠ gb128)); have n6_ := Aside0.mk ((by rw [hg]; exact Nat.ne_of_gt (blk_lt (g := gb127) (o := .cells #[.float .f32 a0_0, .float .f32 a0_1] 31 (0, 0)) (by (with_reducible repeat (first | refine blk_drewN ?_ _ | refine blk_drew ?_ | refine blk_alloc ?_ _)); exact BK127.out)) : gb128 ≠ gb127)); clear BK127; clear HB; have BK127 := n0_; have HB := n1_; have BK128 := n2_; have GW128 := n3_; have GE128 := n4_; have NB127_128 := n5_; have NB128_127 := n6_; clear n0_ n1_ n2_ n3_ n4_ n5_ n6_; clear hb hbox hg; have hnb4 := NB127_128.out; have hnc4 := NB128_127.out; have hcz5_0 : w3.cell? ⟨gb127, 0, none⟩ = some (.float .f32 a0_0) := (blk_cell BK127.out 0).trans rfl; have hcz5_1 : w3.cell? ⟨gb127, 1, none⟩ = some (.float .f32 a0_1) := (blk_cell BK127.out 1).trans rfl; have hfz5_0 := blk_frozen BK127.out 0; have hfz5_1 := blk_frozen BK127.out 1; have hcz6_0 : w3.cell? ⟨gb128, 0, none⟩ = some (.float .f32 0) := (blk_cell BK128.out 0).trans rfl; have hcz6_1 : w3.cell? ⟨gb128, 1, none⟩ = some (.float .f32 0) := (blk_cell BK128.out 1).trans rfl; have hfz6_0 := blk_frozen BK128.out 0; have hfz6_1 := blk_frozen BK128.out 1))
  refine bodyPost_ret (results_cell_row rfl _ _ gb128 31 #[.float .f32 a0_0, .float .f32 (Op.negFloat .f32 a0_1)] (0, 0) _ rfl (by (with_reducible repeat (first | refine blk_drewN ?_ _ | refine blk_drew ?_ | refine blk_alloc ?_ _)); refine blk_put (cs := #[.float .f32 a0_0, .float .f32 0]) ?_ 1 _ rfl; (with_reducible repeat (first | refine blk_drewN ?_ _ | refine blk_drew ?_ | refine blk_alloc ?_ _)); refine blk_put (cs := #[.float .f32 0, .float .f32 0]) ?_ 0 _ rfl; (with_reducible repeat (first | refine blk_drewN ?_ _ | refine blk_drew ?_ | refine blk_alloc ?_ _)); exact BK128.out) Try.underlying31 rfl (by kernel_rfl)) rfl ?_
  exact ⟨by first | rfl | (simp [errW_none, errW_some] <;> rfl) | (simp [*, errW_none, errW_some] <;> rfl), by repeat (first | (with_reducible first | exact HB.out | apply below_alloc | apply pw_below_drewN | apply below_drew1 | refine below_set ?_ GE127.out | refine below_set ?_ GE128.out) | exact HB.out)⟩

end Go.Proofs.Ytigbdfhlpnabdaa.MFnExactMatch14
