/- The parts of the book that the print does not take: what they answer, and that the code comes to it. -/
import Derived.Test.YtngnkfpciloamaaMFnExactFaultsx6
import Derived.Test.YtngnkfpciloamaaHandRepeatFnExactFaults
import Derived.Outline
import Derived.Laws.CopyOwn
import Derived.Deep.RegionLaw
import Derived.RegionTactic
import Derived.ChangeAlike
import Derived.BigRegion
import Derived.StillTailTactics
import Derived.StillTactics
namespace Go.Proofs.Ytngnkfpciloamaa.MFnExactFaults
open Go Go.RowKit Go.Proofs.YtngnkfpciloamaaW.PrintWords Go.Proofs.YtngnkfpciloamaaW.PrintLast Go.Proofs.YtngnkfpciloamaaW.PrintMore Go.Proofs.Ytngnkfpciloamaa.Mine
attribute [local go_sem] max2_int min2_int max_two min_two max_three min_three max_four min_four
set_option linter.unusedVariables false
set_option linter.unusedSimpArgs false
/-- A row of the call's own that holds something lies in a block of its own. -/
theorem R_there {w : World} {base e : Nat} {ok : Nat → Prop} {v : Value} {xs : List Int} (h : Kd.R (Kd.int .i64) e w base ok v xs) (hn : 0 < xs.length) : ∃ g c, v = .slice (some ⟨g, 0, none⟩) xs.length c := by
 obtain ⟨inner, h1, h2⟩ := Kd.R_own h
 rcases h2 with ⟨rfl, h3⟩ | ⟨g, cap, cur, rfl, _⟩
 ·simp at h3; rw [h3] at h1
  simp at h1; exfalso; simp_all
 ·exact ⟨g, cap, rfl⟩
theorem R_blk_lt {w : World} {base e : Nat} {ok : Nat → Prop} {v : Value} {xs : List Int} {g c : Nat} (h : Kd.R (Kd.int .i64) e w base ok v xs) (hv : v = .slice (some ⟨g, 0, none⟩) xs.length c) : g < w.heap.size := by
 subst hv
 exact Kd.R_lt h g rfl
/-! ### impl_meets: function 43 -/
def impl_meets.f (a0_0 : Int) (a0_1 : Int) (a0_2 : Int) (a1_0 : Int) (a1_1 : Int) (a1_2 : Int) : Option (Bool) := if a0_0 = a1_0 then (some true) else (if a0_0 = a1_1 then (some true) else (if a0_1 = a1_0 then (some true) else (if a0_1 = a1_1 then (some true) else (if a0_2 ≥ 0 then (some (a0_2 == a1_2)) else (some false)))))
set_option maxHeartbeats 8000000 in
set_option maxRecDepth 100000 in
theorem impl_meets.calls (a0_0 : Int) (a0_1 : Int) (a0_2 : Int) (a1_0 : Int) (a1_1 : Int) (a1_2 : Int) (r : Bool) (w : World) (h : impl_meets.f a0_0 a0_1 a0_2 a1_0 a1_1 a1_2 = some r) :
  Calls Try.prog 43 #[.agg #[.int .i64 a0_0, .int .i64 a0_1, .int .i64 a0_2], .agg #[.int .i64 a1_0, .int .i64 a1_1, .int .i64 a1_2]] w fun e w' => e = .returned (.bool r) ∧ Below w.heap.size w w' := by
 have hu50 := Try.underlying50
 have HB := Aside0.mk (Below.refl w.heap.size w)
 have H : (if a0_0 = a1_0 then (some true) else (if a0_0 = a1_1 then (some true) else (if a0_1 = a1_0 then (some true) else (if a0_1 = a1_1 then (some true) else (if a0_2 ≥ 0 then (some (a0_2 == a1_2)) else (some false)))))) = some r := h
 clear h
 by_cases c3 : a0_0 = a1_0
 ·rw [if_pos c3] at H
  have c3b0 : (a0_0 == a1_0) = true := beq_iff_eq.mpr c3
  have c3b1 : (a0_0 != a1_0) = false := bne_eq_false_iff_eq.mpr c3
  clear c3
  obtain rfl := Option.some.inj H
  go_enter Try.func43, Try.ntmps43
  go_wp2_with (first | ((with_reducible refine gate_dst (N := 2) rfl ?_); refine box_event ?hg (N := 2) ?hd (cs := #[.int .i64 a0_0, .int .i64 a0_1, .int .i64 a0_2]) (t := 50) ?hr ?_; (case hd => rfl); (case hg => rfl); (case hr => first | (go_simp; done) | (go_simp; rfl)); intro gb166 hg w4 hbox hb; have n0_ := Aside0.mk (below_step (by repeat (first | (with_reducible first | exact HB.out | apply below_alloc | apply pw_below_drewN | apply below_drew1) | exact HB.out)) hb); have n1_ := Aside0.mk (hbox); have n2_ := Aside0.mk ((by rw [hg]; exact (below_size (by repeat (first | (with_reducible first | exact HB.out | apply below_alloc | apply pw_below_drewN | apply below_drew1) | exact HB.out))) : w.heap.size ≤ gb166)); have n3_ := Aside0.mk ((by rw [hg]; exact (below_size (by repeat (first | (with_reducible first | exact HB.out | apply below_alloc | apply pw_below_drewN | apply below_drew1) | exact HB.out))) : w.heap.size ≤ gb166)); clear HB; have HB := n0_; have BK166 := n1_; have GW166 := n2_; have GE166 := n3_; clear n0_ n1_ n2_ n3_; clear hb hbox hg) | ((with_reducible refine gate_dst (N := 3) rfl ?_); refine box_event ?hg (N := 3) ?hd (cs := #[.int .i64 a1_0, .int .i64 a1_1, .int .i64 a1_2]) (t := 50) ?hr ?_; (case hd => rfl); (case hg => rfl); (case hr => first | (go_simp; done) | (go_simp; rfl)); intro gb167 hg w5 hbox hb; have n0_ := Aside0.mk (blk_below (g := gb166) (o := .cells #[.int .i64 a0_0, .int .i64 a0_1, .int .i64 a0_2] 50 (0, 0)) (by (with_reducible repeat (first | refine blk_drewN ?_ _ | refine blk_drew ?_ | refine blk_alloc ?_ _)); exact BK166.out) hb); have n1_ := Aside0.mk (below_step (by repeat (first | (with_reducible first | exact HB.out | apply below_alloc | apply pw_below_drewN | apply below_drew1 | refine below_set ?_ GE166.out) | exact HB.out)) hb); have n2_ := Aside0.mk (hbox); have n3_ := Aside0.mk ((by rw [hg]; exact (below_size (by repeat (first | (with_reducible first | exact HB.out | apply below_alloc | apply pw_below_drewN | apply below_drew1 | refine below_set ?_ GE166.out) | exact HB.out))) : w.heap.size ≤ gb167)); have n4_ := Aside0.mk ((by rw [hg]; exact (below_size (by repeat (first | (with_reducible first | exact HB.out | apply below_alloc | apply pw_below_drewN | apply below_drew1 | refine below_set ?_ GE166.out) | exact HB.out))) : w.heap.size ≤ gb167)); have n5_ := Aside0.mk ((by rw [hg]; exact Nat.ne_of_lt (blk_lt (g := gb166) (o := .cells #[.int .i64 a0_0, .int .i64 a0_1, .int .i64 a0_2] 50 (0, 0)) (by (with_reducible repeat (first | refine blk_drewN ?_ _ | refine blk_drew ?_ | refine blk_alloc ?_ _)); exact BK166.out)) : gb166 ≠ gb167)); have n6_ := Aside0.mk ((by rw [hg]; exact Nat.ne_of_gt (blk_lt (g := gb166) (o := .cells #[.int .i64 a0_0, .int .i64 a0_1, .int .i64 a0_2] 50 (0, 0)) (by (with_reducible repeat (first | refine blk_drewN ?_ _ | refine blk_drew ?_ | refine blk_alloc ?_ _)); exact BK166.out)) : gb167 ≠ gb166)); clear BK166; clear HB; have BK166 := n0_; have HB := n1_; have BK167 := n2_; have GW167 := n3_; have GE167 := n4_; have NB166_167 := n5_; have NB167_166 := n6_; clear n0_ n1_ n2_ n3_ n4_ n5_ n6_; clear hb hbox hg; have hnb6 := NB166_167.out; have hnc6 := NB167_166.out; have hcz7_0 : w5.cell? ⟨gb166, 0, none⟩ = some (.int .i64 a0_0) := (blk_cell BK166.out 0).trans rfl; have hcz7_1 : w5.cell? ⟨gb166, 1, none⟩ = some (.int .i64 a0_1) := (blk_cell BK166.out 1).trans rfl; have hcz7_2 : w5.cell? ⟨gb166, 2, none⟩ = some (.int .i64 a0_2) := (blk_cell BK166.out 2).trans rfl; have hfz7_0 := blk_frozen BK166.out 0; have hfz7_1 := blk_frozen BK166.out 1; have hfz7_2 := blk_frozen BK166.out 2; have hcz8_0 : w5.cell? ⟨gb167, 0, none⟩ = some (.int .i64 a1_0) := (blk_cell BK167.out 0).trans rfl; have hcz8_1 : w5.cell? ⟨gb167, 1, none⟩ = some (.int .i64 a1_1) := (blk_cell BK167.out 1).trans rfl; have hcz8_2 : w5.cell? ⟨gb167, 2, none⟩ = some (.int .i64 a1_2) := (blk_cell BK167.out 2).trans rfl; have hfz8_0 := blk_frozen BK167.out 0; have hfz8_1 := blk_frozen BK167.out 1; have hfz8_2 := blk_frozen BK167.out 2))
  go_ret
  exact ⟨by first | rfl | (simp [errW_none, errW_some] <;> rfl) | (simp [*, errW_none, errW_some] <;> rfl), by repeat (first | (with_reducible first | exact HB.out | apply below_alloc | apply pw_below_drewN | apply below_drew1 | refine below_set ?_ GE166.out | refine below_set ?_ GE167.out) | exact HB.out)⟩
 ·rw [if_neg c3] at H
  have c3b0 : (a0_0 == a1_0) = false := beq_eq_false_iff_ne.mpr c3
  have c3b1 : (a0_0 != a1_0) = true := bne_iff_ne.mpr c3
  by_cases c9 : a0_0 = a1_1
  ·rw [if_pos c9] at H
   have c9b0 : (a0_0 == a1_1) = true := beq_iff_eq.mpr c9
   have c9b1 : (a0_0 != a1_1) = false := bne_eq_false_iff_eq.mpr c9
   clear c9
   obtain rfl := Option.some.inj H
   go_enter Try.func43, Try.ntmps43
   go_wp2_with (first | ((with_reducible refine gate_dst (N := 2) rfl ?_); refine box_event ?hg (N := 2) ?hd (cs := #[.int .i64 a0_0, .int .i64 a0_1, .int .i64 a0_2]) (t := 50) ?hr ?_; (case hd => rfl); (case hg => rfl); (case hr => first | (go_simp; done) | (go_simp; rfl)); intro gb166 hg w10 hbox hb; have n0_ := Aside0.mk (below_step (by repeat (first | (with_reducible first | exact HB.out | apply below_alloc | apply pw_below_drewN | apply below_drew1) | exact HB.out)) hb); have n1_ := Aside0.mk (hbox); have n2_ := Aside0.mk ((by rw [hg]; exact (below_size (by repeat (first | (with_reducible first | exact HB.out | apply below_alloc | apply pw_below_drewN | apply below_drew1) | exact HB.out))) : w.heap.size ≤ gb166)); have n3_ := Aside0.mk ((by rw [hg]; exact (below_size (by repeat (first | (with_reducible first | exact HB.out | apply below_alloc | apply pw_below_drewN | apply below_drew1) | exact HB.out))) : w.heap.size ≤ gb166)); clear HB; have HB := n0_; have BK166 := n1_; have GW166 := n2_; have GE166 := n3_; clear n0_ n1_ n2_ n3_; clear hb hbox hg) | ((with_reducible refine gate_dst (N := 3) rfl ?_); refine box_event ?hg (N := 3) ?hd (cs := #[.int .i64 a1_0, .int .i64 a1_1, .int .i64 a1_2]) (t := 50) ?hr ?_; (case hd => rfl); (case hg => rfl); (case hr => first | (go_simp; done) | (go_simp; rfl)); intro gb167 hg w11 hbox hb; have n0_ := Aside0.mk (blk_below (g := gb166) (o := .cells #[.int .i64 a0_0, .int .i64 a0_1, .int .i64 a0_2] 50 (0, 0)) (by (with_reducible repeat (first | refine blk_drewN ?_ _ | refine blk_drew ?_ | refine blk_alloc ?_ _)); exact BK166.out) hb); have n1_ := Aside0.mk (below_step (by repeat (first | (with_reducible first | exact HB.out | apply below_alloc | apply pw_below_drewN | apply below_drew1 | refine below_set ?_ GE166.out) | exact HB.out)) hb); have n2_ := Aside0.mk (hbox); have n3_ := Aside0.mk ((by rw [hg]; exact (below_size (by repeat (first | (with_reducible first | exact HB.out | apply below_alloc | apply pw_below_drewN | apply below_drew1 | refine below_set ?_ GE166.out) | exact HB.out))) : w.heap.size ≤ gb167)); have n4_ := Aside0.mk ((by rw [hg]; exact (below_size (by repeat (first | (with_reducible first | exact HB.out | apply below_alloc | apply pw_below_drewN | apply below_drew1 | refine below_set ?_ GE166.out) | exact HB.out))) : w.heap.size ≤ gb167)); have n5_ := Aside0.mk ((by rw [hg]; exact Nat.ne_of_lt (blk_lt (g := gb166) (o := .cells #[.int .i64 a0_0, .int .i64 a0_1, .int .i64 a0_2] 50 (0, 0)) (by (with_reducible repeat (first | refine blk_drewN ?_ _ | refine blk_drew ?_ | refine blk_alloc ?_ _)); exact BK166.out)) : gb166 ≠ gb167)); have n6_ := Aside0.mk ((by rw [hg]; exact Nat.ne_of_gt (blk_lt (g := gb166) (o := .cells #[.int .i64 a0_0, .int .i64 a0_1, .int .i64 a0_2] 50 (0, 0)) (by (with_reducible repeat (first | refine blk_drewN ?_ _ | refine blk_drew ?_ | refine blk_alloc ?_ _)); exact BK166.out)) : gb167 ≠ gb166)); clear BK166; clear HB; have BK166 := n0_; have HB := n1_; have BK167 := n2_; have GW167 := n3_; have GE167 := n4_; have NB166_167 := n5_; have NB167_166 := n6_; clear n0_ n1_ n2_ n3_ n4_ n5_ n6_; clear hb hbox hg; have hnb12 := NB166_167.out; have hnc12 := NB167_166.out; have hcz13_0 : w11.cell? ⟨gb166, 0, none⟩ = some (.int .i64 a0_0) := (blk_cell BK166.out 0).trans rfl; have hcz13_1 : w11.cell? ⟨gb166, 1, none⟩ = some (.int .i64 a0_1) := (blk_cell BK166.out 1).trans rfl; have hcz13_2 : w11.cell? ⟨gb166, 2, none⟩ = some (.int .i64 a0_2) := (blk_cell BK166.out 2).trans rfl; have hfz13_0 := blk_frozen BK166.out 0; have hfz13_1 := blk_frozen BK166.out 1; have hfz13_2 := blk_frozen BK166.out 2; have hcz14_0 : w11.cell? ⟨gb167, 0, none⟩ = some (.int .i64 a1_0) := (blk_cell BK167.out 0).trans rfl; have hcz14_1 : w11.cell? ⟨gb167, 1, none⟩ = some (.int .i64 a1_1) := (blk_cell BK167.out 1).trans rfl; have hcz14_2 : w11.cell? ⟨gb167, 2, none⟩ = some (.int .i64 a1_2) := (blk_cell BK167.out 2).trans rfl; have hfz14_0 := blk_frozen BK167.out 0; have hfz14_1 := blk_frozen BK167.out 1; have hfz14_2 := blk_frozen BK167.out 2))
   go_ret
   exact ⟨by first | rfl | (simp [errW_none, errW_some] <;> rfl) | (simp [*, errW_none, errW_some] <;> rfl), by repeat (first | (with_reducible first | exact HB.out | apply below_alloc | apply pw_below_drewN | apply below_drew1 | refine below_set ?_ GE166.out | refine below_set ?_ GE167.out) | exact HB.out)⟩
  ·rw [if_neg c9] at H
   have c9b0 : (a0_0 == a1_1) = false := beq_eq_false_iff_ne.mpr c9
   have c9b1 : (a0_0 != a1_1) = true := bne_iff_ne.mpr c9
   by_cases c15 : a0_1 = a1_0
   ·rw [if_pos c15] at H
    have c15b0 : (a0_1 == a1_0) = true := beq_iff_eq.mpr c15
    have c15b1 : (a0_1 != a1_0) = false := bne_eq_false_iff_eq.mpr c15
    clear c15
    obtain rfl := Option.some.inj H
    go_enter Try.func43, Try.ntmps43
    go_wp2_with (first | ((with_reducible refine gate_dst (N := 2) rfl ?_); refine box_event ?hg (N := 2) ?hd (cs := #[.int .i64 a0_0, .int .i64 a0_1, .int .i64 a0_2]) (t := 50) ?hr ?_; (case hd => rfl); (case hg => rfl); (case hr => first | (go_simp; done) | (go_simp; rfl)); intro gb166 hg w16 hbox hb; have n0_ := Aside0.mk (below_step (by repeat (first | (with_reducible first | exact HB.out | apply below_alloc | apply pw_below_drewN | apply below_drew1) | exact HB.out)) hb); have n1_ := Aside0.mk (hbox); have n2_ := Aside0.mk ((by rw [hg]; exact (below_size (by repeat (first | (with_reducible first | exact HB.out | apply below_alloc | apply pw_below_drewN | apply below_drew1) | exact HB.out))) : w.heap.size ≤ gb166)); have n3_ := Aside0.mk ((by rw [hg]; exact (below_size (by repeat (first | (with_reducible first | exact HB.out | apply below_alloc | apply pw_below_drewN | apply below_drew1) | exact HB.out))) : w.heap.size ≤ gb166)); clear HB; have HB := n0_; have BK166 := n1_; have GW166 := n2_; have GE166 := n3_; clear n0_ n1_ n2_ n3_; clear hb hbox hg) | ((with_reducible refine gate_dst (N := 3) rfl ?_); refine box_event ?hg (N := 3) ?hd (cs := #[.int .i64 a1_0, .int .i64 a1_1, .int .i64 a1_2]) (t := 50) ?hr ?_; (case hd => rfl); (case hg => rfl); (case hr => first | (go_simp; done) | (go_simp; rfl)); intro gb167 hg w17 hbox hb; have n0_ := Aside0.mk (blk_below (g := gb166) (o := .cells #[.int .i64 a0_0, .int .i64 a0_1, .int .i64 a0_2] 50 (0, 0)) (by (with_reducible repeat (first | refine blk_drewN ?_ _ | refine blk_drew ?_ | refine blk_alloc ?_ _)); exact BK166.out) hb); have n1_ := Aside0.mk (below_step (by repeat (first | (with_reducible first | exact HB.out | apply below_alloc | apply pw_below_drewN | apply below_drew1 | refine below_set ?_ GE166.out) | exact HB.out)) hb); have n2_ := Aside0.mk (hbox); have n3_ := Aside0.mk ((by rw [hg]; exact (below_size (by repeat (first | (with_reducible first | exact HB.out | apply below_alloc | apply pw_below_drewN | apply below_drew1 | refine below_set ?_ GE166.out) | exact HB.out))) : w.heap.size ≤ gb167)); have n4_ := Aside0.mk ((by rw [hg]; exact (below_size (by repeat (first | (with_reducible first | exact HB.out | apply below_alloc | apply pw_below_drewN | apply below_drew1 | refine below_set ?_ GE166.out) | exact HB.out))) : w.heap.size ≤ gb167)); have n5_ := Aside0.mk ((by rw [hg]; exact Nat.ne_of_lt (blk_lt (g := gb166) (o := .cells #[.int .i64 a0_0, .int .i64 a0_1, .int .i64 a0_2] 50 (0, 0)) (by (with_reducible repeat (first | refine blk_drewN ?_ _ | refine blk_drew ?_ | refine blk_alloc ?_ _)); exact BK166.out)) : gb166 ≠ gb167)); have n6_ := Aside0.mk ((by rw [hg]; exact Nat.ne_of_gt (blk_lt (g := gb166) (o := .cells #[.int .i64 a0_0, .int .i64 a0_1, .int .i64 a0_2] 50 (0, 0)) (by (with_reducible repeat (first | refine blk_drewN ?_ _ | refine blk_drew ?_ | refine blk_alloc ?_ _)); exact BK166.out)) : gb167 ≠ gb166)); clear BK166; clear HB; have BK166 := n0_; have HB := n1_; have BK167 := n2_; have GW167 := n3_; have GE167 := n4_; have NB166_167 := n5_; have NB167_166 := n6_; clear n0_ n1_ n2_ n3_ n4_ n5_ n6_; clear hb hbox hg; have hnb18 := NB166_167.out; have hnc18 := NB167_166.out; have hcz19_0 : w17.cell? ⟨gb166, 0, none⟩ = some (.int .i64 a0_0) := (blk_cell BK166.out 0).trans rfl; have hcz19_1 : w17.cell? ⟨gb166, 1, none⟩ = some (.int .i64 a0_1) := (blk_cell BK166.out 1).trans rfl; have hcz19_2 : w17.cell? ⟨gb166, 2, none⟩ = some (.int .i64 a0_2) := (blk_cell BK166.out 2).trans rfl; have hfz19_0 := blk_frozen BK166.out 0; have hfz19_1 := blk_frozen BK166.out 1; have hfz19_2 := blk_frozen BK166.out 2; have hcz20_0 : w17.cell? ⟨gb167, 0, none⟩ = some (.int .i64 a1_0) := (blk_cell BK167.out 0).trans rfl; have hcz20_1 : w17.cell? ⟨gb167, 1, none⟩ = some (.int .i64 a1_1) := (blk_cell BK167.out 1).trans rfl; have hcz20_2 : w17.cell? ⟨gb167, 2, none⟩ = some (.int .i64 a1_2) := (blk_cell BK167.out 2).trans rfl; have hfz20_0 := blk_frozen BK167.out 0; have hfz20_1 := blk_frozen BK167.out 1; have hfz20_2 := blk_frozen BK167.out 2))
    go_ret
    exact ⟨by first | rfl | (simp [errW_none, errW_some] <;> rfl) | (simp [*, errW_none, errW_some] <;> rfl), by repeat (first | (with_reducible first | exact HB.out | apply below_alloc | apply pw_below_drewN | apply below_drew1 | refine below_set ?_ GE166.out | refine below_set ?_ GE167.out) | exact HB.out)⟩
   ·rw [if_neg c15] at H
    have c15b0 : (a0_1 == a1_0) = false := beq_eq_false_iff_ne.mpr c15
    have c15b1 : (a0_1 != a1_0) = true := bne_iff_ne.mpr c15
    by_cases c21 : a0_1 = a1_1
    ·rw [if_pos c21] at H
     have c21b0 : (a0_1 == a1_1) = true := beq_iff_eq.mpr c21
     have c21b1 : (a0_1 != a1_1) = false := bne_eq_false_iff_eq.mpr c21
     clear c21
     obtain rfl := Option.some.inj H
     go_enter Try.func43, Try.ntmps43
     go_wp2_with (first | ((with_reducible refine gate_dst (N := 2) rfl ?_); refine box_event ?hg (N := 2) ?hd (cs := #[.int .i64 a0_0, .int .i64 a0_1, .int .i64 a0_2]) (t := 50) ?hr ?_; (case hd => rfl); (case hg => rfl); (case hr => first | (go_simp; done) | (go_simp; rfl)); intro gb166 hg w22 hbox hb; have n0_ := Aside0.mk (below_step (by repeat (first | (with_reducible first | exact HB.out | apply below_alloc | apply pw_below_drewN | apply below_drew1) | exact HB.out)) hb); have n1_ := Aside0.mk (hbox); have n2_ := Aside0.mk ((by rw [hg]; exact (below_size (by repeat (first | (with_reducible first | exact HB.out | apply below_alloc | apply pw_below_drewN | apply below_drew1) | exact HB.out))) : w.heap.size ≤ gb166)); have n3_ := Aside0.mk ((by rw [hg]; exact (below_size (by repeat (first | (with_reducible first | exact HB.out | apply below_alloc | apply pw_below_drewN | apply below_drew1) | exact HB.out))) : w.heap.size ≤ gb166)); clear HB; have HB := n0_; have BK166 := n1_; have GW166 := n2_; have GE166 := n3_; clear n0_ n1_ n2_ n3_; clear hb hbox hg) | ((with_reducible refine gate_dst (N := 3) rfl ?_); refine box_event ?hg (N := 3) ?hd (cs := #[.int .i64 a1_0, .int .i64 a1_1, .int .i64 a1_2]) (t := 50) ?hr ?_; (case hd => rfl); (case hg => rfl); (case hr => first | (go_simp; done) | (go_simp; rfl)); intro gb167 hg w23 hbox hb; have n0_ := Aside0.mk (blk_below (g := gb166) (o := .cells #[.int .i64 a0_0, .int .i64 a0_1, .int .i64 a0_2] 50 (0, 0)) (by (with_reducible repeat (first | refine blk_drewN ?_ _ | refine blk_drew ?_ | refine blk_alloc ?_ _)); exact BK166.out) hb); have n1_ := Aside0.mk (below_step (by repeat (first | (with_reducible first | exact HB.out | apply below_alloc | apply pw_below_drewN | apply below_drew1 | refine below_set ?_ GE166.out) | exact HB.out)) hb); have n2_ := Aside0.mk (hbox); have n3_ := Aside0.mk ((by rw [hg]; exact (below_size (by repeat (first | (with_reducible first | exact HB.out | apply below_alloc | apply pw_below_drewN | apply below_drew1 | refine below_set ?_ GE166.out) | exact HB.out))) : w.heap.size ≤ gb167)); have n4_ := Aside0.mk ((by rw [hg]; exact (below_size (by repeat (first | (with_reducible first | exact HB.out | apply below_alloc | apply pw_below_drewN | apply below_drew1 | refine below_set ?_ GE166.out) | exact HB.out))) : w.heap.size ≤ gb167)); have n5_ := Aside0.mk ((by rw [hg]; exact Nat.ne_of_lt (blk_lt (g := gb166) (o := .cells #[.int .i64 a0_0, .int .i64 a0_1, .int .i64 a0_2] 50 (0, 0)) (by (with_reducible repeat (first | refine blk_drewN ?_ _ | refine blk_drew ?_ | refine blk_alloc ?_ _)); exact BK166.out)) : gb166 ≠ gb167)); have n6_ := Aside0.mk ((by rw [hg]; exact Nat.ne_of_gt (blk_lt (g := gb166) (o := .cells #[.int .i64 a0_0, .int .i64 a0_1, .int .i64 a0_2] 50 (0, 0)) (by (with_reducible repeat (first | refine blk_drewN ?_ _ | refine blk_drew ?_ | refine blk_alloc ?_ _)); exact BK166.out)) : gb167 ≠ gb166)); clear BK166; clear HB; have BK166 := n0_; have HB := n1_; have BK167 := n2_; have GW167 := n3_; have GE167 := n4_; have NB166_167 := n5_; have NB167_166 := n6_; clear n0_ n1_ n2_ n3_ n4_ n5_ n6_; clear hb hbox hg; have hnb24 := NB166_167.out; have hnc24 := NB167_166.out; have hcz25_0 : w23.cell? ⟨gb166, 0, none⟩ = some (.int .i64 a0_0) := (blk_cell BK166.out 0).trans rfl; have hcz25_1 : w23.cell? ⟨gb166, 1, none⟩ = some (.int .i64 a0_1) := (blk_cell BK166.out 1).trans rfl; have hcz25_2 : w23.cell? ⟨gb166, 2, none⟩ = some (.int .i64 a0_2) := (blk_cell BK166.out 2).trans rfl; have hfz25_0 := blk_frozen BK166.out 0; have hfz25_1 := blk_frozen BK166.out 1; have hfz25_2 := blk_frozen BK166.out 2; have hcz26_0 : w23.cell? ⟨gb167, 0, none⟩ = some (.int .i64 a1_0) := (blk_cell BK167.out 0).trans rfl; have hcz26_1 : w23.cell? ⟨gb167, 1, none⟩ = some (.int .i64 a1_1) := (blk_cell BK167.out 1).trans rfl; have hcz26_2 : w23.cell? ⟨gb167, 2, none⟩ = some (.int .i64 a1_2) := (blk_cell BK167.out 2).trans rfl; have hfz26_0 := blk_frozen BK167.out 0; have hfz26_1 := blk_frozen BK167.out 1; have hfz26_2 := blk_frozen BK167.out 2))
     go_ret
     exact ⟨by first | rfl | (simp [errW_none, errW_some] <;> rfl) | (simp [*, errW_none, errW_some] <;> rfl), by repeat (first | (with_reducible first | exact HB.out | apply below_alloc | apply pw_below_drewN | apply below_drew1 | refine below_set ?_ GE166.out | refine below_set ?_ GE167.out) | exact HB.out)⟩
    ·rw [if_neg c21] at H
     have c21b0 : (a0_1 == a1_1) = false := beq_eq_false_iff_ne.mpr c21
     have c21b1 : (a0_1 != a1_1) = true := bne_iff_ne.mpr c21
     by_cases c27 : a0_2 ≥ 0
     ·rw [if_pos c27] at H
      have c27b0 : decide (0 ≤ a0_2) = true := decide_eq_true c27
      clear c27
      obtain rfl := Option.some.inj H
      go_enter Try.func43, Try.ntmps43
      go_wp2_with (first | ((with_reducible refine gate_dst (N := 2) rfl ?_); refine box_event ?hg (N := 2) ?hd (cs := #[.int .i64 a0_0, .int .i64 a0_1, .int .i64 a0_2]) (t := 50) ?hr ?_; (case hd => rfl); (case hg => rfl); (case hr => first | (go_simp; done) | (go_simp; rfl)); intro gb166 hg w28 hbox hb; have n0_ := Aside0.mk (below_step (by repeat (first | (with_reducible first | exact HB.out | apply below_alloc | apply pw_below_drewN | apply below_drew1) | exact HB.out)) hb); have n1_ := Aside0.mk (hbox); have n2_ := Aside0.mk ((by rw [hg]; exact (below_size (by repeat (first | (with_reducible first | exact HB.out | apply below_alloc | apply pw_below_drewN | apply below_drew1) | exact HB.out))) : w.heap.size ≤ gb166)); have n3_ := Aside0.mk ((by rw [hg]; exact (below_size (by repeat (first | (with_reducible first | exact HB.out | apply below_alloc | apply pw_below_drewN | apply below_drew1) | exact HB.out))) : w.heap.size ≤ gb166)); clear HB; have HB := n0_; have BK166 := n1_; have GW166 := n2_; have GE166 := n3_; clear n0_ n1_ n2_ n3_; clear hb hbox hg) | ((with_reducible refine gate_dst (N := 3) rfl ?_); refine box_event ?hg (N := 3) ?hd (cs := #[.int .i64 a1_0, .int .i64 a1_1, .int .i64 a1_2]) (t := 50) ?hr ?_; (case hd => rfl); (case hg => rfl); (case hr => first | (go_simp; done) | (go_simp; rfl)); intro gb167 hg w29 hbox hb; have n0_ := Aside0.mk (blk_below (g := gb166) (o := .cells #[.int .i64 a0_0, .int .i64 a0_1, .int .i64 a0_2] 50 (0, 0)) (by (with_reducible repeat (first | refine blk_drewN ?_ _ | refine blk_drew ?_ | refine blk_alloc ?_ _)); exact BK166.out) hb); have n1_ := Aside0.mk (below_step (by repeat (first | (with_reducible first | exact HB.out | apply below_alloc | apply pw_below_drewN | apply below_drew1 | refine below_set ?_ GE166.out) | exact HB.out)) hb); have n2_ := Aside0.mk (hbox); have n3_ := Aside0.mk ((by rw [hg]; exact (below_size (by repeat (first | (with_reducible first | exact HB.out | apply below_alloc | apply pw_below_drewN | apply below_drew1 | refine below_set ?_ GE166.out) | exact HB.out))) : w.heap.size ≤ gb167)); have n4_ := Aside0.mk ((by rw [hg]; exact (below_size (by repeat (first | (with_reducible first | exact HB.out | apply below_alloc | apply pw_below_drewN | apply below_drew1 | refine below_set ?_ GE166.out) | exact HB.out))) : w.heap.size ≤ gb167)); have n5_ := Aside0.mk ((by rw [hg]; exact Nat.ne_of_lt (blk_lt (g := gb166) (o := .cells #[.int .i64 a0_0, .int .i64 a0_1, .int .i64 a0_2] 50 (0, 0)) (by (with_reducible repeat (first | refine blk_drewN ?_ _ | refine blk_drew ?_ | refine blk_alloc ?_ _)); exact BK166.out)) : gb166 ≠ gb167)); have n6_ := Aside0.mk ((by rw [hg]; exact Nat.ne_of_gt (blk_lt (g := gb166) (o := .cells #[.int .i64 a0_0, .int .i64 a0_1, .int .i64 a0_2] 50 (0, 0)) (by (with_reducible repeat (first | refine blk_drewN ?_ _ | refine blk_drew ?_ | refine blk_alloc ?_ _)); exact BK166.out)) : gb167 ≠ gb166)); clear BK166; clear HB; have BK166 := n0_; have HB := n1_; have BK167 := n2_; have GW167 := n3_; have GE167 := n4_; have NB166_167 := n5_; have NB167_166 := n6_; clear n0_ n1_ n2_ n3_ n4_ n5_ n6_; clear hb hbox hg; have hnb30 := NB166_167.out; have hnc30 := NB167_166.out; have hcz31_0 : w29.cell? ⟨gb166, 0, none⟩ = some (.int .i64 a0_0) := (blk_cell BK166.out 0).trans rfl; have hcz31_1 : w29.cell? ⟨gb166, 1, none⟩ = some (.int .i64 a0_1) := (blk_cell BK166.out 1).trans rfl; have hcz31_2 : w29.cell? ⟨gb166, 2, none⟩ = some (.int .i64 a0_2) := (blk_cell BK166.out 2).trans rfl; have hfz31_0 := blk_frozen BK166.out 0; have hfz31_1 := blk_frozen BK166.out 1; have hfz31_2 := blk_frozen BK166.out 2; have hcz32_0 : w29.cell? ⟨gb167, 0, none⟩ = some (.int .i64 a1_0) := (blk_cell BK167.out 0).trans rfl; have hcz32_1 : w29.cell? ⟨gb167, 1, none⟩ = some (.int .i64 a1_1) := (blk_cell BK167.out 1).trans rfl; have hcz32_2 : w29.cell? ⟨gb167, 2, none⟩ = some (.int .i64 a1_2) := (blk_cell BK167.out 2).trans rfl; have hfz32_0 := blk_frozen BK167.out 0; have hfz32_1 := blk_frozen BK167.out 1; have hfz32_2 := blk_frozen BK167.out 2))
      go_ret
      exact ⟨by first | rfl | (simp [errW_none, errW_some] <;> rfl) | (simp [*, errW_none, errW_some] <;> rfl), by repeat (first | (with_reducible first | exact HB.out | apply below_alloc | apply pw_below_drewN | apply below_drew1 | refine below_set ?_ GE166.out | refine below_set ?_ GE167.out) | exact HB.out)⟩
     ·rw [if_neg c27] at H
      have c27b0 : decide (0 ≤ a0_2) = false := decide_eq_false c27
      clear c27
      obtain rfl := Option.some.inj H
      go_enter Try.func43, Try.ntmps43
      go_wp2_with (first | ((with_reducible refine gate_dst (N := 2) rfl ?_); refine box_event ?hg (N := 2) ?hd (cs := #[.int .i64 a0_0, .int .i64 a0_1, .int .i64 a0_2]) (t := 50) ?hr ?_; (case hd => rfl); (case hg => rfl); (case hr => first | (go_simp; done) | (go_simp; rfl)); intro gb166 hg w33 hbox hb; have n0_ := Aside0.mk (below_step (by repeat (first | (with_reducible first | exact HB.out | apply below_alloc | apply pw_below_drewN | apply below_drew1) | exact HB.out)) hb); have n1_ := Aside0.mk (hbox); have n2_ := Aside0.mk ((by rw [hg]; exact (below_size (by repeat (first | (with_reducible first | exact HB.out | apply below_alloc | apply pw_below_drewN | apply below_drew1) | exact HB.out))) : w.heap.size ≤ gb166)); have n3_ := Aside0.mk ((by rw [hg]; exact (below_size (by repeat (first | (with_reducible first | exact HB.out | apply below_alloc | apply pw_below_drewN | apply below_drew1) | exact HB.out))) : w.heap.size ≤ gb166)); clear HB; have HB := n0_; have BK166 := n1_; have GW166 := n2_; have GE166 := n3_; clear n0_ n1_ n2_ n3_; clear hb hbox hg) | ((with_reducible refine gate_dst (N := 3) rfl ?_); refine box_event ?hg (N := 3) ?hd (cs := #[.int .i64 a1_0, .int .i64 a1_1, .int .i64 a1_2]) (t := 50) ?hr ?_; (case hd => rfl); (case hg => rfl); (case hr => first | (go_simp; done) | (go_simp; rfl)); intro gb167 hg w34 hbox hb; have n0_ := Aside0.mk (blk_below (g := gb166) (o := .cells #[.int .i64 a0_0, .int .i64 a0_1, .int .i64 a0_2] 50 (0, 0)) (by (with_reducible repeat (first | refine blk_drewN ?_ _ | refine blk_drew ?_ | refine blk_alloc ?_ _)); exact BK166.out) hb); have n1_ := Aside0.mk (below_step (by repeat (first | (with_reducible first | exact HB.out | apply below_alloc | apply pw_below_drewN | apply below_drew1 | refine below_set ?_ GE166.out) | exact HB.out)) hb); have n2_ := Aside0.mk (hbox); have n3_ := Aside0.mk ((by rw [hg]; exact (below_size (by repeat (first | (with_reducible first | exact HB.out | apply below_alloc | apply pw_below_drewN | apply below_drew1 | refine below_set ?_ GE166.out) | exact HB.out))) : w.heap.size ≤ gb167)); have n4_ := Aside0.mk ((by rw [hg]; exact (below_size (by repeat (first | (with_reducible first | exact HB.out | apply below_alloc | apply pw_below_drewN | apply below_drew1 | refine below_set ?_ GE166.out) | exact HB.out))) : w.heap.size ≤ gb167)); have n5_ := Aside0.mk ((by rw [hg]; exact Nat.ne_of_lt (blk_lt (g := gb166) (o := .cells #[.int .i64 a0_0, .int .i64 a0_1, .int .i64 a0_2] 50 (0, 0)) (by (with_reducible repeat (first | refine blk_drewN ?_ _ | refine blk_drew ?_ | refine blk_alloc ?_ _)); exact BK166.out)) : gb166 ≠ gb167)); have n6_ := Aside0.mk ((by rw [hg]; exact Nat.ne_of_gt (blk_lt (g := gb166) (o := .cells #[.int .i64 a0_0, .int .i64 a0_1, .int .i64 a0_2] 50 (0, 0)) (by (with_reducible repeat (first | refine blk_drewN ?_ _ | refine blk_drew ?_ | refine blk_alloc ?_ _)); exact BK166.out)) : gb167 ≠ gb166)); clear BK166; clear HB; have BK166 := n0_; have HB := n1_; have BK167 := n2_; have GW167 := n3_; have GE167 := n4_; have NB166_167 := n5_; have NB167_166 := n6_; clear n0_ n1_ n2_ n3_ n4_ n5_ n6_; clear hb hbox hg; have hnb35 := NB166_167.out; have hnc35 := NB167_166.out; have hcz36_0 : w34.cell? ⟨gb166, 0, none⟩ = some (.int .i64 a0_0) := (blk_cell BK166.out 0).trans rfl; have hcz36_1 : w34.cell? ⟨gb166, 1, none⟩ = some (.int .i64 a0_1) := (blk_cell BK166.out 1).trans rfl; have hcz36_2 : w34.cell? ⟨gb166, 2, none⟩ = some (.int .i64 a0_2) := (blk_cell BK166.out 2).trans rfl; have hfz36_0 := blk_frozen BK166.out 0; have hfz36_1 := blk_frozen BK166.out 1; have hfz36_2 := blk_frozen BK166.out 2; have hcz37_0 : w34.cell? ⟨gb167, 0, none⟩ = some (.int .i64 a1_0) := (blk_cell BK167.out 0).trans rfl; have hcz37_1 : w34.cell? ⟨gb167, 1, none⟩ = some (.int .i64 a1_1) := (blk_cell BK167.out 1).trans rfl; have hcz37_2 : w34.cell? ⟨gb167, 2, none⟩ = some (.int .i64 a1_2) := (blk_cell BK167.out 2).trans rfl; have hfz37_0 := blk_frozen BK167.out 0; have hfz37_1 := blk_frozen BK167.out 1; have hfz37_2 := blk_frozen BK167.out 2))
      go_ret
      exact ⟨by first | rfl | (simp [errW_none, errW_some] <;> rfl) | (simp [*, errW_none, errW_some] <;> rfl), by repeat (first | (with_reducible first | exact HB.out | apply below_alloc | apply pw_below_drewN | apply below_drew1 | refine below_set ?_ GE166.out | refine below_set ?_ GE167.out) | exact HB.out)⟩

/-! ### two talks that meet; slices.IndexFunc, slices.ContainsFunc at a talk's own 'meets' -/
/-- Two talks share a line or a circuit. -/
def meetB (t u : S50) : Bool := if t.f0 = u.f0 then true else if t.f0 = u.f1 then true else if t.f1 = u.f0 then true else if t.f1 = u.f1 then true else if t.f2 ≥ 0 then t.f2 == u.f2 else false
theorem meets_eq (t u : S50) : impl_meets.f t.f0 t.f1 t.f2 u.f0 u.f1 u.f2 = some (meetB t u) := by
 unfold impl_meets.f meetB
 split
 ·rfl
 split
 ·rfl
 split
 ·rfl
 split
 ·rfl
 split <;> rfl
abbrev talkV (t : S50) : Value := .agg #[.int .i64 t.f0, .int .i64 t.f1, .int .i64 t.f2]
theorem rd50_get (l : List S50) (i : Nat) (h : i < l.length) : rd_T50 l (i : Int) = l[i] := by simp [rd_T50, h]
theorem any_drop (t : S50) (l : List S50) (i : Nat) (h : i < l.length) : (l.drop i).any (meetB t) = (meetB t (rd_T50 l (i : Int)) || (l.drop (i + 1)).any (meetB t)) := by
 rw [rd50_get l i h, List.drop_eq_getElem_cons h, List.any_cons]
set_option maxHeartbeats 4000000 in
set_option maxRecDepth 100000 in
theorem index_calls (t : S50) (A0 : Option Addr) (c0 : Nat) (l0 : List S50) (w : World) (hr0 : Kd.C k50 w A0 l0.length l0) (hn : l0.length ≤ 1048576) :
  Calls Try.prog 61 #[.slice A0 l0.length c0, .func (.func 43) #[talkV t] #[]] w fun e w' => ∃ r : Int, e = .returned (.int .i64 r) ∧ (0 ≤ r ↔ l0.any (meetB t) = true) ∧ Below w.heap.size w w' := by
 have hu50 := Try.underlying50
 have HR0 := Aside0.mk hr0
 clear hr0
 go_enter Try.func61, Try.ntmps61
 go_wp2
 go_loopg [8] l0.length (fun gf v8 wr => ∃ i : Nat, v8 = .int .i64 i ∧ i + gf = l0.length ∧ Aside0 ((l0.drop i).any (meetB t) = l0.any (meetB t)) ∧ Aside0 (Below w.heap.size w wr))
 case atStart => exact ⟨0, rfl, by omega, ⟨by simp⟩, ⟨Below.refl _ _⟩⟩
 case round =>
  obtain ⟨i, rfl, hi, HA, HB⟩ := hrel
  by_cases hlt : i < l0.length
  ·obtain ⟨g', rfl⟩ : ∃ g', gk = g' + 1 := ⟨gk - 1, by omega⟩
   obtain ⟨ad, e0, hx0, hx1, hx2⟩ := at_T50 HR0.out (i : Int) (by omega) (by omega)
   have HD := Aside0.mk ((any_drop t l0 i hlt).symm.trans HA.out)
   obtain ⟨X, hX⟩ : ∃ X, rd_T50 l0 (i : Int) = X := ⟨_, rfl⟩
   rw [hX] at hx0 hx1 hx2 HD
   rw [Int.toNat_natCast] at hx0 hx1 hx2
   clear hX HA
   subst e0
   replace hx0 := (HB.out.cell (World.block_lt_of_cell? w _ hx0)).trans hx0
   replace hx1 := (HB.out.cell (World.block_lt_of_cell? w _ hx1)).trans hx1
   replace hx2 := (HB.out.cell (World.block_lt_of_cell? w _ hx2)).trans hx2
   have cM := fun w => impl_meets.calls t.f0 t.f1 t.f2 X.f0 X.f1 X.f2 (meetB t X) w (meets_eq t X)
   cases hm : meetB t X
   ·rw [hm] at cM HD
    go_wp2_with (first | (go_at_call 43; refine (cM _).mono ?_; rintro e w1 ⟨rfl, hb1⟩))
    go_roundg g'
    case measure => omega
    case rel => exact ⟨i + 1, by go_num, by omega, ⟨by have := HD.out; simpa using this⟩, ⟨below_step HB.out hb1⟩⟩
   ·rw [hm] at cM HD
    go_wp2_with (first | (go_at_call 43; refine (cM _).mono ?_; rintro e w1 ⟨rfl, hb1⟩))
    go_ret
    exact ⟨(i : Int), rfl, ⟨fun _ => by have := HD.out; simpa using this.symm, fun _ => by omega⟩, below_step HB.out hb1⟩
  ·have HA2 := HA.out
   rw [List.drop_eq_nil_of_le (by omega), List.any_nil] at HA2
   have HA3 := Aside0.mk HA2
   clear HA2 HA
   go_wp2
   go_ret
   exact ⟨-1, rfl, ⟨fun h => absurd h (by decide), fun h => by rw [← HA3.out] at h; cases h⟩, HB.out⟩
set_option maxHeartbeats 4000000 in
set_option maxRecDepth 100000 in
theorem contains_calls (t : S50) (A0 : Option Addr) (c0 : Nat) (l0 : List S50) (w : World) (hr0 : Kd.C k50 w A0 l0.length l0) (hn : l0.length ≤ 1048576) :
  Calls Try.prog 42 #[.slice A0 l0.length c0, .func (.func 43) #[talkV t] #[]] w fun e w' => e = .returned (.bool (l0.any (meetB t))) ∧ Below w.heap.size w w' := by
 have cI := index_calls t A0 c0 l0 w hr0 hn
 obtain ⟨b, hb⟩ : ∃ b, l0.any (meetB t) = b := ⟨_, rfl⟩
 simp only [hb] at cI ⊢
 clear hb hr0
 go_enter Try.func42, Try.ntmps42
 go_wp2_with (first | (go_at_call 61; refine cI.mono ?_; rintro e w1 ⟨r, rfl, hr, hb1⟩))
 go_ret
 refine ⟨?_, hb1⟩
 cases b
 ·have h : ¬ 0 ≤ r := fun h => by simpa using hr.mp h
  simp [h]
 ·have h : 0 ≤ r := hr.mpr rfl
  simp [h]
/-! ### slices.Repeat at ints -/
def slices_Repeat_int_int.f (k : Nat) (l0 : List Int) (a1 : Int) : Option (List Int) := if l0.length = 1 then (if 0 ≤ a1 then (if a1 ≤ 1048576 then some (List.replicate a1.toNat (rd l0 0)) else none) else none) else none
theorem slices_Repeat_int_int.mono : ∀ a0 a1 k, LeO (slices_Repeat_int_int.f k a0 a1) (slices_Repeat_int_int.f (k + 1) a0 a1) := fun _ _ _ => LeO.refl _
theorem slices_Repeat_int_int.calls (k : Nat) (A0 : Option Addr) (c0 : Nat) (l0 : List Int) (a1 : Int) (r : List Int) (w : World) (hr0 : Kd.C (Kd.int .i64) w A0 l0.length l0) (hc0 : l0.length ≤ c0) (h : slices_Repeat_int_int.f k l0 a1 = some r) :
  Calls Try.prog 62 #[.slice A0 l0.length c0, .int .i64 a1] w fun e w' => ∃ v0_ : Value, e = .returned (v0_) ∧ Kd.R (Kd.int .i64) 3 w' w.heap.size (fun _ => True) v0_ r ∧ Below w.heap.size w w' := by
 unfold slices_Repeat_int_int.f at h
 by_cases h1 : l0.length = 1
 ·by_cases h2 : 0 ≤ a1
  ·by_cases h3 : a1 ≤ 1048576
   ·rw [if_pos h1, if_pos h2, if_pos h3] at h
    obtain rfl := Option.some.inj h
    obtain ⟨n, rfl⟩ := Int.eq_ofNat_of_zero_le h2
    obtain ⟨ad, rfl, hc⟩ := Kd.at_int hr0 0 (by omega) (by omega)
    have e0 : ad.add (0 : Int).toNat = ad := by cases ad; simp [Addr.add]
    rw [e0] at hc
    rw [h1] at hc0 ⊢
    rw [Int.toNat_natCast]
    exact Go.Proofs.Ytngnkfpciloamaa.Hand.repeat_calls ad c0 (rd l0 0) n (by omega) w hc hc0
   ·rw [if_pos h1, if_pos h2, if_neg h3] at h; cases h
  ·rw [if_pos h1, if_neg h2] at h; cases h
 ·rw [if_neg h1] at h; cases h
/-! ### impl_said: function 44 -/
def impl_said.l0 : Nat → List Int → List Int → Int → List (S50) → List Int → List Int → Option (List Int × List Int)
 | 0, _, _, _, _, _, _ => none
 | k + 1, x4, x5, x6, x220000, x220001, x220002 => if x6 ≥ 0 then (if 0 ≤ x6 then (if x6 < (x220000.length : Int) then (if 0 ≤ ((rd_T50 x220000 x6).f0) then (if ((rd_T50 x220000 x6).f0) < (x4.length : Int) then (if 0 ≤ ((rd_T50 x220000 x6).f1) then (if ((rd_T50 x220000 x6).f1) < (x4.length : Int) then ((some ((x4.set (((rd_T50 x220000 x6).f0) : Int).toNat x6).set (((rd_T50 x220000 x6).f1) : Int).toNat x6 : List Int)).bind fun y235 => (if ((rd_T50 x220000 x6).f2) ≥ 0 then (if 0 ≤ ((rd_T50 x220000 x6).f2) then (if ((rd_T50 x220000 x6).f2) < (x5.length : Int) then (impl_said.l0 k y235 (x5.set (((rd_T50 x220000 x6).f2) : Int).toNat x6) (wrap64 (x6 - 1)) x220000 x220001 x220002) else (none)) else (none)) else (impl_said.l0 k y235 x5 (wrap64 (x6 - 1)) x220000 x220001 x220002))) else (none)) else (none)) else (none)) else (none)) else (none)) else (none)) else (some (x4, x5))
def impl_said.f (k : Nat) (l0_0 : List (S50)) (l0_1 : List Int) (l0_2 : List Int) : Option (List Int × List Int) := (slices_Repeat_int_int.f k (([(-1)] : List Int)) (l0_1.length : Int)).bind fun t223 => ((slices_Repeat_int_int.f k (([(-1)] : List Int)) (l0_2.length : Int)).bind fun t229 => (impl_said.l0 k t223 t229 (wrap64 ((l0_0.length : Int) - 1)) l0_0 l0_1 l0_2))
theorem impl_said.mono_l : ∀ k, (∀ y0 y1 y2 y3 y4 y5, LeO (impl_said.l0 k y0 y1 y2 y3 y4 y5) (impl_said.l0 (k + 1) y0 y1 y2 y3 y4 y5))
 | 0 => fun _ _ _ _ _ _ r h => by simp [impl_said.l0] at h
 | k + 1 => by
  have ih0 := impl_said.mono_l k
  ·intro y0 y1 y2 y3 y4 y5
   unfold impl_said.l0
   repeat' first
   | (with_reducible exact ih0 _ _ _ _ _ _)
   | (with_reducible exact slices_Repeat_int_int.mono _ _ _)
   | (with_reducible exact LeO.refl _)
   | (with_reducible exact LeO.none _)
   | (with_reducible refine LeO.ite ?_ ?_)
   | (with_reducible refine LeO.bind ?_ (fun _ => ?_))
   | exact ih0 _ _ _ _ _ _
   | exact slices_Repeat_int_int.mono _ _ _
   | exact LeO.none _
   | refine LeO.ite ?_ ?_
   | refine LeO.bind ?_ (fun _ => ?_)
theorem impl_said.mono : ∀ a0 a1 a2 k, LeO (impl_said.f k a0 a1 a2) (impl_said.f (k + 1) a0 a1 a2) := by
 intro a0 a1 a2 k
 have ih0 := impl_said.mono_l k
 unfold impl_said.f
 repeat' first
   | (with_reducible exact ih0 _ _ _ _ _ _)
   | (with_reducible exact slices_Repeat_int_int.mono _ _ _)
   | (with_reducible exact LeO.refl _)
   | (with_reducible exact LeO.none _)
   | (with_reducible refine LeO.ite ?_ ?_)
   | (with_reducible refine LeO.bind ?_ (fun _ => ?_))
   | exact ih0 _ _ _ _ _ _
   | exact slices_Repeat_int_int.mono _ _ _
   | exact LeO.none _
   | refine LeO.ite ?_ ?_
   | refine LeO.bind ?_ (fun _ => ?_)
def impl_said.T1 : Bool × List (List Nat × List Nat) := (true, [([], []), ([], []), ([1], [1]), ([2], [2]), ([0, 3], [0, 3]), ([], []), ([], []), ([6], [6]), ([7], [7]), ([5, 8, 4], [5, 8]), ([4, 9, 0, 1, 2, 3, 4], [4]), ([9, 10, 0, 1, 2, 3, 4, 5, 6, 7, 8, 9, 10], [9])])
def impl_said.B1 : List Nat := [0, 0, 2, 6, 15, 0, 0, 64, 192, 511, 1023, 2047]
theorem impl_said.tab1 : rtab .any (opsOf Try.f44 1) = impl_said.T1 := by kernel_rfl
theorem impl_said.bits1 : waitsOk impl_said.T1.2 impl_said.B1 = true := by kernel_rfl
set_option maxHeartbeats 8000000 in
set_option maxRecDepth 100000 in
theorem impl_said.calls (k : Nat) (A0_0 : Option Addr) (c0_0 : Nat) (l0_0 : List (S50)) (A0_1 : Option Addr) (c0_1 : Nat) (l0_1 : List Int) (A0_2 : Option Addr) (c0_2 : Nat) (l0_2 : List Int) (r1 : List Int) (r2 : List Int) (w : World) (hr0_0 : Kd.C k50 w A0_0 l0_0.length l0_0) (hc0_0 : l0_0.length ≤ c0_0) (hr0_1 : Kd.C (Kd.int .i64) w A0_1 l0_1.length l0_1) (hc0_1 : l0_1.length ≤ c0_1) (hr0_2 : Kd.C (Kd.int .i64) w A0_2 l0_2.length l0_2) (hc0_2 : l0_2.length ≤ c0_2) (h : impl_said.f k l0_0 l0_1 l0_2 = some (r1, r2)) :
  Calls Try.prog 44 #[.agg #[.slice A0_0 l0_0.length c0_0, .slice A0_1 l0_1.length c0_1, .slice A0_2 l0_2.length c0_2]] w fun e w' => ∃ v0_ v1_ : Value, e = .returned (.tuple #[v0_, v1_]) ∧ Kd.R (Kd.int .i64) 3 w' w.heap.size (fun k_ => some k_ ≠ (v1_ : Value).ownBlock) v0_ r1 ∧ Kd.R (Kd.int .i64) 3 w' w.heap.size (fun k_ => some k_ ≠ (v0_ : Value).ownBlock) v1_ r2 ∧ Below w.heap.size w w' := by
 have hu29 := Try.underlying29
 have hu50 := Try.underlying50
 have HR0_0 := Aside0.mk hr0_0
 have HC0_0 := Aside0.mk hc0_0
 clear hr0_0 hc0_0
 have HR0_1 := Aside0.mk hr0_1
 have HC0_1 := Aside0.mk hc0_1
 clear hr0_1 hc0_1
 have HR0_2 := Aside0.mk hr0_2
 have HC0_2 := Aside0.mk hc0_2
 clear hr0_2 hc0_2
 have HB := Aside0.mk (Below.refl w.heap.size w)
 have H : ((slices_Repeat_int_int.f k (([(-1)] : List Int)) (l0_1.length : Int)).bind fun t223 => ((slices_Repeat_int_int.f k (([(-1)] : List Int)) (l0_2.length : Int)).bind fun t229 => (impl_said.l0 k t223 t229 (wrap64 ((l0_0.length : Int) - 1)) l0_0 l0_1 l0_2))) = some (r1, r2) := h
 clear h
 obtain ⟨y220, hy220⟩ : ∃ y_ : List Int, y_ = (([(-1)] : List Int)) := ⟨_, rfl⟩
 replace H : ((slices_Repeat_int_int.f k y220 (l0_1.length : Int)).bind fun t223 => ((slices_Repeat_int_int.f k (([(-1)] : List Int)) (l0_2.length : Int)).bind fun t229 => (impl_said.l0 k t223 t229 (wrap64 ((l0_0.length : Int) - 1)) l0_0 l0_1 l0_2))) = some (r1, r2) := by first | (rw [hy220]; with_reducible exact H) | (have H2_ := (Option.bind_some _ _).symm.trans H; rw [hy220]; with_reducible exact H2_) | (have H2_ := (Option.bind_some _ _).symm.trans H; with_reducible exact H2_) | with_reducible exact H | (rw [hy220]; exact H) | exact H
 have Ny220 := Aside0.mk hy220
 clear hy220
 replace H := Option.bind_eq_some_iff.mp H
 obtain ⟨t223, A20, H⟩ := H
 replace H : ((slices_Repeat_int_int.f k (([(-1)] : List Int)) (l0_2.length : Int)).bind fun t229 => (impl_said.l0 k t223 t229 (wrap64 ((l0_0.length : Int) - 1)) l0_0 l0_1 l0_2)) = some (r1, r2) := H
 have A2 := Aside0.mk A20
 clear A20
 obtain ⟨y226, hy226⟩ : ∃ y_ : List Int, y_ = (([(-1)] : List Int)) := ⟨_, rfl⟩
 replace H : ((slices_Repeat_int_int.f k y226 (l0_2.length : Int)).bind fun t229 => (impl_said.l0 k t223 t229 (wrap64 ((l0_0.length : Int) - 1)) l0_0 l0_1 l0_2)) = some (r1, r2) := by first | (rw [hy226]; with_reducible exact H) | (have H2_ := (Option.bind_some _ _).symm.trans H; rw [hy226]; with_reducible exact H2_) | (have H2_ := (Option.bind_some _ _).symm.trans H; with_reducible exact H2_) | with_reducible exact H | (rw [hy226]; exact H) | exact H
 have Ny226 := Aside0.mk hy226
 clear hy226
 replace H := Option.bind_eq_some_iff.mp H
 obtain ⟨t229, A30, H⟩ := H
 replace H : (impl_said.l0 k t223 t229 (wrap64 ((l0_0.length : Int) - 1)) l0_0 l0_1 l0_2) = some (r1, r2) := H
 have A3 := Aside0.mk A30
 clear A30
 have H' := Aside0.mk H
 clear H
 go_enter Try.func44, Try.ntmps44
 try go_wp2_with (first | ((with_reducible refine gate_dst (N := 1) rfl ?_); refine box_event ?hg (N := 1) ?hd (cs := #[.slice A0_0 l0_0.length c0_0, .slice A0_1 l0_1.length c0_1, .slice A0_2 l0_2.length c0_2]) (t := 29) ?hr ?_; (case hd => rfl); (case hg => rfl); (case hr => first | (go_simp; done) | (go_simp; rfl)); intro gb219 hg w4 hbox hb; have n0_ := Aside0.mk (below_step (by repeat (first | (with_reducible first | exact HB.out | apply below_alloc | apply pw_below_drewN | apply below_drew1) | exact HB.out)) hb); have n1_ := Aside0.mk (hbox); have n2_ := Aside0.mk ((by rw [hg]; exact (below_size (by repeat (first | (with_reducible first | exact HB.out | apply below_alloc | apply pw_below_drewN | apply below_drew1) | exact HB.out))) : w.heap.size ≤ gb219)); have n3_ := Aside0.mk ((by rw [hg]; exact (below_size (by repeat (first | (with_reducible first | exact HB.out | apply below_alloc | apply pw_below_drewN | apply below_drew1) | exact HB.out))) : w.heap.size ≤ gb219)); clear HB; have HB := n0_; have BK219 := n1_; have GW219 := n2_; have GE219 := n3_; clear n0_ n1_ n2_ n3_; clear hb hbox hg))
 have n0_ := Aside0.mk (blk_drew BK219.out)
 have n1_ := Aside0.mk (below_drew1 HB.out)
 clear BK219
 clear HB
 have BK219 := n0_
 have HB := n1_
 clear n0_ n1_
 refine start_ (n := 12) (S := fun w' => True) (ds := []) #[false, false, false, false, false, false, false, false, false, false, false, false] (by kernel_rfl) rfl rfl trivial (fun hHeld => ?_); refine with_tabW impl_said.tab1 impl_said.bits1 (fun HT_ HW_ => ?_)
 generalize w4.drew = w5 at BK219 HB hHeld ⊢
 refine pure_ (i := 1) (N := some 9) (v := ?_) (a' := ?_) #[false, true, false, false, false, false, false, false, false, false, false, false] rfl rfl (any_of HT_.out (by kernel_rfl)) (fun _ _ _ h => h) (Or.inl ⟨by rfl, ?_⟩) ?_ ?_
 rotate_left
 ·intro w'
  go_simp
  with_reducible rfl
 rotate_left
 ·simp only [Act.put, List.setIfInBounds_toArray, List.set_cons_zero, List.set_cons_succ, i64_w, i32_w]
  rfl
 refine pure_ (i := 6) (N := some 14) (v := ?_) (a' := ?_) #[false, true, false, false, false, false, true, false, false, false, false, false] rfl rfl (any_of HT_.out (by kernel_rfl)) (fun _ _ _ h => h) (Or.inl ⟨by rfl, ?_⟩) ?_ ?_
 rotate_left
 ·intro w'
  go_simp
  with_reducible rfl
 rotate_left
 ·simp only [Act.put, List.setIfInBounds_toArray, List.set_cons_zero, List.set_cons_succ, i64_w, i32_w]
  rfl
 refine inv_at [0, 2, 3, 4, 5, 7, 8, 9, 10, 11] (fun a0_ b a w' => ∃ (v221 : Value) (v224 : Value) (v227 : Value) (v230 : Value) (m10_ : Value) (m11_ : Value), a = putSel a0_ b [(0, 8, v221), (2, 10, .slice A0_1 l0_1.length c0_1), (3, 11, .int .i64 (l0_1.length : Int)), (4, 12, v224), (5, 13, v227), (7, 15, .slice A0_2 l0_2.length c0_2), (8, 16, .int .i64 (l0_2.length : Int)), (9, 17, v230), (10, 4, m10_), (11, 5, m11_)] ∧ (w'.heap[gb219]? = some (.cells #[.slice A0_0 l0_0.length c0_0, .slice A0_1 l0_1.length c0_1, .slice A0_2 l0_2.length c0_2] 29 (0, 0))) ∧ (Below w.heap.size w w') ∧ (b 0 = true → Kd.R (Kd.int .i64) 3 w' w.heap.size (fun _ => True) v221 y220) ∧ (b 4 = true → Kd.R (Kd.int .i64) 3 w' w.heap.size (fun _ => True) v224 t223) ∧ (b 5 = true → Kd.R (Kd.int .i64) 3 w' w.heap.size (fun _ => True) v227 y226) ∧ (b 9 = true → Kd.R (Kd.int .i64) 3 w' w.heap.size (fun _ => True) v230 t229) ∧ (b 10 = true → (m10_ : Value) = v224) ∧ (b 11 = true → (m11_ : Value) = v230) ∧ (b 4 = true → b 9 = true → ∀ k_, (v224 : Value).ownBlock = some k_ → (v230 : Value).ownBlock ≠ some k_)) HT_.out HW_.out (by kernel_rfl) (by kernel_rfl) ?_ ?_ ?_
 ·exact ⟨.bool false, .bool false, .bool false, .bool false, .bool false, .bool false, by simp only [putSel, Bool.false_eq_true, if_false], BK219.out, HB.out, fun h_ => absurd h_ (by decide), fun h_ => absurd h_ (by decide), fun h_ => absurd h_ (by decide), fun h_ => absurd h_ (by decide), fun h_ => absurd h_ (by decide), fun h_ => absurd h_ (by decide), fun h_ => absurd h_ (by decide)⟩
 ·skip
  clear BK219 HB
  refine steps_cons ?_ ?_
  ·rintro b a w' ⟨v221, v224, v227, v230, m10_, m11_, ha, Q_BK219, Q_HB, Q_HO222, Q_HO225, Q_HO228, Q_HO231, Q_X10_, Q_X11_, Q_AP⟩ hb_ hon hoff
   refine ⟨_, rfl, fun K hK => ?_⟩
   replace ha := Aside0.mk ha
   have BK219 := Aside0.mk Q_BK219
   have HB := Aside0.mk Q_HB
   refine Kd.R_lit_step (Kd.int .i64) _ 3 ?hg (N := 8) ?hd (xs := ([(-1)] : List Int)) (inner := [.int .i64 (-1)]) (ok := fun _ => True) (okp := fun _ => True) ?hr ?hp (fun _ hk => hk) trivial (Below.refl _ _) (Nat.le_refl _) (by simp) ?_; (case hd => rfl); (case hg => rfl); (case hr => first | (go_simp; done) | (go_simp; rfl)); (case hp => exact (Reps.one (show Kd.M (Kd.int .i64) _ _ _ (-1) [.int .i64 (-1)] from rfl) (Reps.none _ _)))
   intro v221 w6 ho7 hb hg_ hnew_
   clear hg_ hnew_
   (first | rw [← Ny220.out] at ho7 | (simp only [Int.reduceToNat] at ho7; rw [← Ny220.out] at ho7))
   have n0_ := Aside0.mk (Kd.R_lower ho7 (below_size (by repeat (first | (with_reducible first | exact HB.out | apply below_alloc | apply pw_below_drewN | apply below_drew1 | refine below_set ?_ GE219.out) | exact HB.out))))
   have n1_ := Aside0.mk (blk_below (g := gb219) (o := .cells #[.slice A0_0 l0_0.length c0_0, .slice A0_1 l0_1.length c0_1, .slice A0_2 l0_2.length c0_2] 29 (0, 0)) (by (with_reducible repeat (first | refine blk_drewN ?_ _ | refine blk_drew ?_ | refine blk_alloc ?_ _)); exact BK219.out) hb)
   have n2_ := Aside0.mk (below_step (by repeat (first | (with_reducible first | exact HB.out | apply below_alloc | apply pw_below_drewN | apply below_drew1 | refine below_set ?_ GE219.out) | exact HB.out)) hb)
   have z_HO228 := fun (h0_ : b 5 = true) => (show Kd.R (Kd.int .i64) 3 w6 w.heap.size (fun _ => True) v227 y226 from by first | exact (Kd.R_elder' (by (with_reducible repeat (first | apply Kd.R_alloc | apply Kd.R_drewN | apply Kd.R_drew)); exact (Q_HO228 h0_)) (Kd.R_base ho7) hb) | exact Kd.R_mono (Kd.R_elder' (by (with_reducible repeat (first | apply Kd.R_alloc | apply Kd.R_drewN | apply Kd.R_drew)); exact (Q_HO228 h0_)) (Kd.R_base ho7) hb) (fun _ h_ => by first | trivial | exact h_ | exact h_.1))
   clear BK219
   clear HB
   have HO222 := n0_
   have BK219 := n1_
   have HB := n2_
   clear n0_ n1_ n2_
   clear hb ho7
   refine hK.out _ _ ⟨v221, v224, v227, v230, m10_, m11_, (by rw [ha.out]; exact putSel_upk 0 hb_ rfl rfl rfl), (by (with_reducible repeat (first | refine blk_drewN ?_ _ | refine blk_drew ?_ | refine blk_alloc ?_ _)); exact BK219.out), (by repeat (first | (with_reducible first | exact HB.out | apply below_alloc | apply pw_below_drewN | apply below_drew1 | refine below_set ?_ GE219.out) | exact HB.out)), fun _ => (by (with_reducible repeat (first | apply Kd.R_alloc | apply Kd.R_drewN | apply Kd.R_drew)); exact HO222.out), fun h0_ => absurd ((hoff 4 (by kernel_rfl)).symm.trans h0_) (by decide), z_HO228, fun h0_ => absurd ((hoff 9 (by kernel_rfl)).symm.trans h0_) (by decide), fun h0_ => absurd ((hoff 10 (by kernel_rfl)).symm.trans h0_) (by decide), fun h0_ => absurd ((hoff 11 (by kernel_rfl)).symm.trans h0_) (by decide), Q_AP⟩
  refine steps_cons ?_ ?_
  ·rintro b a w' ⟨v221, v224, v227, v230, m10_, m11_, ha, Q_BK219, Q_HB, Q_HO222, Q_HO225, Q_HO228, Q_HO231, Q_X10_, Q_X11_, Q_AP⟩ hb_ hon hoff
   refine ⟨_, rfl, fun K hK => ?_⟩
   have e9 : a.tmps[9]? = some (.pointer (some ⟨gb219, 1, none⟩)) := by rw [ha]; exact (putSel_off rfl).trans rfl
   replace ha := Aside0.mk ha
   have BK219 := Aside0.mk Q_BK219
   have HB := Aside0.mk Q_HB
   have hc0_ : w'.cell? ⟨gb219, 0, none⟩ = some (.slice A0_0 l0_0.length c0_0) := (blk_cell BK219.out 0).trans rfl
   have hc1_ : w'.cell? ⟨gb219, 1, none⟩ = some (.slice A0_1 l0_1.length c0_1) := (blk_cell BK219.out 1).trans rfl
   have hc2_ : w'.cell? ⟨gb219, 2, none⟩ = some (.slice A0_2 l0_2.length c0_2) := (blk_cell BK219.out 2).trans rfl
   refine value_ (w1 := w') (v := .slice A0_1 l0_1.length c0_1) (by rfl) rfl ?_ ?_
   ·go_simp
    (try simp only [i64_w])
    try rfl
   refine hK.out _ _ ⟨v221, v224, v227, v230, m10_, m11_, (by rw [ha.out]; exact putSel_upk 1 hb_ rfl rfl rfl), Q_BK219, Q_HB, Q_HO222, fun h0_ => absurd ((hoff 4 (by kernel_rfl)).symm.trans h0_) (by decide), Q_HO228, fun h0_ => absurd ((hoff 9 (by kernel_rfl)).symm.trans h0_) (by decide), fun h0_ => absurd ((hoff 10 (by kernel_rfl)).symm.trans h0_) (by decide), fun h0_ => absurd ((hoff 11 (by kernel_rfl)).symm.trans h0_) (by decide), Q_AP⟩
  refine steps_cons ?_ ?_
  ·rintro b a w' ⟨v221, v224, v227, v230, m10_, m11_, ha, Q_BK219, Q_HB, Q_HO222, Q_HO225, Q_HO228, Q_HO231, Q_X10_, Q_X11_, Q_AP⟩ hb_ hon hoff
   refine ⟨_, rfl, fun K hK => ?_⟩
   have e10 : a.tmps[10]? = some (.slice A0_1 l0_1.length c0_1) := by rw [ha]; exact putSel_on (e := (2, 10, .slice A0_1 l0_1.length c0_1)) 1 rfl rfl (hon 2 (by kernel_rfl)) rfl
   replace ha := Aside0.mk ha
   have BK219 := Aside0.mk Q_BK219
   have HB := Aside0.mk Q_HB
   refine value_ (w1 := w') (v := .int .i64 (l0_1.length : Int)) (by rfl) rfl ?_ ?_
   ·go_simp
    (try simp only [i64_w])
    try rfl
   refine hK.out _ _ ⟨v221, v224, v227, v230, m10_, m11_, (by rw [ha.out]; exact putSel_upk 2 hb_ rfl rfl rfl), Q_BK219, Q_HB, Q_HO222, fun h0_ => absurd ((hoff 4 (by kernel_rfl)).symm.trans h0_) (by decide), Q_HO228, fun h0_ => absurd ((hoff 9 (by kernel_rfl)).symm.trans h0_) (by decide), fun h0_ => absurd ((hoff 10 (by kernel_rfl)).symm.trans h0_) (by decide), fun h0_ => absurd ((hoff 11 (by kernel_rfl)).symm.trans h0_) (by decide), Q_AP⟩
  refine steps_cons ?_ ?_
  ·rintro b a w' ⟨v221, v224, v227, v230, m10_, m11_, ha, Q_BK219, Q_HB, Q_HO222, Q_HO225, Q_HO228, Q_HO231, Q_X10_, Q_X11_, Q_AP⟩ hb_ hon hoff
   refine ⟨_, rfl, fun K hK => ?_⟩
   have e8 : a.tmps[8]? = some (v221) := by rw [ha]; exact putSel_on (e := (0, 8, v221)) 0 rfl rfl (hon 0 (by kernel_rfl)) rfl
   have e11 : a.tmps[11]? = some (.int .i64 (l0_1.length : Int)) := by rw [ha]; exact putSel_on (e := (3, 11, .int .i64 (l0_1.length : Int))) 2 rfl rfl (hon 3 (by kernel_rfl)) rfl
   replace ha := Aside0.mk ha
   have BK219 := Aside0.mk Q_BK219
   have HB := Aside0.mk Q_HB
   have HO222 := Aside0.mk (Q_HO222 (hon 0 (by kernel_rfl)))
   obtain ⟨Ao9, co9, eo9⟩ := Kd.R_slice HO222.out
   (first | subst eo9 | (injection eo9 with f1_ f2_ f3_; have f4_ := f1_.symm; have f5_ := f3_.symm; clear f1_ f2_ f3_; subst f4_; subst f5_))
   refine goes_ Try.func62 (by kernel_rfl) rfl #[.slice Ao9 y220.length co9, .int .i64 (l0_1.length : Int)] (by rfl) rfl rfl (by first | (simp only [List.map_toArray, List.map_cons, List.map_nil, Act.eval, Array.getD_eq_getD_getElem?, Option.getD_some, e8, e11]; done) | (simp only [List.map_toArray, List.map_cons, List.map_nil, Act.eval, Array.getD_eq_getD_getElem?, Option.getD_some, e8, e11]; rfl)) ?_
   with_reducible refine (slices_Repeat_int_int.calls k _ _ y220 (l0_1.length : Int) t223 _ ?side1 ?side2 A2.out).mono ?_
   (case side1 => repeat (first | exact (Kd.R_reads' HO222.out).2.2 | (with_reducible refine Kd.C_alloc ?_ _) | (with_reducible refine Kd.C_drewN ?_ _) | (with_reducible refine Kd.C_drew ?_)))
   (case side2 => exact (Kd.R_reads' HO222.out).2.1)
   rintro e w10 ⟨v224, rfl, ho0, hb⟩
   refine ⟨_, rfl, ?_⟩
   have n0_ := Aside0.mk (Kd.R_elder' (by (with_reducible repeat (first | apply Kd.R_alloc | apply Kd.R_drewN | apply Kd.R_drew)); exact HO222.out) (Kd.R_base ho0) hb)
   have n1_ := Aside0.mk (Kd.R_lower (Kd.R_new' ho0 (Kd.R_lt (by (with_reducible repeat (first | apply Kd.R_alloc | apply Kd.R_drewN | apply Kd.R_drew)); exact HO222.out))) (below_size (by repeat (first | (with_reducible first | exact HB.out | apply below_alloc | apply pw_below_drewN | apply below_drew1 | refine below_set ?_ GE219.out) | exact HB.out))))
   have n2_ := Aside0.mk (blk_below (g := gb219) (o := .cells #[.slice A0_0 l0_0.length c0_0, .slice A0_1 l0_1.length c0_1, .slice A0_2 l0_2.length c0_2] 29 (0, 0)) (by (with_reducible repeat (first | refine blk_drewN ?_ _ | refine blk_drew ?_ | refine blk_alloc ?_ _)); exact BK219.out) hb)
   have n3_ := Aside0.mk (below_step (by repeat (first | (with_reducible first | exact HB.out | apply below_alloc | apply pw_below_drewN | apply below_drew1 | refine below_set ?_ GE219.out) | exact HB.out)) hb)
   have z_HO228 := fun (h0_ : b 5 = true) => (show Kd.R (Kd.int .i64) 3 w10 w.heap.size (fun _ => True) v227 y226 from by first | exact (Kd.R_elder' (by (with_reducible repeat (first | apply Kd.R_alloc | apply Kd.R_drewN | apply Kd.R_drew)); exact (Q_HO228 h0_)) (Kd.R_base ho0) hb) | exact Kd.R_mono (Kd.R_elder' (by (with_reducible repeat (first | apply Kd.R_alloc | apply Kd.R_drewN | apply Kd.R_drew)); exact (Q_HO228 h0_)) (Kd.R_base ho0) hb) (fun _ h_ => by first | trivial | exact h_ | exact h_.1))
   clear HO222
   clear BK219
   clear HB
   have HO222 := n0_
   have HO225 := n1_
   have BK219 := n2_
   have HB := n3_
   clear n0_ n1_ n2_ n3_
   (try clear hb)
   (try clear hb2)
   (try clear hk)
   (try clear hi)
   (try clear ho0)
   refine hK.out _ _ ⟨.slice Ao9 y220.length co9, v224, v227, v230, m10_, m11_, (by rw [ha.out]; exact putSel_upk 3 hb_ rfl rfl rfl), (by (with_reducible repeat (first | refine blk_drewN ?_ _ | refine blk_drew ?_ | refine blk_alloc ?_ _)); exact BK219.out), (by repeat (first | (with_reducible first | exact HB.out | apply below_alloc | apply pw_below_drewN | apply below_drew1 | refine below_set ?_ GE219.out) | exact HB.out)), fun _ => (by (with_reducible repeat (first | apply Kd.R_alloc | apply Kd.R_drewN | apply Kd.R_drew)); exact Kd.R_mono HO222.out (fun _ _ => trivial)), fun _ => (by (with_reducible repeat (first | apply Kd.R_alloc | apply Kd.R_drewN | apply Kd.R_drew)); exact Kd.R_mono HO225.out (fun _ _ => trivial)), z_HO228, fun h0_ => absurd ((hoff 9 (by kernel_rfl)).symm.trans h0_) (by decide), fun h0_ => absurd ((hoff 10 (by kernel_rfl)).symm.trans h0_) (by decide), fun h0_ => absurd ((hoff 11 (by kernel_rfl)).symm.trans h0_) (by decide), fun _ h0_ => absurd ((hoff 9 (by kernel_rfl)).symm.trans h0_) (by decide)⟩
  refine steps_cons ?_ ?_
  ·rintro b a w' ⟨v221, v224, v227, v230, m10_, m11_, ha, Q_BK219, Q_HB, Q_HO222, Q_HO225, Q_HO228, Q_HO231, Q_X10_, Q_X11_, Q_AP⟩ hb_ hon hoff
   refine ⟨_, rfl, fun K hK => ?_⟩
   replace ha := Aside0.mk ha
   have BK219 := Aside0.mk Q_BK219
   have HB := Aside0.mk Q_HB
   refine Kd.R_lit_step (Kd.int .i64) _ 3 ?hg (N := 13) ?hd (xs := ([(-1)] : List Int)) (inner := [.int .i64 (-1)]) (ok := fun _ => True) (okp := fun _ => True) ?hr ?hp (fun _ hk => hk) trivial (Below.refl _ _) (Nat.le_refl _) (by simp) ?_; (case hd => rfl); (case hg => rfl); (case hr => first | (go_simp; done) | (go_simp; rfl)); (case hp => exact (Reps.one (show Kd.M (Kd.int .i64) _ _ _ (-1) [.int .i64 (-1)] from rfl) (Reps.none _ _)))
   intro v227 w6 ho7 hb hg_ hnew_
   clear hg_ hnew_
   (first | rw [← Ny226.out] at ho7 | (simp only [Int.reduceToNat] at ho7; rw [← Ny226.out] at ho7))
   have n0_ := Aside0.mk (Kd.R_lower ho7 (below_size (by repeat (first | (with_reducible first | exact HB.out | apply below_alloc | apply pw_below_drewN | apply below_drew1 | refine below_set ?_ GE219.out) | exact HB.out))))
   have n1_ := Aside0.mk (blk_below (g := gb219) (o := .cells #[.slice A0_0 l0_0.length c0_0, .slice A0_1 l0_1.length c0_1, .slice A0_2 l0_2.length c0_2] 29 (0, 0)) (by (with_reducible repeat (first | refine blk_drewN ?_ _ | refine blk_drew ?_ | refine blk_alloc ?_ _)); exact BK219.out) hb)
   have n2_ := Aside0.mk (below_step (by repeat (first | (with_reducible first | exact HB.out | apply below_alloc | apply pw_below_drewN | apply below_drew1 | refine below_set ?_ GE219.out) | exact HB.out)) hb)
   have z_HO222 := fun (h0_ : b 0 = true) => (show Kd.R (Kd.int .i64) 3 w6 w.heap.size (fun _ => True) v221 y220 from by first | exact (Kd.R_elder' (by (with_reducible repeat (first | apply Kd.R_alloc | apply Kd.R_drewN | apply Kd.R_drew)); exact (Q_HO222 h0_)) (Kd.R_base ho7) hb) | exact Kd.R_mono (Kd.R_elder' (by (with_reducible repeat (first | apply Kd.R_alloc | apply Kd.R_drewN | apply Kd.R_drew)); exact (Q_HO222 h0_)) (Kd.R_base ho7) hb) (fun _ h_ => by first | trivial | exact h_ | exact h_.1))
   have z_HO225 := fun (h0_ : b 4 = true) => (show Kd.R (Kd.int .i64) 3 w6 w.heap.size (fun _ => True) v224 t223 from by first | exact (Kd.R_elder' (by (with_reducible repeat (first | apply Kd.R_alloc | apply Kd.R_drewN | apply Kd.R_drew)); exact (Q_HO225 h0_)) (Kd.R_base ho7) hb) | exact Kd.R_mono (Kd.R_elder' (by (with_reducible repeat (first | apply Kd.R_alloc | apply Kd.R_drewN | apply Kd.R_drew)); exact (Q_HO225 h0_)) (Kd.R_base ho7) hb) (fun _ h_ => by first | trivial | exact h_ | exact h_.1))
   clear BK219
   clear HB
   have HO228 := n0_
   have BK219 := n1_
   have HB := n2_
   clear n0_ n1_ n2_
   clear hb ho7
   refine hK.out _ _ ⟨v221, v224, v227, v230, m10_, m11_, (by rw [ha.out]; exact putSel_upk 4 hb_ rfl rfl rfl), (by (with_reducible repeat (first | refine blk_drewN ?_ _ | refine blk_drew ?_ | refine blk_alloc ?_ _)); exact BK219.out), (by repeat (first | (with_reducible first | exact HB.out | apply below_alloc | apply pw_below_drewN | apply below_drew1 | refine below_set ?_ GE219.out) | exact HB.out)), z_HO222, z_HO225, fun _ => (by (with_reducible repeat (first | apply Kd.R_alloc | apply Kd.R_drewN | apply Kd.R_drew)); exact HO228.out), fun h0_ => absurd ((hoff 9 (by kernel_rfl)).symm.trans h0_) (by decide), fun h0_ => absurd ((hoff 10 (by kernel_rfl)).symm.trans h0_) (by decide), fun h0_ => absurd ((hoff 11 (by kernel_rfl)).symm.trans h0_) (by decide), Q_AP⟩
  refine steps_cons ?_ ?_
  ·rintro b a w' ⟨v221, v224, v227, v230, m10_, m11_, ha, Q_BK219, Q_HB, Q_HO222, Q_HO225, Q_HO228, Q_HO231, Q_X10_, Q_X11_, Q_AP⟩ hb_ hon hoff
   refine ⟨_, rfl, fun K hK => ?_⟩
   have e14 : a.tmps[14]? = some (.pointer (some ⟨gb219, 2, none⟩)) := by rw [ha]; exact (putSel_off rfl).trans rfl
   replace ha := Aside0.mk ha
   have BK219 := Aside0.mk Q_BK219
   have HB := Aside0.mk Q_HB
   have hc0_ : w'.cell? ⟨gb219, 0, none⟩ = some (.slice A0_0 l0_0.length c0_0) := (blk_cell BK219.out 0).trans rfl
   have hc1_ : w'.cell? ⟨gb219, 1, none⟩ = some (.slice A0_1 l0_1.length c0_1) := (blk_cell BK219.out 1).trans rfl
   have hc2_ : w'.cell? ⟨gb219, 2, none⟩ = some (.slice A0_2 l0_2.length c0_2) := (blk_cell BK219.out 2).trans rfl
   refine value_ (w1 := w') (v := .slice A0_2 l0_2.length c0_2) (by rfl) rfl ?_ ?_
   ·go_simp
    (try simp only [i64_w])
    try rfl
   refine hK.out _ _ ⟨v221, v224, v227, v230, m10_, m11_, (by rw [ha.out]; exact putSel_upk 5 hb_ rfl rfl rfl), Q_BK219, Q_HB, Q_HO222, Q_HO225, Q_HO228, fun h0_ => absurd ((hoff 9 (by kernel_rfl)).symm.trans h0_) (by decide), fun h0_ => absurd ((hoff 10 (by kernel_rfl)).symm.trans h0_) (by decide), fun h0_ => absurd ((hoff 11 (by kernel_rfl)).symm.trans h0_) (by decide), Q_AP⟩
  refine steps_cons ?_ ?_
  ·rintro b a w' ⟨v221, v224, v227, v230, m10_, m11_, ha, Q_BK219, Q_HB, Q_HO222, Q_HO225, Q_HO228, Q_HO231, Q_X10_, Q_X11_, Q_AP⟩ hb_ hon hoff
   refine ⟨_, rfl, fun K hK => ?_⟩
   have e15 : a.tmps[15]? = some (.slice A0_2 l0_2.length c0_2) := by rw [ha]; exact putSel_on (e := (7, 15, .slice A0_2 l0_2.length c0_2)) 5 rfl rfl (hon 7 (by kernel_rfl)) rfl
   replace ha := Aside0.mk ha
   have BK219 := Aside0.mk Q_BK219
   have HB := Aside0.mk Q_HB
   refine value_ (w1 := w') (v := .int .i64 (l0_2.length : Int)) (by rfl) rfl ?_ ?_
   ·go_simp
    (try simp only [i64_w])
    try rfl
   refine hK.out _ _ ⟨v221, v224, v227, v230, m10_, m11_, (by rw [ha.out]; exact putSel_upk 6 hb_ rfl rfl rfl), Q_BK219, Q_HB, Q_HO222, Q_HO225, Q_HO228, fun h0_ => absurd ((hoff 9 (by kernel_rfl)).symm.trans h0_) (by decide), fun h0_ => absurd ((hoff 10 (by kernel_rfl)).symm.trans h0_) (by decide), fun h0_ => absurd ((hoff 11 (by kernel_rfl)).symm.trans h0_) (by decide), Q_AP⟩
  refine steps_cons ?_ ?_
  ·rintro b a w' ⟨v221, v224, v227, v230, m10_, m11_, ha, Q_BK219, Q_HB, Q_HO222, Q_HO225, Q_HO228, Q_HO231, Q_X10_, Q_X11_, Q_AP⟩ hb_ hon hoff
   refine ⟨_, rfl, fun K hK => ?_⟩
   have e13 : a.tmps[13]? = some (v227) := by rw [ha]; exact putSel_on (e := (5, 13, v227)) 4 rfl rfl (hon 5 (by kernel_rfl)) rfl
   have e16 : a.tmps[16]? = some (.int .i64 (l0_2.length : Int)) := by rw [ha]; exact putSel_on (e := (8, 16, .int .i64 (l0_2.length : Int))) 6 rfl rfl (hon 8 (by kernel_rfl)) rfl
   replace ha := Aside0.mk ha
   have BK219 := Aside0.mk Q_BK219
   have HB := Aside0.mk Q_HB
   have HO222 := Aside0.mk (Q_HO222 (hon 0 (by kernel_rfl)))
   have HO225 := Aside0.mk (Q_HO225 (hon 4 (by kernel_rfl)))
   have HO228 := Aside0.mk (Q_HO228 (hon 5 (by kernel_rfl)))
   obtain ⟨Ao13, co13, eo13⟩ := Kd.R_slice HO228.out
   (first | subst eo13 | (injection eo13 with f1_ f2_ f3_; have f4_ := f1_.symm; have f5_ := f3_.symm; clear f1_ f2_ f3_; subst f4_; subst f5_))
   refine goes_ Try.func62 (by kernel_rfl) rfl #[.slice Ao13 y226.length co13, .int .i64 (l0_2.length : Int)] (by rfl) rfl rfl (by first | (simp only [List.map_toArray, List.map_cons, List.map_nil, Act.eval, Array.getD_eq_getD_getElem?, Option.getD_some, e13, e16]; done) | (simp only [List.map_toArray, List.map_cons, List.map_nil, Act.eval, Array.getD_eq_getD_getElem?, Option.getD_some, e13, e16]; rfl)) ?_
   with_reducible refine (slices_Repeat_int_int.calls k _ _ y226 (l0_2.length : Int) t229 _ ?side1 ?side2 A3.out).mono ?_
   (case side1 => repeat (first | exact (Kd.R_reads' HO228.out).2.2 | (with_reducible refine Kd.C_alloc ?_ _) | (with_reducible refine Kd.C_drewN ?_ _) | (with_reducible refine Kd.C_drew ?_)))
   (case side2 => exact (Kd.R_reads' HO228.out).2.1)
   rintro e w14 ⟨v230, rfl, ho0, hb⟩
   have AP_ : ∀ k_, (v224 : Value).ownBlock = some k_ → (v230 : Value).ownBlock ≠ some k_ := fun k_ h1_ h2_ => by
    have q_ := Kd.R_lt HO225.out k_ h1_
    rcases Kd.R_base2 ho0 with h_ | ⟨z_, h_, hz_⟩
    ·rw [h_] at h2_; cases h2_
    ·rw [h_] at h2_; injection h2_ with h2_; omega
   refine ⟨_, rfl, ?_⟩
   have n0_ := Aside0.mk (Kd.R_elder' (by (with_reducible repeat (first | apply Kd.R_alloc | apply Kd.R_drewN | apply Kd.R_drew)); exact HO222.out) (Kd.R_base ho0) hb)
   have n1_ := Aside0.mk (Kd.R_elder' (by (with_reducible repeat (first | apply Kd.R_alloc | apply Kd.R_drewN | apply Kd.R_drew)); exact HO225.out) (Kd.R_base ho0) hb)
   have n2_ := Aside0.mk (Kd.R_elder' (by (with_reducible repeat (first | apply Kd.R_alloc | apply Kd.R_drewN | apply Kd.R_drew)); exact HO228.out) (Kd.R_base ho0) hb)
   have n3_ := Aside0.mk (Kd.R_lower (Kd.R_new' (Kd.R_new' (Kd.R_new' ho0 (Kd.R_lt (by (with_reducible repeat (first | apply Kd.R_alloc | apply Kd.R_drewN | apply Kd.R_drew)); exact HO222.out))) (Kd.R_lt (by (with_reducible repeat (first | apply Kd.R_alloc | apply Kd.R_drewN | apply Kd.R_drew)); exact HO225.out))) (Kd.R_lt (by (with_reducible repeat (first | apply Kd.R_alloc | apply Kd.R_drewN | apply Kd.R_drew)); exact HO228.out))) (below_size (by repeat (first | (with_reducible first | exact HB.out | apply below_alloc | apply pw_below_drewN | apply below_drew1 | refine below_set ?_ GE219.out) | exact HB.out))))
   have n4_ := Aside0.mk (blk_below (g := gb219) (o := .cells #[.slice A0_0 l0_0.length c0_0, .slice A0_1 l0_1.length c0_1, .slice A0_2 l0_2.length c0_2] 29 (0, 0)) (by (with_reducible repeat (first | refine blk_drewN ?_ _ | refine blk_drew ?_ | refine blk_alloc ?_ _)); exact BK219.out) hb)
   have n5_ := Aside0.mk (below_step (by repeat (first | (with_reducible first | exact HB.out | apply below_alloc | apply pw_below_drewN | apply below_drew1 | refine below_set ?_ GE219.out) | exact HB.out)) hb)
   clear HO222
   clear HO225
   clear HO228
   clear BK219
   clear HB
   have HO222 := n0_
   have HO225 := n1_
   have HO228 := n2_
   have HO231 := n3_
   have BK219 := n4_
   have HB := n5_
   clear n0_ n1_ n2_ n3_ n4_ n5_
   (try clear hb)
   (try clear hb2)
   (try clear hk)
   (try clear hi)
   (try clear ho0)
   refine hK.out _ _ ⟨v221, v224, .slice Ao13 y226.length co13, v230, m10_, m11_, (by rw [ha.out]; exact putSel_upk 7 hb_ rfl rfl rfl), (by (with_reducible repeat (first | refine blk_drewN ?_ _ | refine blk_drew ?_ | refine blk_alloc ?_ _)); exact BK219.out), (by repeat (first | (with_reducible first | exact HB.out | apply below_alloc | apply pw_below_drewN | apply below_drew1 | refine below_set ?_ GE219.out) | exact HB.out)), fun _ => (by (with_reducible repeat (first | apply Kd.R_alloc | apply Kd.R_drewN | apply Kd.R_drew)); exact Kd.R_mono HO222.out (fun _ _ => trivial)), fun _ => (by (with_reducible repeat (first | apply Kd.R_alloc | apply Kd.R_drewN | apply Kd.R_drew)); exact Kd.R_mono HO225.out (fun _ _ => trivial)), fun _ => (by (with_reducible repeat (first | apply Kd.R_alloc | apply Kd.R_drewN | apply Kd.R_drew)); exact Kd.R_mono HO228.out (fun _ _ => trivial)), fun _ => (by (with_reducible repeat (first | apply Kd.R_alloc | apply Kd.R_drewN | apply Kd.R_drew)); exact Kd.R_mono HO231.out (fun _ _ => trivial)), fun h0_ => absurd ((hoff 10 (by kernel_rfl)).symm.trans h0_) (by decide), fun h0_ => absurd ((hoff 11 (by kernel_rfl)).symm.trans h0_) (by decide), fun _ _ => AP_⟩
  refine steps_cons ?_ ?_
  ·rintro b a w' ⟨v221, v224, v227, v230, m10_, m11_, ha, Q_BK219, Q_HB, Q_HO222, Q_HO225, Q_HO228, Q_HO231, Q_X10_, Q_X11_, Q_AP⟩ hb_ hon hoff
   refine ⟨_, rfl, fun K hK => ?_⟩
   have e12 : a.tmps[12]? = some (v224) := by rw [ha]; exact putSel_on (e := (4, 12, v224)) 3 rfl rfl (hon 4 (by kernel_rfl)) rfl
   replace ha := Aside0.mk ha
   have BK219 := Aside0.mk Q_BK219
   have HB := Aside0.mk Q_HB
   have HO222 := Aside0.mk (Q_HO222 (hon 0 (by kernel_rfl)))
   have HO225 := Aside0.mk (Q_HO225 (hon 4 (by kernel_rfl)))
   have HO228 := Aside0.mk (Q_HO228 (hon 5 (by kernel_rfl)))
   have HO231 := Aside0.mk (Q_HO231 (hon 9 (by kernel_rfl)))
   refine value_ (w1 := w') (v := v224) (by rfl) rfl ?_ ?_
   ·go_simp
    (try simp only [i64_w])
    try rfl
   refine hK.out _ _ ⟨v221, v224, v227, v230, (v224), m11_, (by rw [ha.out]; exact putSel_upk 8 hb_ rfl rfl rfl), Q_BK219, Q_HB, Q_HO222, Q_HO225, Q_HO228, Q_HO231, fun _ => rfl, fun h0_ => absurd ((hoff 11 (by kernel_rfl)).symm.trans h0_) (by decide), Q_AP⟩
  refine steps_cons ?_ ?_
  ·rintro b a w' ⟨v221, v224, v227, v230, m10_, m11_, ha, Q_BK219, Q_HB, Q_HO222, Q_HO225, Q_HO228, Q_HO231, Q_X10_, Q_X11_, Q_AP⟩ hb_ hon hoff
   refine ⟨_, rfl, fun K hK => ?_⟩
   have e17 : a.tmps[17]? = some (v230) := by rw [ha]; exact putSel_on (e := (9, 17, v230)) 7 rfl rfl (hon 9 (by kernel_rfl)) rfl
   replace ha := Aside0.mk ha
   have BK219 := Aside0.mk Q_BK219
   have HB := Aside0.mk Q_HB
   have HO222 := Aside0.mk (Q_HO222 (hon 0 (by kernel_rfl)))
   have HO225 := Aside0.mk (Q_HO225 (hon 4 (by kernel_rfl)))
   have HO228 := Aside0.mk (Q_HO228 (hon 5 (by kernel_rfl)))
   have HO231 := Aside0.mk (Q_HO231 (hon 9 (by kernel_rfl)))
   refine value_ (w1 := w') (v := v230) (by rfl) rfl ?_ ?_
   ·go_simp
    (try simp only [i64_w])
    try rfl
   refine hK.out _ _ ⟨v221, v224, v227, v230, m10_, (v230), (by rw [ha.out]; exact putSel_upk 9 hb_ rfl rfl rfl), Q_BK219, Q_HB, Q_HO222, Q_HO225, Q_HO228, Q_HO231, Q_X10_, fun _ => rfl, Q_AP⟩
  exact steps_nil
 rintro b a w14 hall ⟨v221, v224, v227, v230, m10_, m11_, ha, Q_BK219, Q_HB, Q_HO222, Q_HO225, Q_HO228, Q_HO231, Q_X10_, Q_X11_, Q_AP⟩
 clear BK219 HB
 have hb0_ := hall 0 (by kernel_rfl)
 have hb2_ := hall 2 (by kernel_rfl)
 have hb3_ := hall 3 (by kernel_rfl)
 have hb4_ := hall 4 (by kernel_rfl)
 have hb5_ := hall 5 (by kernel_rfl)
 have hb7_ := hall 7 (by kernel_rfl)
 have hb8_ := hall 8 (by kernel_rfl)
 have hb9_ := hall 9 (by kernel_rfl)
 have hb10_ := hall 10 (by kernel_rfl)
 have hb11_ := hall 11 (by kernel_rfl)
 subst ha
 obtain rfl := (Q_X10_ hb10_).symm
 obtain rfl := (Q_X11_ hb11_).symm
 simp only [putSel, hb0_, hb2_, hb3_, hb4_, hb5_, hb7_, hb8_, hb9_, hb10_, hb11_, if_true, Act.put, List.setIfInBounds_toArray, List.set_cons_zero, List.set_cons_succ]
 have BK219 := Aside0.mk Q_BK219
 clear Q_BK219
 have HB := Aside0.mk Q_HB
 clear Q_HB
 have HO222 := Aside0.mk (Q_HO222 hb0_)
 clear Q_HO222
 have HO225 := Aside0.mk (Q_HO225 hb4_)
 clear Q_HO225
 have HO228 := Aside0.mk (Q_HO228 hb5_)
 clear Q_HO228
 have HO231 := Aside0.mk (Q_HO231 hb9_)
 clear Q_HO231
 have AP := Aside0.mk (Q_AP hb4_ hb9_)
 clear Q_AP
 clear hall hb0_ hb2_ hb3_ hb4_ hb5_ hb7_ hb8_ hb9_ hb10_ hb11_
 have hcz15_0 : w14.cell? ⟨gb219, 0, none⟩ = some (.slice A0_0 l0_0.length c0_0) := (blk_cell BK219.out 0).trans rfl
 have hcz15_1 : w14.cell? ⟨gb219, 1, none⟩ = some (.slice A0_1 l0_1.length c0_1) := (blk_cell BK219.out 1).trans rfl
 have hcz15_2 : w14.cell? ⟨gb219, 2, none⟩ = some (.slice A0_2 l0_2.length c0_2) := (blk_cell BK219.out 2).trans rfl
 have hfz15_0 := blk_frozen BK219.out 0
 have hfz15_1 := blk_frozen BK219.out 1
 have hfz15_2 := blk_frozen BK219.out 2
 try go_wp2
 go_loopg [6] k (fun kq v6 w' => ∃ (x4_1 : List Int) (x5_1 : List Int) (x6_1 : Int), v6 = .int .i64 x6_1 ∧ Aside0 (impl_said.l0 kq x4_1 x5_1 x6_1 l0_0 l0_1 l0_2 = some (r1, r2)) ∧ Aside0 (kq ≤ k) ∧ Aside0 (Kd.R (Kd.int .i64) 3 w' w.heap.size (fun k_ => some k_ ≠ (v230 : Value).ownBlock) v224 x4_1) ∧ Aside0 (Kd.R (Kd.int .i64) 3 w' w.heap.size (fun k_ => some k_ ≠ (v224 : Value).ownBlock) v230 x5_1) ∧ Aside0 (w'.heap[gb219]? = some (.cells #[(.slice A0_0 l0_0.length c0_0), (.slice A0_1 l0_1.length c0_1), (.slice A0_2 l0_2.length c0_2)] 29 (0, 0))) ∧ Aside0 (Below w.heap.size w w'))
 case atStart => exact ⟨(t223), (t229), (wrap64 ((l0_0.length : Int) - 1)), (by first | rfl | (simp; done) | (simp [*]; done)), H', ⟨Nat.le_refl _⟩, ⟨by (with_reducible repeat (first | apply Kd.R_alloc | apply Kd.R_drewN | apply Kd.R_drew)); exact Kd.R_reok rfl HO225.out (fun k_ h_ e_ => AP.out k_ h_ e_.symm)⟩, ⟨by (with_reducible repeat (first | apply Kd.R_alloc | apply Kd.R_drewN | apply Kd.R_drew)); exact Kd.R_reok rfl HO231.out (fun k_ h_ e_ => AP.out k_ e_.symm h_)⟩, ⟨by (with_reducible repeat (first | refine blk_drewN ?_ _ | refine blk_drew ?_ | refine blk_alloc ?_ _)); exact BK219.out⟩, ⟨by repeat (first | (with_reducible first | exact HB.out | apply below_alloc | apply pw_below_drewN | apply below_drew1 | refine below_set ?_ GE219.out) | exact HB.out)⟩⟩
 case round =>
  clear H'
  try clear hcz15_0
  try clear hcz15_1
  try clear hcz15_2
  try clear hfz15_0
  try clear hfz15_1
  try clear hfz15_2
  obtain ⟨x4, x5, x6, rfl, HA, HK1, HO4, HO5, BK, HB⟩ := hrel
  cases gk with
  | zero => exact absurd HA.out (by simp [impl_said.l0])
  | succ k1 =>
   have H := HA.out
   clear HA
   simp only [impl_said.l0] at H
   have hcz_0 : wr.cell? ⟨gb219, 0, none⟩ = some (.slice A0_0 l0_0.length c0_0) := (blk_cell BK.out 0).trans rfl
   have hfz_0 := blk_frozen BK.out 0
   by_cases h6 : x6 ≥ 0
   ·rw [if_pos h6, if_pos (show 0 ≤ x6 from h6)] at H
    by_cases h7 : x6 < (l0_0.length : Int)
    ·rw [if_pos h7] at H
     obtain ⟨ad, e0, hx0, hx1, hx2⟩ := at_T50 HR0_0.out x6 h6 h7
     obtain ⟨X, hX⟩ : ∃ X, rd_T50 l0_0 x6 = X := ⟨_, rfl⟩
     rw [hX] at hx0 hx1 hx2 H
     clear hX
     subst e0
     replace hx0 := (HB.out.cell (World.block_lt_of_cell? w _ hx0)).trans hx0
     replace hx1 := (HB.out.cell (World.block_lt_of_cell? w _ hx1)).trans hx1
     replace hx2 := (HB.out.cell (World.block_lt_of_cell? w _ hx2)).trans hx2
     by_cases hA0 : 0 ≤ X.f0
     ·rw [if_pos hA0] at H
      by_cases hA1 : X.f0 < (x4.length : Int)
      ·rw [if_pos hA1] at H
       by_cases hB0 : 0 ≤ X.f1
       ·rw [if_pos hB0] at H
        by_cases hB1 : X.f1 < (x4.length : Int)
        ·rw [if_pos hB1, Option.bind_some] at H
         obtain ⟨g4, c4, hv4⟩ := R_there HO4.out (by omega)
         have hb4 := R_blk_lt HO4.out hv4
         subst hv4
         have hneb : g4 ≠ wr.heap.size := by omega
         have fA0 := eq_true hA0
         have fA1 := eq_true hA1
         have fB0 := eq_true hB0
         have fB1 := eq_true hB1
         have f6 := eq_true h6
         have f7 := eq_true h7
         have d6 : decide (0 ≤ x6) = true := decide_eq_true h6
         clear hA0 hA1 hB0 hB1 h6 h7
         go_wp2_with fail
         have q0 := heap_alloc_new wr (.cells #[.int .i64 X.f0, .int .i64 X.f1, .int .i64 X.f2] 50)
         have HO4a := Aside0.mk (Kd.R_alloc HO4.out (.cells #[.int .i64 X.f0, .int .i64 X.f1, .int .i64 X.f2] 50))
         have HO5a := Aside0.mk (Kd.R_alloc HO5.out (.cells #[.int .i64 X.f0, .int .i64 X.f1, .int .i64 X.f2] 50))
         have BKa := Aside0.mk (blk_alloc BK.out (.cells #[.int .i64 X.f0, .int .i64 X.f1, .int .i64 X.f2] 50))
         have HBa := Aside0.mk (below_alloc HB.out (.cells #[.int .i64 X.f0, .int .i64 X.f1, .int .i64 X.f2] 50))
         have nb219 := blk_lt BK.out
         obtain ⟨n, hn⟩ : ∃ n, wr.heap.size = n := ⟨_, rfl⟩
         rw [hn] at q0 hneb hb4 nb219
         simp only [hn]
         generalize wr.alloc (.cells #[.int .i64 X.f0, .int .i64 X.f1, .int .i64 X.f2] 50) = W at q0 HO4a HO5a BKa HBa ⊢
         have q0A := Aside0.mk q0
         clear HO4 HO5 BK HB hx0 hx1 hx2 hcz_0 hfz_0 hn
         have kb0 : W.cell? ⟨n, 0, none⟩ = some (.int .i64 X.f0) := (blk_cell q0 0).trans rfl
         have kb1 : W.cell? ⟨n, 1, none⟩ = some (.int .i64 X.f1) := (blk_cell q0 1).trans rfl
         obtain ⟨k4a, k4f⟩ := Kd.R_celln (0 : Int) HO4a.out X.f0 (of_eq_true fA0) (of_eq_true fA1)
         obtain ⟨k4b, k4g⟩ := Kd.R_celln (0 : Int) HO4a.out X.f1 (of_eq_true fB0) (of_eq_true fB1)
         obtain ⟨k4c, k4h⟩ := Kd.R_celln (0 : Int) (Kd.R_putn HO4a.out X.f0 x6) X.f1 (of_eq_true fB0) (of_eq_true fB1)
         clear q0
         go_region
         have ge4 : w.heap.size ≤ g4 := by
          rcases Kd.R_base2 HO4a.out with h_ | ⟨z_, h_, hz_⟩
          ·simp [Value.ownBlock] at h_
          ·simp only [Value.ownBlock, Option.some.injEq] at h_; omega
         have ne4 : gb219 ≠ g4 := fun e_ => Kd.R_ne HO4a.out BKa.out (by decide) (by rw [e_]; rfl)
         have HO4b := Aside0.mk (Kd.R_drew (Kd.R_putn (Kd.R_putn HO4a.out X.f0 x6) X.f1 x6))
         have HO5b := Aside0.mk (Kd.R_drew (Kd.R_far (p := ⟨g4, X.f1.toNat, none⟩) (Kd.R_far (p := ⟨g4, X.f0.toNat, none⟩) HO5a.out (fun k_ hk e_ => hk (by rw [e_]; rfl)) (.int .i64 x6)) (fun k_ hk e_ => hk (by rw [e_]; rfl)) (.int .i64 x6)))
         have BKb := Aside0.mk (blk_drew (blk_far (p := ⟨g4, X.f1.toNat, none⟩) (blk_far (p := ⟨g4, X.f0.toNat, none⟩) BKa.out ne4 (.int .i64 x6)) ne4 (.int .i64 x6)))
         have q0b := Aside0.mk (blk_drew (blk_far (p := ⟨g4, X.f1.toNat, none⟩) (blk_far (p := ⟨g4, X.f0.toNat, none⟩) q0A.out (Ne.symm hneb) (.int .i64 x6)) (Ne.symm hneb) (.int .i64 x6)))
         have HBb := Aside0.mk (below_drew1 (below_set (j := X.f1.toNat) (v := .int .i64 x6) (below_set (j := X.f0.toNat) (v := .int .i64 x6) HBa.out ge4) ge4))
         clear HO4a HO5a BKa q0A HBa kb0 kb1 k4a k4b k4f k4g k4c k4h
         generalize ((W.setCell ⟨g4, X.f0.toNat, none⟩ (.int .i64 x6)).setCell ⟨g4, X.f1.toNat, none⟩ (.int .i64 x6)).drew = W2 at HO4b HO5b BKb q0b HBb ⊢
         have kb2 : W2.cell? ⟨n, 2, none⟩ = some (.int .i64 X.f2) := (blk_cell q0b.out 2).trans rfl
         by_cases hC : X.f2 ≥ 0
         ·rw [if_pos hC, if_pos (show 0 ≤ X.f2 from hC)] at H
          by_cases hC1 : X.f2 < (x5.length : Int)
          ·rw [if_pos hC1] at H
           obtain ⟨g5, c5, hv5⟩ := R_there HO5b.out (by omega)
           subst hv5
           have ge5 : w.heap.size ≤ g5 := by
            rcases Kd.R_base2 HO5b.out with h_ | ⟨z_, h_, hz_⟩
            ·simp [Value.ownBlock] at h_
            ·simp only [Value.ownBlock, Option.some.injEq] at h_; omega
           have ne5 : gb219 ≠ g5 := fun e_ => Kd.R_ne HO5b.out BKb.out (by decide) (by rw [e_]; rfl)
           obtain ⟨k5a, k5f⟩ := Kd.R_celln (0 : Int) HO5b.out X.f2 hC hC1
           have dC : decide (0 ≤ X.f2) = true := decide_eq_true hC
           have fC := eq_true (show 0 ≤ X.f2 from hC)
           have fC1 := eq_true hC1
           have H' := Aside0.mk H
           clear H hC hC1
           go_wp2
           have HO5c := Aside0.mk (Kd.R_putn HO5b.out X.f2 x6)
           have HO4c := Aside0.mk (Kd.R_far (p := ⟨g5, X.f2.toNat, none⟩) HO4b.out (fun k_ hk e_ => hk (by rw [e_]; rfl)) (.int .i64 x6))
           have BKc := Aside0.mk (blk_far (p := ⟨g5, X.f2.toNat, none⟩) BKb.out ne5 (.int .i64 x6))
           have HBc := Aside0.mk (below_set (j := X.f2.toNat) (v := .int .i64 x6) HBb.out ge5)
           go_roundg k1
           case measure => have := HK1.out; omega
           case rel => exact ⟨_, _, (wrap64 (x6 - 1)), (by first | rfl | (simp; done) | (simp [*]; done)), H', ⟨by have := HK1.out; omega⟩, HO4c, HO5c, BKc, HBc⟩
          ·rw [if_neg hC1] at H; cases H
         ·rw [if_neg hC] at H
          have dC : decide (0 ≤ X.f2) = false := decide_eq_false hC
          have H' := Aside0.mk H
          clear H hC
          go_wp2
          go_roundg k1
          case measure => have := HK1.out; omega
          case rel => exact ⟨_, _, (wrap64 (x6 - 1)), (by first | rfl | (simp; done) | (simp [*]; done)), H', ⟨by have := HK1.out; omega⟩, HO4b, HO5b, BKb, HBb⟩
        ·rw [if_neg hB1] at H; cases H
       ·rw [if_neg hB0] at H; cases H
      ·rw [if_neg hA1] at H; cases H
     ·rw [if_neg hA0] at H; cases H
    ·rw [if_neg h7] at H; cases H
   ·rw [if_neg h6] at H
    have d6 : decide (0 ≤ x6) = false := decide_eq_false h6
    simp only [Option.some.injEq, Prod.mk.injEq] at H
    obtain ⟨rfl, rfl⟩ := H
    go_wp2
    go_ret2
    exact ⟨_, _, rfl, HO4.out, HO5.out, HB.out⟩
/-! ### impl.Faults's check -/
/-- What is told wrong of the first n. -/
def tolA (is ought : List Int) (kind : Int) : Nat → List S69
 | 0 => []
 | n + 1 => tolA is ought kind n ++ (if 0 ≤ rd ought (n : Int) ∧ rd is (n : Int) ≠ rd ought (n : Int) then [⟨kind, (n : Int)⟩] else [])
def tolB (is ought : List Int) (kind : Int) : Nat → List S69
 | 0 => []
 | n + 1 => tolB is ought kind n ++ (if rd ought (n : Int) < 0 ∧ 0 ≤ rd is (n : Int) then [⟨kind, (n : Int)⟩] else [])
theorem tolA_len (is ought : List Int) (kind : Int) : ∀ n, (tolA is ought kind n).length ≤ n := by
 intro n
 induction n with
 | zero => exact Nat.le_refl _
 | succ n ih => rw [tolA, List.length_append]; split <;> simp <;> omega
theorem tolB_len (is ought : List Int) (kind : Int) : ∀ n, (tolB is ought kind n).length ≤ n := by
 intro n
 induction n with
 | zero => exact Nat.le_refl _
 | succ n ih => rw [tolB, List.length_append]; split <;> simp <;> omega
/-- The world while faults are told: the box of them, their row, and that all else stands. -/
structure TInv (w0 w : World) (o : Nat) (v0 v : Value) (ys : List S69) (W : World) : Prop where
 box : W.heap[o]? = some (.cells #[v] 38 (0, 0))
 row : Kd.R k69 69 W w0.heap.size (fun _ => True) v ys
 bel : Below w0.heap.size w0 W
 keep : KeepBut w W o v0.ownBlock
 at_ : v.ownBlock = v0.ownBlock ∨ ∃ b, v.ownBlock = some b ∧ w.heap.size ≤ b
theorem TInv.ne {w0 w : World} {o : Nat} {v0 v : Value} {ys : List S69} {W : World} (h : TInv w0 w o v0 v ys W) : some o ≠ v.ownBlock := Kd.R_ne h.row h.box (by decide)
theorem TInv.step {w0 w : World} {o : Nat} {v0 v v1 : Value} {ys zs : List S69} {W w1 : World} (h : TInv w0 w o v0 v ys W) (ho : w0.heap.size ≤ o) (hb : Below w0.heap.size w0 w1) (hg : W.grownBy w1 v.ownBlock)
  (hat : v1.ownBlock = v.ownBlock ∨ ∃ b, v1.ownBlock = some b ∧ W.heap.size ≤ b) (hr : Kd.R k69 69 w1 w0.heap.size (fun _ => True) v1 zs) : TInv w0 w o v0 v1 zs (w1.setCell ⟨o, 0, none⟩ v1) := by
 have hbox := blk_grown h.box hg h.ne
 refine ⟨blk_put hbox 0 v1 rfl, ?_, below_set hb ho, ?_, ?_⟩
 ·exact Kd.R_mono (Kd.R_far (p := ⟨o, 0, none⟩) (Kd.R_types hr hbox (by decide)) (fun _ hk => hk.2) v1) (fun _ _ => trivial)
 ·exact KeepBut.set_ (h.keep.trans (KeepBut.of_grown hg o) h.at_) 0 v1
 ·rcases hat with e | ⟨b, e, hb2⟩
  ·rw [e]; exact h.at_
  ·exact .inr ⟨b, e, Nat.le_trans h.keep.1 hb2⟩
set_option maxHeartbeats 4000000 in
set_option maxRecDepth 100000 in
theorem check_calls (w0 : World) (A0 : Option Addr) (c0 : Nat) (is : List Int) (A1 : Option Addr) (c1 : Nat) (ought : List Int) (k1 k2 : Int) (o : Nat) (v0 : Value) (xs : List S69) (w : World)
  (h0 : ∀ W, KeepBut w W o v0.ownBlock → Kd.C (Kd.int .i64) W A0 is.length is) (h1 : ∀ W, KeepBut w W o v0.ownBlock → Kd.C (Kd.int .i64) W A1 ought.length ought) (hl : is.length ≤ ought.length) (hn : is.length ≤ 1048576) (hx : xs.length ≤ 1048576)
  (ho : w0.heap.size ≤ o) (hI : TInv w0 w o v0 v0 xs w) :
  Calls Try.prog 49 #[.slice A0 is.length c0, .slice A1 ought.length c1, .int .i64 k1, .int .i64 k2, .pointer (some ⟨o, 0, none⟩)] w fun e w' => ∃ v1 : Value, e = .returned (.tuple #[]) ∧ TInv w0 w o v0 v1 (xs ++ tolA is ought k1 is.length ++ tolB is ought k2 is.length) w' := by
 have H0 := Aside0.mk h0
 have H1 := Aside0.mk h1
 have HI := Aside0.mk hI
 have LA := Aside0.mk (tolA_len is ought k1)
 have LB := Aside0.mk (tolB_len is ought k2)
 clear h0 h1 hI
 go_enter Try.func49, Try.ntmps49
 go_wp2
 go_loopg [15] is.length (fun gf v15 wr => ∃ (i : Nat) (v : Value), v15 = .int .i64 i ∧ i + gf = is.length ∧ Aside0 (TInv w0 w o v0 v (xs ++ tolA is ought k1 i) wr))
 case atStart => exact ⟨0, v0, rfl, by omega, ⟨by rw [tolA, List.append_nil]; exact HI.out⟩⟩
 case round =>
  obtain ⟨i, v, rfl, hi, HV⟩ := hrel
  have hob : wr.cell? ⟨o, 0, none⟩ = some v := (blk_cell HV.out.box 0).trans rfl
  by_cases hlt : i < is.length
  ·obtain ⟨g', rfl⟩ : ∃ g', gk = g' + 1 := ⟨gk - 1, by omega⟩
   obtain ⟨ad, e0, ha⟩ := Kd.at_int (H0.out wr HV.out.keep) (i : Int) (by omega) (by omega)
   obtain ⟨ad1, e1, hc⟩ := Kd.at_int (H1.out wr HV.out.keep) (i : Int) (by omega) (by omega)
   have HS := Aside0.mk (show tolA is ought k1 (i + 1) = tolA is ought k1 i ++ (if 0 ≤ rd ought (i : Int) ∧ rd is (i : Int) ≠ rd ought (i : Int) then [⟨k1, (i : Int)⟩] else []) from rfl)
   obtain ⟨a, hae⟩ : ∃ a, rd is (i : Int) = a := ⟨_, rfl⟩
   obtain ⟨c, hce⟩ : ∃ c, rd ought (i : Int) = c := ⟨_, rfl⟩
   rw [hae] at ha HS
   rw [hce] at hc HS
   rw [Int.toNat_natCast] at ha hc
   clear hae hce
   subst e0 e1
   have il : (i : Int) < (ought.length : Int) := by omega
   have hll := LA.out i
   by_cases hC : 0 ≤ c
   ·have dC : decide (0 ≤ c) = true := decide_eq_true hC
    by_cases hE : a = c
    ·have dE : (a != c) = false := by simpa using hE
     have HZ := Aside0.mk (show tolA is ought k1 (i + 1) = tolA is ought k1 i by rw [HS.out, if_neg (fun h => h.2 hE), List.append_nil])
     clear HS hC hE
     go_wp2
     go_roundg g'
     case measure => omega
     case rel => exact ⟨i + 1, v, by go_num, by omega, ⟨by rw [HZ.out]; exact HV.out⟩⟩
    ·have dE : (a != c) = true := by simpa using hE
     have HZ := Aside0.mk (show tolA is ought k1 (i + 1) = tolA is ought k1 i ++ [⟨k1, (i : Int)⟩] by rw [HS.out, if_pos ⟨hC, hE⟩])
     clear HS hC hE
     go_wp2_with (first
      | ((with_reducible refine gate_builtin (b := .append) (xs := #[.tmp 33, .tmp 37]) rfl ?_); at_builtin; refine Kd.R_append k69 (w0 := w0) w0.heap.size rfl (.tmp 33) (.tmp 37) 38 69 (.agg #[(.int .i64 0), (.int .i64 0)]) 16 rfl Try.underlying38 info69 rfl (by decide) (by omega) v (xs ++ tolA is ought k1 i) (⟨k1, (i : Int)⟩ : S69) [.int .i64 k1, .int .i64 (i : Int)] (fun _ => True) (fun _ => False) rfl rfl ?aP (fun _ hk => hk.elim) ?aF ?aO ?aB ?aS ?aL ?_; (case aP => exact k69_mkM _ _ _ (⟨k1, (i : Int)⟩ : S69)); (case aB => exact HV.out.bel); (case aF => exact (fun _ _ => trivial)); (case aO => exact HV.out.row); (case aS => exact below_size HV.out.bel); (case aL => rw [List.length_append]; omega); intro v1 w1 hr hb hg hat; obtain ⟨NY, hNY⟩ : ∃ NY, (xs ++ tolA is ought k1 i) ++ [(⟨k1, (i : Int)⟩ : S69)] = NY := ⟨_, rfl⟩; rw [hNY] at hr; have HNY := Aside0.mk hNY; clear hNY; obtain ⟨Av, cv, rfl⟩ := Kd.R_slice hr; have hbx := blk_grown HV.out.box hg HV.out.ne; have hco : w1.cell? ⟨o, 0, none⟩ = some v := (blk_cell hbx 0).trans rfl; have hfo := blk_frozen hbx 0; have HN := Aside0.mk (HV.out.step ho hb hg hat hr); clear hr hb hg hat hbx))
     go_roundg g'
     case measure => omega
     case rel => exact ⟨i + 1, _, by go_num, by omega, ⟨by rw [HZ.out, ← List.append_assoc, HNY.out]; exact HN.out⟩⟩
   ·have dC : decide (0 ≤ c) = false := decide_eq_false hC
    have HZ := Aside0.mk (show tolA is ought k1 (i + 1) = tolA is ought k1 i by rw [HS.out, if_neg (fun h => hC h.1), List.append_nil])
    clear HS hC
    go_wp2
    go_roundg g'
    case measure => omega
    case rel => exact ⟨i + 1, v, by go_num, by omega, ⟨by rw [HZ.out]; exact HV.out⟩⟩
  ·obtain rfl : i = is.length := by omega
   have hll := LA.out is.length
   go_wp2
   obtain ⟨wo, rfl⟩ : ∃ wo : World, wo = wr := ⟨_, rfl⟩
   obtain ⟨ZS, hZS⟩ : ∃ ZS, xs ++ tolA is ought k1 is.length = ZS := ⟨_, rfl⟩
   rw [hZS] at HV
   have hzl : ZS.length ≤ 2097152 := by rw [← hZS, List.length_append]; omega
   have HZS := Aside0.mk hZS
   clear hZS hob hll
   go_loopg [42] is.length (fun gf v42 wq => ∃ (i : Nat) (v : Value), v42 = .int .i64 i ∧ i + gf = is.length ∧ Aside0 (TInv w0 w o v0 v (ZS ++ tolB is ought k2 i) wq))
   case atStart => exact ⟨0, v, rfl, by omega, ⟨by rw [tolB, List.append_nil]; exact HV.out⟩⟩
   case round =>
    obtain ⟨i, u, rfl, hi, HU⟩ := hrel
    clear HV
    have hob : wr.cell? ⟨o, 0, none⟩ = some u := (blk_cell HU.out.box 0).trans rfl
    by_cases hlt : i < is.length
    ·obtain ⟨g', rfl⟩ : ∃ g', gk = g' + 1 := ⟨gk - 1, by omega⟩
     obtain ⟨ad, e0, ha⟩ := Kd.at_int (H0.out wr HU.out.keep) (i : Int) (by omega) (by omega)
     obtain ⟨ad1, e1, hc⟩ := Kd.at_int (H1.out wr HU.out.keep) (i : Int) (by omega) (by omega)
     have HS := Aside0.mk (show tolB is ought k2 (i + 1) = tolB is ought k2 i ++ (if rd ought (i : Int) < 0 ∧ 0 ≤ rd is (i : Int) then [⟨k2, (i : Int)⟩] else []) from rfl)
     obtain ⟨a, hae⟩ : ∃ a, rd is (i : Int) = a := ⟨_, rfl⟩
     obtain ⟨c, hce⟩ : ∃ c, rd ought (i : Int) = c := ⟨_, rfl⟩
     rw [hae] at ha HS
     rw [hce] at hc HS
     rw [Int.toNat_natCast] at ha hc
     clear hae hce
     subst e0 e1
     have il : (i : Int) < (ought.length : Int) := by omega
     have hll := LB.out i
     by_cases hC : c < 0
     ·have dC : decide (c < 0) = true := decide_eq_true hC
      by_cases hE : ¬ 0 ≤ a
      ·have dE : decide (0 ≤ a) = false := decide_eq_false hE
       have HZ := Aside0.mk (show tolB is ought k2 (i + 1) = tolB is ought k2 i by rw [HS.out, if_neg (fun h => hE h.2), List.append_nil])
       clear HS hC hE
       go_wp2
       go_roundg g'
       case measure => omega
       case rel => exact ⟨i + 1, u, by go_num, by omega, ⟨by rw [HZ.out]; exact HU.out⟩⟩
      ·have dE : decide (0 ≤ a) = true := decide_eq_true (by omega)
       have HZ := Aside0.mk (show tolB is ought k2 (i + 1) = tolB is ought k2 i ++ [⟨k2, (i : Int)⟩] by rw [HS.out, if_pos ⟨hC, by omega⟩])
       clear HS hC hE
       go_wp2_with (first
        | ((with_reducible refine gate_builtin (b := .append) (xs := #[.tmp 56, .tmp 60]) rfl ?_); at_builtin; refine Kd.R_append k69 (w0 := w0) w0.heap.size rfl (.tmp 56) (.tmp 60) 38 69 (.agg #[(.int .i64 0), (.int .i64 0)]) 16 rfl Try.underlying38 info69 rfl (by decide) (by omega) u (ZS ++ tolB is ought k2 i) (⟨k2, (i : Int)⟩ : S69) [.int .i64 k2, .int .i64 (i : Int)] (fun _ => True) (fun _ => False) rfl rfl ?aP (fun _ hk => hk.elim) ?aF ?aO ?aB ?aS ?aL ?_; (case aP => exact k69_mkM _ _ _ (⟨k2, (i : Int)⟩ : S69)); (case aB => exact HU.out.bel); (case aF => exact (fun _ _ => trivial)); (case aO => exact HU.out.row); (case aS => exact below_size HU.out.bel); (case aL => rw [List.length_append]; omega); intro v1 w1 hr hb hg hat; obtain ⟨NY, hNY⟩ : ∃ NY, (ZS ++ tolB is ought k2 i) ++ [(⟨k2, (i : Int)⟩ : S69)] = NY := ⟨_, rfl⟩; rw [hNY] at hr; have HNY := Aside0.mk hNY; clear hNY; obtain ⟨Av, cv, rfl⟩ := Kd.R_slice hr; have hbx := blk_grown HU.out.box hg HU.out.ne; have hco : w1.cell? ⟨o, 0, none⟩ = some u := (blk_cell hbx 0).trans rfl; have hfo := blk_frozen hbx 0; have HN := Aside0.mk (HU.out.step ho hb hg hat hr); clear hr hb hg hat hbx))
       go_roundg g'
       case measure => omega
       case rel => exact ⟨i + 1, _, by go_num, by omega, ⟨by rw [HZ.out, ← List.append_assoc, HNY.out]; exact HN.out⟩⟩
     ·have dC : decide (c < 0) = false := decide_eq_false hC
      have HZ := Aside0.mk (show tolB is ought k2 (i + 1) = tolB is ought k2 i by rw [HS.out, if_neg (fun h => hC h.1), List.append_nil])
      clear HS hC
      go_wp2
      go_roundg g'
      case measure => omega
      case rel => exact ⟨i + 1, u, by go_num, by omega, ⟨by rw [HZ.out]; exact HU.out⟩⟩
    ·obtain rfl : i = is.length := by omega
     have HF := Aside0.mk (show TInv w0 w o v0 u (xs ++ tolA is ought k1 is.length ++ tolB is ought k2 is.length) wr by rw [HZS.out]; exact HU.out)
     clear hob
     go_wp2
     go_end0
     exact ⟨u, rfl, HF.out⟩
/-! ### impl.Faults -/
theorem V_of_C {w : World} {A : Option Addr} {xs : List Int} {c : Nat} (h : Kd.C (Kd.int .i64) w A xs.length xs) (hc : xs.length ≤ c) (e base : Nat) : Kd.V (Kd.int .i64) e w base (fun _ => True) (.slice A xs.length c) xs :=
 Kd.V_mk hc (fun W' h' => Kd.Heap.C (by first | exact Kd.heap_int _ | exact Kd.heap_scalar) (fun k hlt => h' k trivial hlt) h)
def twA (l : List S50) : Nat → List S69
 | 0 => []
 | n + 1 => twA l n ++ (if (l.take n).any (meetB (rd_T50 l (n : Int))) = true then [⟨1, (n : Int)⟩] else [])
def slA (l : List S50) : Nat → List S69
 | 0 => []
 | n + 1 => slA l n ++ (if (rd_T50 l (n : Int)).f0 = (rd_T50 l (n : Int)).f1 then [⟨2, (n : Int)⟩] else [])
theorem twA_len (l : List S50) : ∀ n, (twA l n).length ≤ n := by
 intro n
 induction n with
 | zero => exact Nat.le_refl _
 | succ n ih => rw [twA, List.length_append]; split <;> simp <;> omega
theorem slA_len (l : List S50) : ∀ n, (slA l n).length ≤ n := by
 intro n
 induction n with
 | zero => exact Nat.le_refl _
 | succ n ih => rw [slA, List.length_append]; split <;> simp <;> omega
theorem TInv.later {w0 w : World} {o : Nat} {v0 v : Value} {ys : List S69} {W W' : World} (h : TInv w0 w o v0 v ys W) (hb : Below W.heap.size W W') : TInv w0 w o v0 v ys W' :=
 ⟨blk_below h.box hb, Kd.R_below h.row hb, below_step h.bel hb, h.keep.trans (KeepBut.of_below hb o v0.ownBlock) (.inl rfl), h.at_⟩
theorem TInv.anew {w0 w : World} {o : Nat} {v0 v : Value} {ys : List S69} {W : World} (h : TInv w0 w o v0 v ys W) : TInv w0 W o v v ys W := ⟨h.box, h.row, h.bel, KeepBut.refl _ _ _, .inl rfl⟩
theorem TInv.base {w0 w : World} {o : Nat} {v0 v : Value} {ys : List S69} {W : World} (h : TInv w0 w o v0 v ys W) (ho : w0.heap.size ≤ o) : ∀ W' : World, KeepBut W W' o v.ownBlock → ∀ k, k < w0.heap.size → W'.heap[k]? = w0.heap[k]? := by
 intro W' hk k hlt
 rw [hk.2 k (Nat.lt_of_lt_of_le hlt h.bel.size) (by omega) (fun e => ?_), h.bel.block k hlt]
 rcases Kd.R_base2 h.row with h2 | ⟨z, h2, hz⟩
 ·rw [h2] at e; cases e
 ·rw [h2] at e; injection e with e; omega
theorem base_ge {α : Type} {d : Kd α} {e : Nat} {w : World} {base : Nat} {ok : Nat → Prop} {v : Value} {xs : List α} (h : Kd.R d e w base ok v xs) (k : Nat) (hk : v.ownBlock = some k) : base ≤ k := by
 rcases Kd.R_base2 h with h2 | ⟨z, h2, hz⟩
 ·rw [h2] at hk; cases hk
 ·rw [h2] at hk; injection hk with hk; omega
theorem kept_row {w0 w W : World} {o : Nat} {v0 v : Value} {ys : List S69} {A : Option Addr} {c base : Nat} {ok : Nat → Prop} {xs : List Int} (hL : Kd.R (Kd.int .i64) 3 W base ok (.slice A xs.length c) xs) (h : TInv w0 w o v0 v ys W) :
  ∀ W' : World, KeepBut W W' o v.ownBlock → Kd.C (Kd.int .i64) W' A xs.length xs := by
 intro W' hk
 exact Kd.C_kept_own (S := fun k => k = o ∨ some k = v.ownBlock) (Kd.R_apart' (Kd.R_types hL h.box (by decide)) (Kd.R_typed h.row) (by decide)) (fun k hk2 h2 => h2.elim hk2.1.2 hk2.2) W' ⟨hk.1, fun i hi hS => hk.2 i hi (fun e => hS (.inl e)) (fun e => hS (.inr e))⟩
theorem tol_bound (Z : List S69) (is ought : List Int) (k1 k2 : Int) (h : Z.length ≤ 2000) (hn : is.length ≤ 1000) : (Z ++ tolA is ought k1 is.length ++ tolB is ought k2 is.length).length ≤ 1048576 := by
 have h1 := tolA_len is ought k1 is.length
 have h2 := tolB_len is ought k2 is.length
 rw [List.length_append, List.length_append]; omega
set_option maxHeartbeats 8000000 in
set_option maxRecDepth 100000 in
theorem faults_calls (k : Nat) (A0_0 : Option Addr) (c0_0 : Nat) (l0_0 : List S50) (A0_1 : Option Addr) (c0_1 : Nat) (l0_1 : List Int) (A0_2 : Option Addr) (c0_2 : Nat) (l0_2 : List Int) (ls cs : List Int) (w : World)
  (hr0_0 : Kd.C k50 w A0_0 l0_0.length l0_0) (hc0_0 : l0_0.length ≤ c0_0) (hr0_1 : Kd.C (Kd.int .i64) w A0_1 l0_1.length l0_1) (hc0_1 : l0_1.length ≤ c0_1) (hr0_2 : Kd.C (Kd.int .i64) w A0_2 l0_2.length l0_2) (hc0_2 : l0_2.length ≤ c0_2)
  (n0 : l0_0.length ≤ 1000) (n1 : l0_1.length ≤ 1000) (n2 : l0_2.length ≤ 1000) (hB : impl_BookOk.f k l0_0 l0_1 l0_2 = some true) (hS : impl_said.f k l0_0 l0_1 l0_2 = some (ls, cs)) (hls : ls.length = l0_1.length) (hcs : cs.length = l0_2.length) :
  Calls Try.prog 20 #[.agg #[.slice A0_0 l0_0.length c0_0, .slice A0_1 l0_1.length c0_1, .slice A0_2 l0_2.length c0_2]] w fun e w' => ∃ v0_ : Value, e = .returned v0_ ∧ Kd.R k69 69 w' w.heap.size (fun _ => True) v0_ (twA l0_0 l0_0.length ++ slA l0_0 l0_0.length ++ tolA l0_1 ls 3 l0_1.length ++ tolB l0_1 ls 4 l0_1.length ++ tolA l0_2 cs 5 l0_2.length ++ tolB l0_2 cs 6 l0_2.length) ∧ Below w.heap.size w w' := by
 have hu29 := Try.underlying29
 have hu50 := Try.underlying50
 have HR0 := Aside0.mk hr0_0
 have HR1 := Aside0.mk hr0_1
 have HR2 := Aside0.mk hr0_2
 have cB := Aside0.mk (fun (W : World) (hb : Below w.heap.size w W) => impl_BookOk.calls k A0_0 c0_0 l0_0 (fun _ => True) A0_1 c0_1 l0_1 (fun _ => True) A0_2 c0_2 l0_2 true W (Kd.C_below hr0_0 hb) hc0_0 (V_of_C (Kd.C_below hr0_1 hb) hc0_1 3 _) (V_of_C (Kd.C_below hr0_2 hb) hc0_2 3 _) hB)
 have cS := Aside0.mk (fun (W : World) (hb : Below w.heap.size w W) => impl_said.calls k A0_0 c0_0 l0_0 A0_1 c0_1 l0_1 A0_2 c0_2 l0_2 ls cs W (Kd.C_below hr0_0 hb) hc0_0 (Kd.C_below hr0_1 hb) hc0_1 (Kd.C_below hr0_2 hb) hc0_2 hS)
 have HLS := Aside0.mk hls
 have HCS := Aside0.mk hcs
 clear hr0_0 hr0_1 hr0_2 hB hS hls hcs
 go_enter Try.func20, Try.ntmps20
 go_wp2_with (first
  | (go_at_call 40; refine (cB.out _ ((Below.refl _ _).alloc (Nat.le_refl _) _)).mono ?_; rintro e w1 ⟨rfl, hb1⟩; have hbx := blk_below (heap_alloc_new w _) hb1; have hz0 : w1.cell? ⟨w.heap.size, 0, none⟩ = some (.slice A0_0 l0_0.length c0_0) := (blk_cell hbx 0).trans rfl; have hbo : w.heap.size < w1.heap.size := blk_lt hbx; have hz1 : (w1.alloc (.cells #[.slice none 0 0] 38)).cell? ⟨w.heap.size, 0, none⟩ = some (.slice A0_0 l0_0.length c0_0) := (blk_cell (blk_alloc hbx _) 0).trans rfl; have hb2 := below_step ((Below.refl _ _).alloc (Nat.le_refl _) _) hb1; clear hb1))
 have HI : TInv w (w1.alloc (.cells #[.slice none 0 0] 38)) w1.heap.size (.slice none 0 0) (.slice none 0 0) [] (w1.alloc (.cells #[.slice none 0 0] 38)) :=
  ⟨heap_alloc_new w1 _, Kd.R_nil _ _ _ _ _, below_alloc hb2 _, KeepBut.refl _ _ _, .inl rfl⟩
 have hbx2 := Aside0.mk (blk_alloc hbx (.cells #[.slice none 0 0] 38))
 obtain ⟨w2, hw2⟩ : ∃ w2, w1.alloc (.cells #[.slice none 0 0] 38) = w2 := ⟨_, rfl⟩
 obtain ⟨o, ho⟩ : ∃ o, w1.heap.size = o := ⟨_, rfl⟩
 rw [hw2] at HI hbx2
 rw [ho] at HI hbo
 simp only [hw2, ho]
 clear hw2 ho hbx hz0 hz1 hb2
 have HI' := Aside0.mk HI
 have hwo : w.heap.size ≤ o := Nat.le_of_lt hbo
 have LW := Aside0.mk (twA_len l0_0)
 clear HI cB
 go_loopg [19] l0_0.length (fun gf v19 wr => ∃ (i : Nat) (v : Value), v19 = .int .i64 i ∧ i + gf = l0_0.length ∧ Aside0 (TInv w w2 o (.slice none 0 0) v (twA l0_0 i) wr))
 case atStart => exact ⟨0, _, rfl, by omega, ⟨HI'.out⟩⟩
 case round =>
  obtain ⟨i, v, rfl, hi, HV⟩ := hrel
  clear HI'
  have hbxr := HV.out.keep.blk hbx2.out (Nat.ne_of_lt hbo) (by simp [Value.ownBlock])
  have hz0 : wr.cell? ⟨w.heap.size, 0, none⟩ = some (.slice A0_0 l0_0.length c0_0) := (blk_cell hbxr 0).trans rfl
  by_cases hlt : i < l0_0.length
  ·obtain ⟨g', rfl⟩ : ∃ g', gk = g' + 1 := ⟨gk - 1, by omega⟩
   obtain ⟨ad, e0, hx0, hx1, hx2⟩ := at_T50 HR0.out (i : Int) (by omega) (by omega)
   have HS := Aside0.mk (show twA l0_0 (i + 1) = twA l0_0 i ++ (if (l0_0.take i).any (meetB (rd_T50 l0_0 (i : Int))) = true then [⟨1, (i : Int)⟩] else []) from rfl)
   obtain ⟨X, hX⟩ : ∃ X, rd_T50 l0_0 (i : Int) = X := ⟨_, rfl⟩
   rw [hX] at hx0 hx1 hx2 HS
   rw [Int.toNat_natCast] at hx0 hx1 hx2
   clear hX
   subst e0
   replace hx0 := (HV.out.bel.cell (World.block_lt_of_cell? w _ hx0)).trans hx0
   replace hx1 := (HV.out.bel.cell (World.block_lt_of_cell? w _ hx1)).trans hx1
   replace hx2 := (HV.out.bel.cell (World.block_lt_of_cell? w _ hx2)).trans hx2
   have ht := Aside0.mk hbxr
   clear hbxr
   go_wp2
   have q0 := heap_alloc_new wr (.cells #[.int .i64 X.f0, .int .i64 X.f1, .int .i64 X.f2] 50)
   have HVa := Aside0.mk (HV.out.later (below_alloc (Below.refl _ _) (.cells #[.int .i64 X.f0, .int .i64 X.f1, .int .i64 X.f2] 50)))
   have hta := Aside0.mk (blk_alloc ht.out (.cells #[.int .i64 X.f0, .int .i64 X.f1, .int .i64 X.f2] 50))
   obtain ⟨n, hn⟩ : ∃ n, wr.heap.size = n := ⟨_, rfl⟩
   rw [hn] at q0
   simp only [hn]
   generalize wr.alloc (.cells #[.int .i64 X.f0, .int .i64 X.f1, .int .i64 X.f2] 50) = W at q0 HVa hta ⊢
   clear HV ht hx0 hx1 hx2 hz0 hn
   have hz0 : W.cell? ⟨w.heap.size, 0, none⟩ = some (.slice (some ad) l0_0.length c0_0) := (blk_cell hta.out 0).trans rfl
   have kb0 : W.cell? ⟨n, 0, none⟩ = some (.int .i64 X.f0) := (blk_cell q0 0).trans rfl
   have kb1 : W.cell? ⟨n, 1, none⟩ = some (.int .i64 X.f1) := (blk_cell q0 1).trans rfl
   have kb2 : W.cell? ⟨n, 2, none⟩ = some (.int .i64 X.f2) := (blk_cell q0 2).trans rfl
   have b1 : (i : Int) ≤ (c0_0 : Int) := by omega
   have b0 : (0 : Int) ≤ (i : Int) := by omega
   go_still_tail 6, (by kernel_rfl)
   show wpList _ _ _ _ _ W.drew
   have HVb := Aside0.mk (HVa.out.later (below_drew1 (Below.refl _ _)))
   have htb := Aside0.mk (blk_drew hta.out)
   clear HVa hta hz0 kb0 kb1 kb2 q0
   generalize W.drew = W3 at HVb htb ⊢
   have hl : (l0_0.take i).length = i := by rw [List.length_take]; omega
   have cC := contains_calls X (some ad) c0_0 (l0_0.take i) W3 (Kd.C_take (Kd.C_below HR0.out HVb.out.bel) (by omega)) (by omega)
   rw [hl] at cC
   have hll := LW.out i
   clear hl b0 b1
   obtain ⟨B, hB⟩ : ∃ B, (l0_0.take i).any (meetB X) = B := ⟨_, rfl⟩
   rw [hB] at cC HS
   clear hB
   cases B
   ·have HZ := Aside0.mk (show twA l0_0 (i + 1) = twA l0_0 i by rw [HS.out, if_neg (by decide), List.append_nil])
    clear HS
    go_wp2_with (first | (go_at_call 42; refine cC.mono ?_; rintro e w4 ⟨rfl, hb4⟩))
    go_roundg g'
    case measure => omega
    case rel => exact ⟨i + 1, v, by go_num, by omega, ⟨by rw [HZ.out]; exact HVb.out.later hb4⟩⟩
   ·have HZ := Aside0.mk (show twA l0_0 (i + 1) = twA l0_0 i ++ [⟨1, (i : Int)⟩] by rw [HS.out, if_pos rfl])
    clear HS
    go_wp2_with (first
     | (go_at_call 42; refine cC.mono ?_; rintro e w4 ⟨rfl, hb4⟩; have HVc := Aside0.mk (HVb.out.later hb4); have hob : w4.cell? ⟨o, 0, none⟩ = some v := (blk_cell HVc.out.box 0).trans rfl; clear hb4)
     | ((with_reducible refine gate_builtin (b := .append) (xs := #[.tmp 31, .tmp 34]) rfl ?_); at_builtin; refine Kd.R_append k69 (w0 := w) w.heap.size rfl (.tmp 31) (.tmp 34) 38 69 (.agg #[(.int .i64 0), (.int .i64 0)]) 16 rfl Try.underlying38 info69 rfl (by decide) (by omega) v (twA l0_0 i) (⟨1, (i : Int)⟩ : S69) [.int .i64 1, .int .i64 (i : Int)] (fun _ => True) (fun _ => False) rfl rfl ?aP (fun _ hk => hk.elim) ?aF ?aO ?aB ?aS ?aL ?_; (case aP => exact k69_mkM _ _ _ (⟨1, (i : Int)⟩ : S69)); (case aB => exact HVc.out.bel); (case aF => exact (fun _ _ => trivial)); (case aO => exact HVc.out.row); (case aS => exact below_size HVc.out.bel); (case aL => (try rw [List.length_append]); omega); intro v1 w5 hr hb hg hat; obtain ⟨NY, hNY⟩ : ∃ NY, (twA l0_0 i) ++ [(⟨1, (i : Int)⟩ : S69)] = NY := ⟨_, rfl⟩; rw [hNY] at hr; have HNY := Aside0.mk hNY; clear hNY; obtain ⟨Av, cv, rfl⟩ := Kd.R_slice hr; have hbx := blk_grown HVc.out.box hg HVc.out.ne; have hco : w5.cell? ⟨o, 0, none⟩ = some v := (blk_cell hbx 0).trans rfl; have hfo := blk_frozen hbx 0; have HN := Aside0.mk (HVc.out.step hwo hb hg hat hr); clear hr hb hg hat hbx))
    go_roundg g'
    case measure => omega
    case rel => exact ⟨i + 1, _, by go_num, by omega, ⟨by rw [HZ.out, HNY.out]; exact HN.out⟩⟩
  ·obtain rfl : i = l0_0.length := by omega
   have hll := LW.out l0_0.length
   have ht := Aside0.mk hbxr
   clear hbxr
   obtain ⟨wo, rfl⟩ : ∃ wo : World, wo = wr := ⟨_, rfl⟩
   obtain ⟨Z1, hZ1⟩ : ∃ Z1, twA l0_0 l0_0.length = Z1 := ⟨_, rfl⟩
   rw [hZ1] at HV hll
   have HZ1 := Aside0.mk hZ1
   have LS := Aside0.mk (slA_len l0_0)
   clear hZ1 LW
   go_wp2
   go_loopg [40] l0_0.length (fun gf v40 wr => ∃ (i : Nat) (v : Value), v40 = .int .i64 i ∧ i + gf = l0_0.length ∧ Aside0 (TInv w w2 o (.slice none 0 0) v (Z1 ++ slA l0_0 i) wr))
   case atStart => exact ⟨0, v, rfl, by omega, ⟨by rw [slA, List.append_nil]; exact HV.out⟩⟩
   case round =>
    obtain ⟨i, u, rfl, hi, HU⟩ := hrel
    clear HV ht hz0
    have hbxr := HU.out.keep.blk hbx2.out (Nat.ne_of_lt hbo) (by simp [Value.ownBlock])
    have hz0 : wr.cell? ⟨w.heap.size, 0, none⟩ = some (.slice A0_0 l0_0.length c0_0) := (blk_cell hbxr 0).trans rfl
    by_cases hlt : i < l0_0.length
    ·obtain ⟨g', rfl⟩ : ∃ g', gk = g' + 1 := ⟨gk - 1, by omega⟩
     obtain ⟨ad, e0, hx0, hx1, hx2⟩ := at_T50 HR0.out (i : Int) (by omega) (by omega)
     have HS := Aside0.mk (show slA l0_0 (i + 1) = slA l0_0 i ++ (if (rd_T50 l0_0 (i : Int)).f0 = (rd_T50 l0_0 (i : Int)).f1 then [⟨2, (i : Int)⟩] else []) from rfl)
     obtain ⟨X, hX⟩ : ∃ X, rd_T50 l0_0 (i : Int) = X := ⟨_, rfl⟩
     rw [hX] at hx0 hx1 hx2 HS
     rw [Int.toNat_natCast] at hx0 hx1 hx2
     clear hX
     subst e0
     replace hx0 := (HU.out.bel.cell (World.block_lt_of_cell? w _ hx0)).trans hx0
     replace hx1 := (HU.out.bel.cell (World.block_lt_of_cell? w _ hx1)).trans hx1
     replace hx2 := (HU.out.bel.cell (World.block_lt_of_cell? w _ hx2)).trans hx2
     have hll2 := LS.out i
     have hob0 := blk_lt HU.out.box
     have HUa := Aside0.mk (HU.out.later (below_alloc (Below.refl _ _) (.cells #[.int .i64 X.f0, .int .i64 X.f1, .int .i64 X.f2] 50)))
     have hob : (wr.alloc (.cells #[.int .i64 X.f0, .int .i64 X.f1, .int .i64 X.f2] 50)).cell? ⟨o, 0, none⟩ = some u := (blk_cell HUa.out.box 0).trans rfl
     clear hbxr
     by_cases hE : X.f0 = X.f1
     ·have dE : (X.f0 == X.f1) = true := by simpa using hE
      have HZ := Aside0.mk (show slA l0_0 (i + 1) = slA l0_0 i ++ [⟨2, (i : Int)⟩] by rw [HS.out, if_pos hE])
      clear HS hE
      go_wp2_with (first
       | ((with_reducible refine gate_builtin (b := .append) (xs := #[.tmp 50, .tmp 53]) rfl ?_); at_builtin; refine Kd.R_append k69 (w0 := w) w.heap.size rfl (.tmp 50) (.tmp 53) 38 69 (.agg #[(.int .i64 0), (.int .i64 0)]) 16 rfl Try.underlying38 info69 rfl (by decide) (by omega) u (Z1 ++ slA l0_0 i) (⟨2, (i : Int)⟩ : S69) [.int .i64 2, .int .i64 (i : Int)] (fun _ => True) (fun _ => False) rfl (by first | rfl | simp [Act.eval]) ?aP (fun _ hk => hk.elim) ?aF ?aO ?aB ?aS ?aL ?_; (case aP => exact k69_mkM _ _ _ (⟨2, (i : Int)⟩ : S69)); (case aB => exact HUa.out.bel); (case aF => exact (fun _ _ => trivial)); (case aO => exact HUa.out.row); (case aS => exact below_size HUa.out.bel); (case aL => (try rw [List.length_append]); omega); intro v1 w5 hr hb hg hat; obtain ⟨NY, hNY⟩ : ∃ NY, (Z1 ++ slA l0_0 i) ++ [(⟨2, (i : Int)⟩ : S69)] = NY := ⟨_, rfl⟩; rw [hNY] at hr; have HNY := Aside0.mk hNY; clear hNY; obtain ⟨Av, cv, rfl⟩ := Kd.R_slice hr; have hbx := blk_grown HUa.out.box hg HUa.out.ne; have hco : w5.cell? ⟨o, 0, none⟩ = some u := (blk_cell hbx 0).trans rfl; have hfo := blk_frozen hbx 0; have HN := Aside0.mk (HUa.out.step hwo hb hg hat hr); clear hr hb hg hat hbx))
      go_roundg g'
      case measure => omega
      case rel => exact ⟨i + 1, _, by go_num, by omega, ⟨by rw [HZ.out, ← List.append_assoc, HNY.out]; exact HN.out⟩⟩
     ·have dE : (X.f0 == X.f1) = false := by simpa using hE
      have HZ := Aside0.mk (show slA l0_0 (i + 1) = slA l0_0 i by rw [HS.out, if_neg hE, List.append_nil])
      clear HS hE
      go_wp2
      go_roundg g'
      case measure => omega
      case rel => exact ⟨i + 1, u, by go_num, by omega, ⟨by rw [HZ.out]; exact HUa.out⟩⟩
    ·obtain rfl : i = l0_0.length := by omega
     have hll2 := LS.out l0_0.length
     obtain ⟨wp, rfl⟩ : ∃ wp : World, wp = wr := ⟨_, rfl⟩
     obtain ⟨Z2, hZ2⟩ : ∃ Z2, Z1 ++ slA l0_0 l0_0.length = Z2 := ⟨_, rfl⟩
     rw [hZ2] at HU
     have hzl : Z2.length ≤ 2000 := by rw [← hZ2, List.length_append]; omega
     have HZ2 := Aside0.mk hZ2
     have HU2 := Aside0.mk HU.out.anew
     have hz1 : wp.cell? ⟨w.heap.size, 1, none⟩ = some (.slice A0_1 l0_1.length c0_1) := (blk_cell hbxr 1).trans rfl
     have hz2 : wp.cell? ⟨w.heap.size, 2, none⟩ = some (.slice A0_2 l0_2.length c0_2) := (blk_cell hbxr 2).trans rfl
     have ht := Aside0.mk hbxr
     have tok1 : True := trivial
     clear hZ2 hbxr
     go_wp2_with (first
      | (go_at_call 44; refine (cS.out _ HU.out.bel).mono ?_; rintro e w6 ⟨vL, vC, rfl, hL, hC, hb6⟩; obtain ⟨AL, cL, rfl⟩ := Kd.R_slice hL; obtain ⟨AC, cC, rfl⟩ := Kd.R_slice hC; have HT6 := Aside0.mk (HU2.out.later hb6).anew; have ht6 := blk_below ht.out hb6; have hy1 : w6.cell? ⟨w.heap.size, 1, none⟩ = some (.slice A0_1 l0_1.length c0_1) := (blk_cell ht6 1).trans rfl; have hL6 := Aside0.mk (kept_row hL HT6.out); have hC6 := Aside0.mk (kept_row hC HT6.out); have ht6' := Aside0.mk ht6; clear hL hC hb6 ht6 HU HU2 ht hz0 hz1 hz2)
      | (go_at_call 49; have _t := tok1; refine (check_calls w A0_1 c0_1 l0_1 AL cL ls 3 4 o u Z2 w6 (fun W hk => Kd.Heap.C (Kd.heap_int _) (HT6.out.base hwo W hk) HR1.out) hL6.out (by have := HLS.out; omega) (by omega) (by omega) hwo HT6.out).mono ?_; rintro e w7 ⟨v1, rfl, hT7⟩; clear tok1 _t; have HT7 := Aside0.mk hT7; have hy2 : w7.cell? ⟨w.heap.size, 2, none⟩ = some (.slice A0_2 l0_2.length c0_2) := (blk_cell (HT7.out.keep.blk ht6'.out (Nat.ne_of_lt hbo) (Kd.R_ne HT6.out.row ht6'.out (by decide))) 2).trans rfl; clear hT7 hy1)
      | (go_at_call 49; refine (check_calls w A0_2 c0_2 l0_2 AC cC cs 5 6 o v1 _ w7 (fun W hk => Kd.Heap.C (Kd.heap_int _) (HT7.out.anew.base hwo W hk) HR2.out) (fun W hk => hC6.out W (HT7.out.keep.trans hk HT7.out.at_)) (by have := HCS.out; omega) (by omega) (tol_bound Z2 l0_1 ls 3 4 hzl n1) hwo HT7.out.anew).mono ?_; rintro e w8 ⟨v2, rfl, hT8⟩; have HT8 := Aside0.mk hT8; have hob : w8.cell? ⟨o, 0, none⟩ = some v2 := (blk_cell HT8.out.box 0).trans rfl; clear hT8 hy2))
     go_ret
     refine ⟨v2, rfl, ?_, HT8.out.bel⟩
     have h8 := HT8.out.row
     rw [← HZ2.out, ← HZ1.out] at h8
     rw [show twA l0_0 l0_0.length ++ slA l0_0 l0_0.length ++ tolA l0_1 ls 3 l0_1.length ++ tolB l0_1 ls 4 l0_1.length ++ tolA l0_2 cs 5 l0_2.length ++ tolB l0_2 cs 6 l0_2.length = _ from rfl]
     exact h8
theorem fault_one (w1 : World) (base : Nat) (hb : base ≤ w1.heap.size) : Kd.R k69 69 (w1.alloc (.cells #[.int .i64 7, .int .i64 0] 69)) base (fun _ => True) (.slice (some ⟨w1.heap.size, 0, none⟩) 1 1) [(⟨7, 0⟩ : S69)] := by
 refine ⟨fun _ _ => trivial, [.int .i64 7, .int .i64 0], ⟨rfl, .inr ⟨w1.heap.size, 1, #[.int .i64 7, .int .i64 0], rfl, hb, heap_alloc_new w1 _, by decide, by decide, rfl, rfl⟩⟩, ?_⟩
 refine ⟨rfl, fun j p h => ?_⟩
 match j, h with
 | 0, h =>
  obtain rfl : (⟨7, 0⟩ : S69) = p := by simpa using h
  exact k69_mkM _ _ _ _
 | j + 1, h => simp at h
set_option maxHeartbeats 4000000 in
set_option maxRecDepth 100000 in
theorem faults_no (k : Nat) (A0_0 : Option Addr) (c0_0 : Nat) (l0_0 : List S50) (A0_1 : Option Addr) (c0_1 : Nat) (l0_1 : List Int) (A0_2 : Option Addr) (c0_2 : Nat) (l0_2 : List Int) (w : World)
  (hr0_0 : Kd.C k50 w A0_0 l0_0.length l0_0) (hc0_0 : l0_0.length ≤ c0_0) (hr0_1 : Kd.C (Kd.int .i64) w A0_1 l0_1.length l0_1) (hc0_1 : l0_1.length ≤ c0_1) (hr0_2 : Kd.C (Kd.int .i64) w A0_2 l0_2.length l0_2) (hc0_2 : l0_2.length ≤ c0_2)
  (hB : impl_BookOk.f k l0_0 l0_1 l0_2 = some false) :
  Calls Try.prog 20 #[.agg #[.slice A0_0 l0_0.length c0_0, .slice A0_1 l0_1.length c0_1, .slice A0_2 l0_2.length c0_2]] w fun e w' => ∃ v0_ : Value, e = .returned v0_ ∧ Kd.R k69 69 w' w.heap.size (fun _ => True) v0_ [(⟨7, 0⟩ : S69)] ∧ Below w.heap.size w w' := by
 have hu29 := Try.underlying29
 have hu69 := Try.underlying69
 have cB := Aside0.mk (fun (W : World) (hb : Below w.heap.size w W) => impl_BookOk.calls k A0_0 c0_0 l0_0 (fun _ => True) A0_1 c0_1 l0_1 (fun _ => True) A0_2 c0_2 l0_2 false W (Kd.C_below hr0_0 hb) hc0_0 (V_of_C (Kd.C_below hr0_1 hb) hc0_1 3 _) (V_of_C (Kd.C_below hr0_2 hb) hc0_2 3 _) hB)
 clear hr0_0 hr0_1 hr0_2 hB
 go_enter Try.func20, Try.ntmps20
 go_wp2_with (first
  | (go_at_call 40; refine (cB.out _ ((Below.refl _ _).alloc (Nat.le_refl _) _)).mono ?_; rintro e w1 ⟨rfl, hb1⟩; have hb2 := Aside0.mk (below_step ((Below.refl _ _).alloc (Nat.le_refl _) _) hb1); clear hb1))
 go_ret
 exact ⟨_, rfl, fault_one w1 _ hb2.out.size, below_alloc hb2.out _⟩
end Go.Proofs.Ytngnkfpciloamaa.MFnExactFaults
