/- What the code of the law FnBooked answers. -/
import Derived.Test.YtngnkfpciloamaaShortFnBooked
import Derived.Test.YtngnkfpciloamaaMFnBookedx0
namespace Go.Proofs.Ytngnkfpciloamaa.MFnBooked
open Go.RowKit Go.Proofs.YtngnkfpciloamaaW.PrintWords Go.Proofs.YtngnkfpciloamaaW.PrintLast Go.Proofs.YtngnkfpciloamaaW.PrintMore
attribute [local go_sem] max2_int min2_int max_two min_two max_three min_three max_four min_four
set_option linter.unusedVariables false
set_option linter.unusedSimpArgs false
def spec_l18Shares.f (a0_0 : Int) (a0_1 : Int) (a0_2 : Int) (a1_0 : Int) (a1_1 : Int) (a1_2 : Int) : Option (Bool) := if a0_0 = a1_0 then (some true) else (if a0_0 = a1_1 then (some true) else (if a0_1 = a1_0 then (some true) else (if a0_1 = a1_1 then (some true) else (if a0_2 ≥ 0 then (some (a0_2 == a1_2)) else (some false)))))
set_option maxHeartbeats 8000000 in
set_option maxRecDepth 100000 in
theorem spec_l18Shares.calls (a0_0 : Int) (a0_1 : Int) (a0_2 : Int) (a1_0 : Int) (a1_1 : Int) (a1_2 : Int) (r : Bool) (w : World) (h : spec_l18Shares.f a0_0 a0_1 a0_2 a1_0 a1_1 a1_2 = some r) :
  Calls Try.prog 36 #[.agg #[.int .i64 a0_0, .int .i64 a0_1, .int .i64 a0_2], .agg #[.int .i64 a1_0, .int .i64 a1_1, .int .i64 a1_2]] w fun e w' => e = .returned (.bool r) ∧ Below w.heap.size w w' := by
 have hu50 := Try.underlying50
 have HB := mk0 (Below.refl w.heap.size w)
 have H : (if a0_0 = a1_0 then (some true) else (if a0_0 = a1_1 then (some true) else (if a0_1 = a1_0 then (some true) else (if a0_1 = a1_1 then (some true) else (if a0_2 ≥ 0 then (some (a0_2 == a1_2)) else (some false)))))) = some r := h
 clear h
 by_cases c3 : a0_0 = a1_0
 ·rw [if_pos c3] at H
  have c3b0 : (a0_0 == a1_0) = true := beq_iff_eq.mpr c3
  have c3b1 : (a0_0 != a1_0) = false := bne_eq_false_iff_eq.mpr c3
  clear c3
  obtain rfl := Option.some.inj H
  go_enter Try.func36, Try.ntmps36
  go_wp2_with (first | ((with_reducible refine gate_dst (N := 2) rfl ?_); refine box_event ?hg (N := 2) ?hd (cs := #[.int .i64 a0_0, .int .i64 a0_1, .int .i64 a0_2]) (t := 50) ?hr ?_; (case hd | hg => rfl); (case hr => first | (go_simp; done) | (go_simp; rfl)); intro gb111 hg w4 hbox hb; have n0_ := mk0 (below_step (hA HB.out) hb); have n1_ := mk0 (hbox); have n2_ := mk0 ((by rw [hg]; exact (below_size (hA HB.out)) : w.heap.size ≤ gb111)); have n3_ := mk0 ((by rw [hg]; exact (below_size (hA HB.out)) : w.heap.size ≤ gb111)); clear HB; have HB := n0_; have BK111 := n1_; have GW111 := n2_; have GE111 := n3_; clear n0_ n1_ n2_ n3_; clear hb hbox hg) | ((with_reducible refine gate_dst (N := 3) rfl ?_); refine box_event ?hg (N := 3) ?hd (cs := #[.int .i64 a1_0, .int .i64 a1_1, .int .i64 a1_2]) (t := 50) ?hr ?_; (case hd | hg => rfl); (case hr => first | (go_simp; done) | (go_simp; rfl)); intro gb112 hg w5 hbox hb; have n0_ := mk0 (bB BK111.out hb); have n1_ := mk0 (below_step (hA HB.out) hb); have n2_ := mk0 (hbox); have n3_ := mk0 ((by rw [hg]; exact (below_size (hA HB.out)) : w.heap.size ≤ gb112)); have n4_ := mk0 ((by rw [hg]; exact (below_size (hA HB.out)) : w.heap.size ≤ gb112)); have n5_ := mk0 ((by rw [hg]; exact Nat.ne_of_lt (blk_lt (g := gb111) (o := .cells #[.int .i64 a0_0, .int .i64 a0_1, .int .i64 a0_2] 50 (0, 0)) (bA BK111.out)) : gb111 ≠ gb112)); have n6_ := mk0 ((by rw [hg]; exact Nat.ne_of_gt (blk_lt (g := gb111) (o := .cells #[.int .i64 a0_0, .int .i64 a0_1, .int .i64 a0_2] 50 (0, 0)) (bA BK111.out)) : gb112 ≠ gb111)); clear BK111; clear HB; have BK111 := n0_; have HB := n1_; have BK112 := n2_; have GW112 := n3_; have GE112 := n4_; have NB111_112 := n5_; have NB112_111 := n6_; clear n0_ n1_ n2_ n3_ n4_ n5_ n6_; clear hb hbox hg; have hnb6 := NB111_112.out; have hnc6 := NB112_111.out; have hcz7_0 : w5.cell? ⟨gb111, 0, none⟩ = some (.int .i64 a0_0) := (blk_cell BK111.out 0).trans rfl; have hcz7_1 : w5.cell? ⟨gb111, 1, none⟩ = some (.int .i64 a0_1) := (blk_cell BK111.out 1).trans rfl; have hcz7_2 : w5.cell? ⟨gb111, 2, none⟩ = some (.int .i64 a0_2) := (blk_cell BK111.out 2).trans rfl; have hfz7_0 := blk_frozen BK111.out 0; have hfz7_1 := blk_frozen BK111.out 1; have hfz7_2 := blk_frozen BK111.out 2; have hcz8_0 : w5.cell? ⟨gb112, 0, none⟩ = some (.int .i64 a1_0) := (blk_cell BK112.out 0).trans rfl; have hcz8_1 : w5.cell? ⟨gb112, 1, none⟩ = some (.int .i64 a1_1) := (blk_cell BK112.out 1).trans rfl; have hcz8_2 : w5.cell? ⟨gb112, 2, none⟩ = some (.int .i64 a1_2) := (blk_cell BK112.out 2).trans rfl; have hfz8_0 := blk_frozen BK112.out 0; have hfz8_1 := blk_frozen BK112.out 1; have hfz8_2 := blk_frozen BK112.out 2))
  go_ret
  exact ⟨er, hA HB.out⟩
 ·rw [if_neg c3] at H
  have c3b0 : (a0_0 == a1_0) = false := beq_eq_false_iff_ne.mpr c3
  have c3b1 : (a0_0 != a1_0) = true := bne_iff_ne.mpr c3
  by_cases c9 : a0_0 = a1_1
  ·rw [if_pos c9] at H
   have c9b0 : (a0_0 == a1_1) = true := beq_iff_eq.mpr c9
   have c9b1 : (a0_0 != a1_1) = false := bne_eq_false_iff_eq.mpr c9
   clear c9
   obtain rfl := Option.some.inj H
   go_enter Try.func36, Try.ntmps36
   go_wp2_with (first | ((with_reducible refine gate_dst (N := 2) rfl ?_); refine box_event ?hg (N := 2) ?hd (cs := #[.int .i64 a0_0, .int .i64 a0_1, .int .i64 a0_2]) (t := 50) ?hr ?_; (case hd | hg => rfl); (case hr => first | (go_simp; done) | (go_simp; rfl)); intro gb111 hg w10 hbox hb; have n0_ := mk0 (below_step (hA HB.out) hb); have n1_ := mk0 (hbox); have n2_ := mk0 ((by rw [hg]; exact (below_size (hA HB.out)) : w.heap.size ≤ gb111)); have n3_ := mk0 ((by rw [hg]; exact (below_size (hA HB.out)) : w.heap.size ≤ gb111)); clear HB; have HB := n0_; have BK111 := n1_; have GW111 := n2_; have GE111 := n3_; clear n0_ n1_ n2_ n3_; clear hb hbox hg) | ((with_reducible refine gate_dst (N := 3) rfl ?_); refine box_event ?hg (N := 3) ?hd (cs := #[.int .i64 a1_0, .int .i64 a1_1, .int .i64 a1_2]) (t := 50) ?hr ?_; (case hd | hg => rfl); (case hr => first | (go_simp; done) | (go_simp; rfl)); intro gb112 hg w11 hbox hb; have n0_ := mk0 (bB BK111.out hb); have n1_ := mk0 (below_step (hA HB.out) hb); have n2_ := mk0 (hbox); have n3_ := mk0 ((by rw [hg]; exact (below_size (hA HB.out)) : w.heap.size ≤ gb112)); have n4_ := mk0 ((by rw [hg]; exact (below_size (hA HB.out)) : w.heap.size ≤ gb112)); have n5_ := mk0 ((by rw [hg]; exact Nat.ne_of_lt (blk_lt (g := gb111) (o := .cells #[.int .i64 a0_0, .int .i64 a0_1, .int .i64 a0_2] 50 (0, 0)) (bA BK111.out)) : gb111 ≠ gb112)); have n6_ := mk0 ((by rw [hg]; exact Nat.ne_of_gt (blk_lt (g := gb111) (o := .cells #[.int .i64 a0_0, .int .i64 a0_1, .int .i64 a0_2] 50 (0, 0)) (bA BK111.out)) : gb112 ≠ gb111)); clear BK111; clear HB; have BK111 := n0_; have HB := n1_; have BK112 := n2_; have GW112 := n3_; have GE112 := n4_; have NB111_112 := n5_; have NB112_111 := n6_; clear n0_ n1_ n2_ n3_ n4_ n5_ n6_; clear hb hbox hg; have hnb12 := NB111_112.out; have hnc12 := NB112_111.out; have hcz13_0 : w11.cell? ⟨gb111, 0, none⟩ = some (.int .i64 a0_0) := (blk_cell BK111.out 0).trans rfl; have hcz13_1 : w11.cell? ⟨gb111, 1, none⟩ = some (.int .i64 a0_1) := (blk_cell BK111.out 1).trans rfl; have hcz13_2 : w11.cell? ⟨gb111, 2, none⟩ = some (.int .i64 a0_2) := (blk_cell BK111.out 2).trans rfl; have hfz13_0 := blk_frozen BK111.out 0; have hfz13_1 := blk_frozen BK111.out 1; have hfz13_2 := blk_frozen BK111.out 2; have hcz14_0 : w11.cell? ⟨gb112, 0, none⟩ = some (.int .i64 a1_0) := (blk_cell BK112.out 0).trans rfl; have hcz14_1 : w11.cell? ⟨gb112, 1, none⟩ = some (.int .i64 a1_1) := (blk_cell BK112.out 1).trans rfl; have hcz14_2 : w11.cell? ⟨gb112, 2, none⟩ = some (.int .i64 a1_2) := (blk_cell BK112.out 2).trans rfl; have hfz14_0 := blk_frozen BK112.out 0; have hfz14_1 := blk_frozen BK112.out 1; have hfz14_2 := blk_frozen BK112.out 2))
   go_ret
   exact ⟨er, hA HB.out⟩
  ·rw [if_neg c9] at H
   have c9b0 : (a0_0 == a1_1) = false := beq_eq_false_iff_ne.mpr c9
   have c9b1 : (a0_0 != a1_1) = true := bne_iff_ne.mpr c9
   by_cases c15 : a0_1 = a1_0
   ·rw [if_pos c15] at H
    have c15b0 : (a0_1 == a1_0) = true := beq_iff_eq.mpr c15
    have c15b1 : (a0_1 != a1_0) = false := bne_eq_false_iff_eq.mpr c15
    clear c15
    obtain rfl := Option.some.inj H
    go_enter Try.func36, Try.ntmps36
    go_wp2_with (first | ((with_reducible refine gate_dst (N := 2) rfl ?_); refine box_event ?hg (N := 2) ?hd (cs := #[.int .i64 a0_0, .int .i64 a0_1, .int .i64 a0_2]) (t := 50) ?hr ?_; (case hd | hg => rfl); (case hr => first | (go_simp; done) | (go_simp; rfl)); intro gb111 hg w16 hbox hb; have n0_ := mk0 (below_step (hA HB.out) hb); have n1_ := mk0 (hbox); have n2_ := mk0 ((by rw [hg]; exact (below_size (hA HB.out)) : w.heap.size ≤ gb111)); have n3_ := mk0 ((by rw [hg]; exact (below_size (hA HB.out)) : w.heap.size ≤ gb111)); clear HB; have HB := n0_; have BK111 := n1_; have GW111 := n2_; have GE111 := n3_; clear n0_ n1_ n2_ n3_; clear hb hbox hg) | ((with_reducible refine gate_dst (N := 3) rfl ?_); refine box_event ?hg (N := 3) ?hd (cs := #[.int .i64 a1_0, .int .i64 a1_1, .int .i64 a1_2]) (t := 50) ?hr ?_; (case hd | hg => rfl); (case hr => first | (go_simp; done) | (go_simp; rfl)); intro gb112 hg w17 hbox hb; have n0_ := mk0 (bB BK111.out hb); have n1_ := mk0 (below_step (hA HB.out) hb); have n2_ := mk0 (hbox); have n3_ := mk0 ((by rw [hg]; exact (below_size (hA HB.out)) : w.heap.size ≤ gb112)); have n4_ := mk0 ((by rw [hg]; exact (below_size (hA HB.out)) : w.heap.size ≤ gb112)); have n5_ := mk0 ((by rw [hg]; exact Nat.ne_of_lt (blk_lt (g := gb111) (o := .cells #[.int .i64 a0_0, .int .i64 a0_1, .int .i64 a0_2] 50 (0, 0)) (bA BK111.out)) : gb111 ≠ gb112)); have n6_ := mk0 ((by rw [hg]; exact Nat.ne_of_gt (blk_lt (g := gb111) (o := .cells #[.int .i64 a0_0, .int .i64 a0_1, .int .i64 a0_2] 50 (0, 0)) (bA BK111.out)) : gb112 ≠ gb111)); clear BK111; clear HB; have BK111 := n0_; have HB := n1_; have BK112 := n2_; have GW112 := n3_; have GE112 := n4_; have NB111_112 := n5_; have NB112_111 := n6_; clear n0_ n1_ n2_ n3_ n4_ n5_ n6_; clear hb hbox hg; have hnb18 := NB111_112.out; have hnc18 := NB112_111.out; have hcz19_0 : w17.cell? ⟨gb111, 0, none⟩ = some (.int .i64 a0_0) := (blk_cell BK111.out 0).trans rfl; have hcz19_1 : w17.cell? ⟨gb111, 1, none⟩ = some (.int .i64 a0_1) := (blk_cell BK111.out 1).trans rfl; have hcz19_2 : w17.cell? ⟨gb111, 2, none⟩ = some (.int .i64 a0_2) := (blk_cell BK111.out 2).trans rfl; have hfz19_0 := blk_frozen BK111.out 0; have hfz19_1 := blk_frozen BK111.out 1; have hfz19_2 := blk_frozen BK111.out 2; have hcz20_0 : w17.cell? ⟨gb112, 0, none⟩ = some (.int .i64 a1_0) := (blk_cell BK112.out 0).trans rfl; have hcz20_1 : w17.cell? ⟨gb112, 1, none⟩ = some (.int .i64 a1_1) := (blk_cell BK112.out 1).trans rfl; have hcz20_2 : w17.cell? ⟨gb112, 2, none⟩ = some (.int .i64 a1_2) := (blk_cell BK112.out 2).trans rfl; have hfz20_0 := blk_frozen BK112.out 0; have hfz20_1 := blk_frozen BK112.out 1; have hfz20_2 := blk_frozen BK112.out 2))
    go_ret
    exact ⟨er, hA HB.out⟩
   ·rw [if_neg c15] at H
    have c15b0 : (a0_1 == a1_0) = false := beq_eq_false_iff_ne.mpr c15
    have c15b1 : (a0_1 != a1_0) = true := bne_iff_ne.mpr c15
    by_cases c21 : a0_1 = a1_1
    ·rw [if_pos c21] at H
     have c21b0 : (a0_1 == a1_1) = true := beq_iff_eq.mpr c21
     have c21b1 : (a0_1 != a1_1) = false := bne_eq_false_iff_eq.mpr c21
     clear c21
     obtain rfl := Option.some.inj H
     go_enter Try.func36, Try.ntmps36
     go_wp2_with (first | ((with_reducible refine gate_dst (N := 2) rfl ?_); refine box_event ?hg (N := 2) ?hd (cs := #[.int .i64 a0_0, .int .i64 a0_1, .int .i64 a0_2]) (t := 50) ?hr ?_; (case hd | hg => rfl); (case hr => first | (go_simp; done) | (go_simp; rfl)); intro gb111 hg w22 hbox hb; have n0_ := mk0 (below_step (hA HB.out) hb); have n1_ := mk0 (hbox); have n2_ := mk0 ((by rw [hg]; exact (below_size (hA HB.out)) : w.heap.size ≤ gb111)); have n3_ := mk0 ((by rw [hg]; exact (below_size (hA HB.out)) : w.heap.size ≤ gb111)); clear HB; have HB := n0_; have BK111 := n1_; have GW111 := n2_; have GE111 := n3_; clear n0_ n1_ n2_ n3_; clear hb hbox hg) | ((with_reducible refine gate_dst (N := 3) rfl ?_); refine box_event ?hg (N := 3) ?hd (cs := #[.int .i64 a1_0, .int .i64 a1_1, .int .i64 a1_2]) (t := 50) ?hr ?_; (case hd | hg => rfl); (case hr => first | (go_simp; done) | (go_simp; rfl)); intro gb112 hg w23 hbox hb; have n0_ := mk0 (bB BK111.out hb); have n1_ := mk0 (below_step (hA HB.out) hb); have n2_ := mk0 (hbox); have n3_ := mk0 ((by rw [hg]; exact (below_size (hA HB.out)) : w.heap.size ≤ gb112)); have n4_ := mk0 ((by rw [hg]; exact (below_size (hA HB.out)) : w.heap.size ≤ gb112)); have n5_ := mk0 ((by rw [hg]; exact Nat.ne_of_lt (blk_lt (g := gb111) (o := .cells #[.int .i64 a0_0, .int .i64 a0_1, .int .i64 a0_2] 50 (0, 0)) (bA BK111.out)) : gb111 ≠ gb112)); have n6_ := mk0 ((by rw [hg]; exact Nat.ne_of_gt (blk_lt (g := gb111) (o := .cells #[.int .i64 a0_0, .int .i64 a0_1, .int .i64 a0_2] 50 (0, 0)) (bA BK111.out)) : gb112 ≠ gb111)); clear BK111; clear HB; have BK111 := n0_; have HB := n1_; have BK112 := n2_; have GW112 := n3_; have GE112 := n4_; have NB111_112 := n5_; have NB112_111 := n6_; clear n0_ n1_ n2_ n3_ n4_ n5_ n6_; clear hb hbox hg; have hnb24 := NB111_112.out; have hnc24 := NB112_111.out; have hcz25_0 : w23.cell? ⟨gb111, 0, none⟩ = some (.int .i64 a0_0) := (blk_cell BK111.out 0).trans rfl; have hcz25_1 : w23.cell? ⟨gb111, 1, none⟩ = some (.int .i64 a0_1) := (blk_cell BK111.out 1).trans rfl; have hcz25_2 : w23.cell? ⟨gb111, 2, none⟩ = some (.int .i64 a0_2) := (blk_cell BK111.out 2).trans rfl; have hfz25_0 := blk_frozen BK111.out 0; have hfz25_1 := blk_frozen BK111.out 1; have hfz25_2 := blk_frozen BK111.out 2; have hcz26_0 : w23.cell? ⟨gb112, 0, none⟩ = some (.int .i64 a1_0) := (blk_cell BK112.out 0).trans rfl; have hcz26_1 : w23.cell? ⟨gb112, 1, none⟩ = some (.int .i64 a1_1) := (blk_cell BK112.out 1).trans rfl; have hcz26_2 : w23.cell? ⟨gb112, 2, none⟩ = some (.int .i64 a1_2) := (blk_cell BK112.out 2).trans rfl; have hfz26_0 := blk_frozen BK112.out 0; have hfz26_1 := blk_frozen BK112.out 1; have hfz26_2 := blk_frozen BK112.out 2))
     go_ret
     exact ⟨er, hA HB.out⟩
    ·rw [if_neg c21] at H
     have c21b0 : (a0_1 == a1_1) = false := beq_eq_false_iff_ne.mpr c21
     have c21b1 : (a0_1 != a1_1) = true := bne_iff_ne.mpr c21
     by_cases c27 : a0_2 ≥ 0
     ·rw [if_pos c27] at H
      have c27b0 : decide (0 ≤ a0_2) = true := decide_eq_true c27
      clear c27
      obtain rfl := Option.some.inj H
      go_enter Try.func36, Try.ntmps36
      go_wp2_with (first | ((with_reducible refine gate_dst (N := 2) rfl ?_); refine box_event ?hg (N := 2) ?hd (cs := #[.int .i64 a0_0, .int .i64 a0_1, .int .i64 a0_2]) (t := 50) ?hr ?_; (case hd | hg => rfl); (case hr => first | (go_simp; done) | (go_simp; rfl)); intro gb111 hg w28 hbox hb; have n0_ := mk0 (below_step (hA HB.out) hb); have n1_ := mk0 (hbox); have n2_ := mk0 ((by rw [hg]; exact (below_size (hA HB.out)) : w.heap.size ≤ gb111)); have n3_ := mk0 ((by rw [hg]; exact (below_size (hA HB.out)) : w.heap.size ≤ gb111)); clear HB; have HB := n0_; have BK111 := n1_; have GW111 := n2_; have GE111 := n3_; clear n0_ n1_ n2_ n3_; clear hb hbox hg) | ((with_reducible refine gate_dst (N := 3) rfl ?_); refine box_event ?hg (N := 3) ?hd (cs := #[.int .i64 a1_0, .int .i64 a1_1, .int .i64 a1_2]) (t := 50) ?hr ?_; (case hd | hg => rfl); (case hr => first | (go_simp; done) | (go_simp; rfl)); intro gb112 hg w29 hbox hb; have n0_ := mk0 (bB BK111.out hb); have n1_ := mk0 (below_step (hA HB.out) hb); have n2_ := mk0 (hbox); have n3_ := mk0 ((by rw [hg]; exact (below_size (hA HB.out)) : w.heap.size ≤ gb112)); have n4_ := mk0 ((by rw [hg]; exact (below_size (hA HB.out)) : w.heap.size ≤ gb112)); have n5_ := mk0 ((by rw [hg]; exact Nat.ne_of_lt (blk_lt (g := gb111) (o := .cells #[.int .i64 a0_0, .int .i64 a0_1, .int .i64 a0_2] 50 (0, 0)) (bA BK111.out)) : gb111 ≠ gb112)); have n6_ := mk0 ((by rw [hg]; exact Nat.ne_of_gt (blk_lt (g := gb111) (o := .cells #[.int .i64 a0_0, .int .i64 a0_1, .int .i64 a0_2] 50 (0, 0)) (bA BK111.out)) : gb112 ≠ gb111)); clear BK111; clear HB; have BK111 := n0_; have HB := n1_; have BK112 := n2_; have GW112 := n3_; have GE112 := n4_; have NB111_112 := n5_; have NB112_111 := n6_; clear n0_ n1_ n2_ n3_ n4_ n5_ n6_; clear hb hbox hg; have hnb30 := NB111_112.out; have hnc30 := NB112_111.out; have hcz31_0 : w29.cell? ⟨gb111, 0, none⟩ = some (.int .i64 a0_0) := (blk_cell BK111.out 0).trans rfl; have hcz31_1 : w29.cell? ⟨gb111, 1, none⟩ = some (.int .i64 a0_1) := (blk_cell BK111.out 1).trans rfl; have hcz31_2 : w29.cell? ⟨gb111, 2, none⟩ = some (.int .i64 a0_2) := (blk_cell BK111.out 2).trans rfl; have hfz31_0 := blk_frozen BK111.out 0; have hfz31_1 := blk_frozen BK111.out 1; have hfz31_2 := blk_frozen BK111.out 2; have hcz32_0 : w29.cell? ⟨gb112, 0, none⟩ = some (.int .i64 a1_0) := (blk_cell BK112.out 0).trans rfl; have hcz32_1 : w29.cell? ⟨gb112, 1, none⟩ = some (.int .i64 a1_1) := (blk_cell BK112.out 1).trans rfl; have hcz32_2 : w29.cell? ⟨gb112, 2, none⟩ = some (.int .i64 a1_2) := (blk_cell BK112.out 2).trans rfl; have hfz32_0 := blk_frozen BK112.out 0; have hfz32_1 := blk_frozen BK112.out 1; have hfz32_2 := blk_frozen BK112.out 2))
      go_ret
      exact ⟨er, hA HB.out⟩
     ·rw [if_neg c27] at H
      have c27b0 : decide (0 ≤ a0_2) = false := decide_eq_false c27
      clear c27
      obtain rfl := Option.some.inj H
      go_enter Try.func36, Try.ntmps36
      go_wp2_with (first | ((with_reducible refine gate_dst (N := 2) rfl ?_); refine box_event ?hg (N := 2) ?hd (cs := #[.int .i64 a0_0, .int .i64 a0_1, .int .i64 a0_2]) (t := 50) ?hr ?_; (case hd | hg => rfl); (case hr => first | (go_simp; done) | (go_simp; rfl)); intro gb111 hg w33 hbox hb; have n0_ := mk0 (below_step (hA HB.out) hb); have n1_ := mk0 (hbox); have n2_ := mk0 ((by rw [hg]; exact (below_size (hA HB.out)) : w.heap.size ≤ gb111)); have n3_ := mk0 ((by rw [hg]; exact (below_size (hA HB.out)) : w.heap.size ≤ gb111)); clear HB; have HB := n0_; have BK111 := n1_; have GW111 := n2_; have GE111 := n3_; clear n0_ n1_ n2_ n3_; clear hb hbox hg) | ((with_reducible refine gate_dst (N := 3) rfl ?_); refine box_event ?hg (N := 3) ?hd (cs := #[.int .i64 a1_0, .int .i64 a1_1, .int .i64 a1_2]) (t := 50) ?hr ?_; (case hd | hg => rfl); (case hr => first | (go_simp; done) | (go_simp; rfl)); intro gb112 hg w34 hbox hb; have n0_ := mk0 (bB BK111.out hb); have n1_ := mk0 (below_step (hA HB.out) hb); have n2_ := mk0 (hbox); have n3_ := mk0 ((by rw [hg]; exact (below_size (hA HB.out)) : w.heap.size ≤ gb112)); have n4_ := mk0 ((by rw [hg]; exact (below_size (hA HB.out)) : w.heap.size ≤ gb112)); have n5_ := mk0 ((by rw [hg]; exact Nat.ne_of_lt (blk_lt (g := gb111) (o := .cells #[.int .i64 a0_0, .int .i64 a0_1, .int .i64 a0_2] 50 (0, 0)) (bA BK111.out)) : gb111 ≠ gb112)); have n6_ := mk0 ((by rw [hg]; exact Nat.ne_of_gt (blk_lt (g := gb111) (o := .cells #[.int .i64 a0_0, .int .i64 a0_1, .int .i64 a0_2] 50 (0, 0)) (bA BK111.out)) : gb112 ≠ gb111)); clear BK111; clear HB; have BK111 := n0_; have HB := n1_; have BK112 := n2_; have GW112 := n3_; have GE112 := n4_; have NB111_112 := n5_; have NB112_111 := n6_; clear n0_ n1_ n2_ n3_ n4_ n5_ n6_; clear hb hbox hg; have hnb35 := NB111_112.out; have hnc35 := NB112_111.out; have hcz36_0 : w34.cell? ⟨gb111, 0, none⟩ = some (.int .i64 a0_0) := (blk_cell BK111.out 0).trans rfl; have hcz36_1 : w34.cell? ⟨gb111, 1, none⟩ = some (.int .i64 a0_1) := (blk_cell BK111.out 1).trans rfl; have hcz36_2 : w34.cell? ⟨gb111, 2, none⟩ = some (.int .i64 a0_2) := (blk_cell BK111.out 2).trans rfl; have hfz36_0 := blk_frozen BK111.out 0; have hfz36_1 := blk_frozen BK111.out 1; have hfz36_2 := blk_frozen BK111.out 2; have hcz37_0 : w34.cell? ⟨gb112, 0, none⟩ = some (.int .i64 a1_0) := (blk_cell BK112.out 0).trans rfl; have hcz37_1 : w34.cell? ⟨gb112, 1, none⟩ = some (.int .i64 a1_1) := (blk_cell BK112.out 1).trans rfl; have hcz37_2 : w34.cell? ⟨gb112, 2, none⟩ = some (.int .i64 a1_2) := (blk_cell BK112.out 2).trans rfl; have hfz37_0 := blk_frozen BK112.out 0; have hfz37_1 := blk_frozen BK112.out 1; have hfz37_2 := blk_frozen BK112.out 2))
      go_ret
      exact ⟨er, hA HB.out⟩
def spec_l18First.l0 : Nat → Int → Bool → Int → List (S50) → List Int → List Int → Option (Int)
 | 0, _, _, _, _, _, _ => none
 | k + 1, x1, x2, x7, x114000, x114001, x114002 => if x7 < (x114000.length : Int) then (if 0 ≤ x7 then (if x2 = true then (if ((rd_T50 x114000 x7).f2) = x1 then (some x7) else (spec_l18First.l0 k x1 x2 (wrap64 (x7 + 1)) x114000 x114001 x114002)) else (if ((rd_T50 x114000 x7).f0) = x1 then (some x7) else (if ((rd_T50 x114000 x7).f1) = x1 then (some x7) else (spec_l18First.l0 k x1 x2 (wrap64 (x7 + 1)) x114000 x114001 x114002)))) else (none)) else (some (-1))
def spec_l18First.f (k : Nat) (lp : List (S50)) (lq : List Int) (lr : List Int) (a1 : Int) (a2 : Bool) : Option (Int) := spec_l18First.l0 k a1 a2 0 lp lq lr
theorem spec_l18First.mono_l : ∀ k, (∀ y0 y1 y2 y3 y4 y5, LeO (spec_l18First.l0 k y0 y1 y2 y3 y4 y5) (spec_l18First.l0 (k + 1) y0 y1 y2 y3 y4 y5))
 | 0 => fun _ _ _ _ _ _ r h => by simp [spec_l18First.l0] at h
 | k + 1 => by
  have ih0 := spec_l18First.mono_l k
  ·intro y0 y1 y2 y3 y4 y5
   unfold spec_l18First.l0
   repeat' first
   | (with_reducible exact ih0 _ _ _ _ _ _)
   | (with_reducible exact LeO.refl _)
   | (with_reducible exact LeO.none _)
   | (with_reducible refine LeO.ite ?_ ?_)
   | (with_reducible refine LeO.bind ?_ (fun _ => ?_))
   | exact ih0 _ _ _ _ _ _
   | exact LeO.none _
   | refine LeO.ite ?_ ?_
   | refine LeO.bind ?_ (fun _ => ?_)
theorem spec_l18First.mono : ∀ a0 a1 a2 a3 a4 k, LeO (spec_l18First.f k a0 a1 a2 a3 a4) (spec_l18First.f (k + 1) a0 a1 a2 a3 a4) := by
 intro a0 a1 a2 a3 a4 k
 have ih0 := spec_l18First.mono_l k
 unfold spec_l18First.f
 repeat' first
   | (with_reducible exact ih0 _ _ _ _ _ _)
   | (with_reducible exact LeO.refl _)
   | (with_reducible exact LeO.none _)
   | (with_reducible refine LeO.ite ?_ ?_)
   | (with_reducible refine LeO.bind ?_ (fun _ => ?_))
   | exact ih0 _ _ _ _ _ _
   | exact LeO.none _
   | refine LeO.ite ?_ ?_
   | refine LeO.bind ?_ (fun _ => ?_)
set_option maxHeartbeats 8000000 in
set_option maxRecDepth 100000 in
theorem spec_l18First.calls (k : Nat) (Ap : Option Addr) (cp : Nat) (lp : List (S50)) (Aq : Option Addr) (cq : Nat) (lq : List Int) (Ar : Option Addr) (cr : Nat) (lr : List Int) (a1 : Int) (a2 : Bool) (r : Int) (w : World) (hr0_0 : Kd.C k50 w Ap lp.length lp) (hc0_0 : lp.length ≤ cp) (hr0_1 : Kd.C (Kd.int .i64) w Aq lq.length lq) (hc0_1 : lq.length ≤ cq) (hr0_2 : Kd.C (Kd.int .i64) w Ar lr.length lr) (hc0_2 : lr.length ≤ cr) (h : spec_l18First.f k lp lq lr a1 a2 = some r) :
  Calls Try.prog 60 #[.agg #[.slice Ap lp.length cp, .slice Aq lq.length cq, .slice Ar lr.length cr], .int .i64 a1, .bool a2] w fun e w' => e = .returned (.int .i64 r) ∧ Below w.heap.size w w' := by
 have hu29 := Try.underlying29
 have hu50 := Try.underlying50
 have HR0_0 := mk0 hr0_0
 have HC0_0 := mk0 hc0_0
 clear hr0_0 hc0_0
 have HR0_1 := mk0 hr0_1
 have HC0_1 := mk0 hc0_1
 clear hr0_1 hc0_1
 have HR0_2 := mk0 hr0_2
 have HC0_2 := mk0 hc0_2
 clear hr0_2 hc0_2
 have HB := mk0 (Below.refl w.heap.size w)
 have H : (spec_l18First.l0 k a1 a2 0 lp lq lr) = some r := h
 clear h
 have H' := mk0 H
 clear H
 go_enter Try.func60, Try.ntmps60
 go_wp2_with (first | ((with_reducible refine gate_dst (N := 3) rfl ?_); refine box_event ?hg (N := 3) ?hd (cs := #[.slice Ap lp.length cp, .slice Aq lq.length cq, .slice Ar lr.length cr]) (t := 29) ?hr ?_; (case hd | hg => rfl); (case hr => first | (go_simp; done) | (go_simp; rfl)); intro gb113 hg w4 hbox hb; have n0_ := mk0 (below_step (hA HB.out) hb); have n1_ := mk0 (hbox); have n2_ := mk0 ((by rw [hg]; exact (below_size (hA HB.out)) : w.heap.size ≤ gb113)); have n3_ := mk0 ((by rw [hg]; exact (below_size (hA HB.out)) : w.heap.size ≤ gb113)); clear HB; have HB := n0_; have BK113 := n1_; have GW113 := n2_; have GE113 := n3_; clear n0_ n1_ n2_ n3_; clear hb hbox hg))
 go_loopg [7] k (fun kq v7 w' => ∃ (x7_1 : Int), v7 = .int .i64 x7_1 ∧ Aside0 (spec_l18First.l0 kq a1 a2 x7_1 lp lq lr = some r) ∧ Aside0 (kq ≤ k) ∧ Aside0 (w'.heap[gb113]? = some (.cells #[(.slice Ap lp.length cp), (.slice Aq lq.length cq), (.slice Ar lr.length cr)] 29 (0, 0))) ∧ Aside0 (Below w.heap.size w w'))
 case atStart => exact ⟨(0), rs, H', ⟨Nat.le_refl _⟩, ⟨by refine bC (a := ?_); exact BK113.out⟩, ⟨hA HB.out⟩⟩
 case round =>
  clear H'
  (try clear p2)
  obtain ⟨x7_1, rfl, HA, HK1, BK113, HB⟩ := hrel
  cases gk with
  | zero => exact absurd HA.out (by simp [spec_l18First.l0])
  | succ k1 =>
   have H := HA.out
   clear HA
   simp only [spec_l18First.l0] at H
   by_cases c5 : x7_1 < (lp.length : Int)
   ·rw [if_pos c5] at H
    have c5b0 : decide (x7_1 < (lp.length : Int)) = true := decide_eq_true c5
    clear c5
    by_cases c6 : 0 ≤ x7_1
    ·rw [if_pos c6] at H
     have c6b0 : decide (0 ≤ x7_1) = true := decide_eq_true c6
     clear c6
     by_cases c7 : a2 = true
     ·subst c7
      have H1 : (if ((rd_T50 lp x7_1).f2) = a1 then (some x7_1) else (spec_l18First.l0 k1 a1 true (wrap64 (x7_1 + 1)) lp lq lr)) = some r := by rw [if_pos rfl] at H; exact H
      clear H
      have H := H1
      clear H1
      by_cases c8 : ((rd_T50 lp x7_1).f2) = a1
      ·rw [if_pos c8] at H
       have c8b0 : (((rd_T50 lp x7_1).f2) == a1) = true := beq_iff_eq.mpr c8
       have c8b1 : (((rd_T50 lp x7_1).f2) != a1) = false := bne_eq_false_iff_eq.mpr c8
       clear c8
       obtain rfl := Option.some.inj H
       have hcz9_0 : wr.cell? ⟨gb113, 0, none⟩ = some (.slice Ap lp.length cp) := (blk_cell BK113.out 0).trans rfl
       have hcz9_1 : wr.cell? ⟨gb113, 1, none⟩ = some (.slice Aq lq.length cq) := (blk_cell BK113.out 1).trans rfl
       have hcz9_2 : wr.cell? ⟨gb113, 2, none⟩ = some (.slice Ar lr.length cr) := (blk_cell BK113.out 2).trans rfl
       have hfz9_0 := blk_frozen BK113.out 0
       have hfz9_1 := blk_frozen BK113.out 1
       have hfz9_2 := blk_frozen BK113.out 2
       have p114 : 0 ≤ (x7_1 : Int) := of_decide_eq_true sm
       have q114 : x7_1 < (lp.length : Int) := of_decide_eq_true sm
       obtain ⟨ad114, e114, hx114_0, hx114_1, hx114_2⟩ := at_T50 HR0_0.out x7_1 p114 q114
       cases e114
       try (replace hx114_0 := (HB.out.cell (World.block_lt_of_cell? w _ hx114_0)).trans hx114_0)
       try (replace hx114_1 := (HB.out.cell (World.block_lt_of_cell? w _ hx114_1)).trans hx114_1)
       try (replace hx114_2 := (HB.out.cell (World.block_lt_of_cell? w _ hx114_2)).trans hx114_2)
       replace p114 := eq_true p114
       replace q114 := eq_true q114
       go_wp2_with (first | ((with_reducible refine gate_dst (N := 8) rfl ?_); refine box_event ?hg (N := 8) ?hd (cs := #[.int .i64 0, .int .i64 0, .int .i64 0]) (t := 50) ?hr ?_; (case hd | hg => rfl); (case hr => first | (go_simp; done) | (go_simp; rfl)); intro gb115 hg w10 hbox hb; have n0_ := mk0 (bB BK113.out hb); have n1_ := mk0 (below_step (hA HB.out) hb); have n2_ := mk0 (hbox); have n3_ := mk0 ((by rw [hg]; exact (below_size (hA HB.out)) : w.heap.size ≤ gb115)); have n4_ := mk0 ((by rw [hg]; exact (below_size (hA HB.out)) : w.heap.size ≤ gb115)); have n5_ := mk0 ((by rw [hg]; exact Nat.ne_of_lt (blk_lt (g := gb113) (o := .cells #[.slice (some ad114) lp.length cp, .slice Aq lq.length cq, .slice Ar lr.length cr] 29 (0, 0)) (bA BK113.out)) : gb113 ≠ gb115)); have n6_ := mk0 ((by rw [hg]; exact Nat.ne_of_gt (blk_lt (g := gb113) (o := .cells #[.slice (some ad114) lp.length cp, .slice Aq lq.length cq, .slice Ar lr.length cr] 29 (0, 0)) (bA BK113.out)) : gb115 ≠ gb113)); clear BK113; clear HB; have BK113 := n0_; have HB := n1_; have BK115 := n2_; have GW115 := n3_; have GE115 := n4_; have NB113_115 := n5_; have NB115_113 := n6_; clear n0_ n1_ n2_ n3_ n4_ n5_ n6_; clear hb hbox hg; have hnb11 := NB115_113.out; have hnc11 := NB113_115.out; have hcz12_0 : w10.cell? ⟨gb115, 0, none⟩ = some (.int .i64 0) := (blk_cell BK115.out 0).trans rfl; have hcz12_1 : w10.cell? ⟨gb115, 1, none⟩ = some (.int .i64 0) := (blk_cell BK115.out 1).trans rfl; have hcz12_2 : w10.cell? ⟨gb115, 2, none⟩ = some (.int .i64 0) := (blk_cell BK115.out 2).trans rfl; have hfz12_0 := blk_frozen BK115.out 0; have hfz12_1 := blk_frozen BK115.out 1; have hfz12_2 := blk_frozen BK115.out 2))
       go_ret
       exact ⟨er, hA HB.out⟩
      ·rw [if_neg c8] at H
       have c8b0 : (((rd_T50 lp x7_1).f2) == a1) = false := beq_eq_false_iff_ne.mpr c8
       have c8b1 : (((rd_T50 lp x7_1).f2) != a1) = true := bne_iff_ne.mpr c8
       have H' := mk0 H
       clear H
       have hcz13_0 : wr.cell? ⟨gb113, 0, none⟩ = some (.slice Ap lp.length cp) := (blk_cell BK113.out 0).trans rfl
       have hcz13_1 : wr.cell? ⟨gb113, 1, none⟩ = some (.slice Aq lq.length cq) := (blk_cell BK113.out 1).trans rfl
       have hcz13_2 : wr.cell? ⟨gb113, 2, none⟩ = some (.slice Ar lr.length cr) := (blk_cell BK113.out 2).trans rfl
       have hfz13_0 := blk_frozen BK113.out 0
       have hfz13_1 := blk_frozen BK113.out 1
       have hfz13_2 := blk_frozen BK113.out 2
       have p114 : 0 ≤ (x7_1 : Int) := of_decide_eq_true sm
       have q114 : x7_1 < (lp.length : Int) := of_decide_eq_true sm
       obtain ⟨ad114, e114, hx114_0, hx114_1, hx114_2⟩ := at_T50 HR0_0.out x7_1 p114 q114
       cases e114
       try (replace hx114_0 := (HB.out.cell (World.block_lt_of_cell? w _ hx114_0)).trans hx114_0)
       try (replace hx114_1 := (HB.out.cell (World.block_lt_of_cell? w _ hx114_1)).trans hx114_1)
       try (replace hx114_2 := (HB.out.cell (World.block_lt_of_cell? w _ hx114_2)).trans hx114_2)
       replace p114 := eq_true p114
       replace q114 := eq_true q114
       go_wp2_with (first | ((with_reducible refine gate_dst (N := 8) rfl ?_); refine box_event ?hg (N := 8) ?hd (cs := #[.int .i64 0, .int .i64 0, .int .i64 0]) (t := 50) ?hr ?_; (case hd | hg => rfl); (case hr => first | (go_simp; done) | (go_simp; rfl)); intro gb115 hg w14 hbox hb; have n0_ := mk0 (bB BK113.out hb); have n1_ := mk0 (below_step (hA HB.out) hb); have n2_ := mk0 (hbox); have n3_ := mk0 ((by rw [hg]; exact (below_size (hA HB.out)) : w.heap.size ≤ gb115)); have n4_ := mk0 ((by rw [hg]; exact (below_size (hA HB.out)) : w.heap.size ≤ gb115)); have n5_ := mk0 ((by rw [hg]; exact Nat.ne_of_lt (blk_lt (g := gb113) (o := .cells #[.slice (some ad114) lp.length cp, .slice Aq lq.length cq, .slice Ar lr.length cr] 29 (0, 0)) (bA BK113.out)) : gb113 ≠ gb115)); have n6_ := mk0 ((by rw [hg]; exact Nat.ne_of_gt (blk_lt (g := gb113) (o := .cells #[.slice (some ad114) lp.length cp, .slice Aq lq.length cq, .slice Ar lr.length cr] 29 (0, 0)) (bA BK113.out)) : gb115 ≠ gb113)); clear BK113; clear HB; have BK113 := n0_; have HB := n1_; have BK115 := n2_; have GW115 := n3_; have GE115 := n4_; have NB113_115 := n5_; have NB115_113 := n6_; clear n0_ n1_ n2_ n3_ n4_ n5_ n6_; clear hb hbox hg; have hnb15 := NB115_113.out; have hnc15 := NB113_115.out; have hcz16_0 : w14.cell? ⟨gb115, 0, none⟩ = some (.int .i64 0) := (blk_cell BK115.out 0).trans rfl; have hcz16_1 : w14.cell? ⟨gb115, 1, none⟩ = some (.int .i64 0) := (blk_cell BK115.out 1).trans rfl; have hcz16_2 : w14.cell? ⟨gb115, 2, none⟩ = some (.int .i64 0) := (blk_cell BK115.out 2).trans rfl; have hfz16_0 := blk_frozen BK115.out 0; have hfz16_1 := blk_frozen BK115.out 1; have hfz16_2 := blk_frozen BK115.out 2))
       go_roundg k1
       case measure => have := HK1.out; omega
       case rel => exact ⟨(wrap64 (x7_1 + 1)), rs, H', ⟨by have := HK1.out; omega⟩, ⟨by refine bC (a := ?_); refine blk_far ?_ NB113_115.out _; refine bC (a := ?_); refine blk_far ?_ NB113_115.out _; refine bC (a := ?_); refine blk_far ?_ NB113_115.out _; refine bC (a := ?_); exact BK113.out⟩, ⟨hA HB.out⟩⟩
     ·replace c7 := Bool.eq_false_iff.mpr c7
      subst c7
      have H1 : (if ((rd_T50 lp x7_1).f0) = a1 then (some x7_1) else (if ((rd_T50 lp x7_1).f1) = a1 then (some x7_1) else (spec_l18First.l0 k1 a1 false (wrap64 (x7_1 + 1)) lp lq lr))) = some r := by rw [if_neg (show ¬ (false = true) by decide)] at H; exact H
      clear H
      have H := H1
      clear H1
      by_cases c17 : ((rd_T50 lp x7_1).f0) = a1
      ·rw [if_pos c17] at H
       have c17b0 : (((rd_T50 lp x7_1).f0) == a1) = true := beq_iff_eq.mpr c17
       have c17b1 : (((rd_T50 lp x7_1).f0) != a1) = false := bne_eq_false_iff_eq.mpr c17
       clear c17
       obtain rfl := Option.some.inj H
       have hcz18_0 : wr.cell? ⟨gb113, 0, none⟩ = some (.slice Ap lp.length cp) := (blk_cell BK113.out 0).trans rfl
       have hcz18_1 : wr.cell? ⟨gb113, 1, none⟩ = some (.slice Aq lq.length cq) := (blk_cell BK113.out 1).trans rfl
       have hcz18_2 : wr.cell? ⟨gb113, 2, none⟩ = some (.slice Ar lr.length cr) := (blk_cell BK113.out 2).trans rfl
       have hfz18_0 := blk_frozen BK113.out 0
       have hfz18_1 := blk_frozen BK113.out 1
       have hfz18_2 := blk_frozen BK113.out 2
       have p114 : 0 ≤ (x7_1 : Int) := of_decide_eq_true sm
       have q114 : x7_1 < (lp.length : Int) := of_decide_eq_true sm
       obtain ⟨ad114, e114, hx114_0, hx114_1, hx114_2⟩ := at_T50 HR0_0.out x7_1 p114 q114
       cases e114
       try (replace hx114_0 := (HB.out.cell (World.block_lt_of_cell? w _ hx114_0)).trans hx114_0)
       try (replace hx114_1 := (HB.out.cell (World.block_lt_of_cell? w _ hx114_1)).trans hx114_1)
       try (replace hx114_2 := (HB.out.cell (World.block_lt_of_cell? w _ hx114_2)).trans hx114_2)
       replace p114 := eq_true p114
       replace q114 := eq_true q114
       go_wp2_with (first | ((with_reducible refine gate_dst (N := 8) rfl ?_); refine box_event ?hg (N := 8) ?hd (cs := #[.int .i64 0, .int .i64 0, .int .i64 0]) (t := 50) ?hr ?_; (case hd | hg => rfl); (case hr => first | (go_simp; done) | (go_simp; rfl)); intro gb115 hg w19 hbox hb; have n0_ := mk0 (bB BK113.out hb); have n1_ := mk0 (below_step (hA HB.out) hb); have n2_ := mk0 (hbox); have n3_ := mk0 ((by rw [hg]; exact (below_size (hA HB.out)) : w.heap.size ≤ gb115)); have n4_ := mk0 ((by rw [hg]; exact (below_size (hA HB.out)) : w.heap.size ≤ gb115)); have n5_ := mk0 ((by rw [hg]; exact Nat.ne_of_lt (blk_lt (g := gb113) (o := .cells #[.slice (some ad114) lp.length cp, .slice Aq lq.length cq, .slice Ar lr.length cr] 29 (0, 0)) (bA BK113.out)) : gb113 ≠ gb115)); have n6_ := mk0 ((by rw [hg]; exact Nat.ne_of_gt (blk_lt (g := gb113) (o := .cells #[.slice (some ad114) lp.length cp, .slice Aq lq.length cq, .slice Ar lr.length cr] 29 (0, 0)) (bA BK113.out)) : gb115 ≠ gb113)); clear BK113; clear HB; have BK113 := n0_; have HB := n1_; have BK115 := n2_; have GW115 := n3_; have GE115 := n4_; have NB113_115 := n5_; have NB115_113 := n6_; clear n0_ n1_ n2_ n3_ n4_ n5_ n6_; clear hb hbox hg; have hnb20 := NB115_113.out; have hnc20 := NB113_115.out; have hcz21_0 : w19.cell? ⟨gb115, 0, none⟩ = some (.int .i64 0) := (blk_cell BK115.out 0).trans rfl; have hcz21_1 : w19.cell? ⟨gb115, 1, none⟩ = some (.int .i64 0) := (blk_cell BK115.out 1).trans rfl; have hcz21_2 : w19.cell? ⟨gb115, 2, none⟩ = some (.int .i64 0) := (blk_cell BK115.out 2).trans rfl; have hfz21_0 := blk_frozen BK115.out 0; have hfz21_1 := blk_frozen BK115.out 1; have hfz21_2 := blk_frozen BK115.out 2))
       go_ret
       exact ⟨er, hA HB.out⟩
      ·rw [if_neg c17] at H
       have c17b0 : (((rd_T50 lp x7_1).f0) == a1) = false := beq_eq_false_iff_ne.mpr c17
       have c17b1 : (((rd_T50 lp x7_1).f0) != a1) = true := bne_iff_ne.mpr c17
       by_cases c22 : ((rd_T50 lp x7_1).f1) = a1
       ·rw [if_pos c22] at H
        have c22b0 : (((rd_T50 lp x7_1).f1) == a1) = true := beq_iff_eq.mpr c22
        have c22b1 : (((rd_T50 lp x7_1).f1) != a1) = false := bne_eq_false_iff_eq.mpr c22
        clear c22
        obtain rfl := Option.some.inj H
        have hcz23_0 : wr.cell? ⟨gb113, 0, none⟩ = some (.slice Ap lp.length cp) := (blk_cell BK113.out 0).trans rfl
        have hcz23_1 : wr.cell? ⟨gb113, 1, none⟩ = some (.slice Aq lq.length cq) := (blk_cell BK113.out 1).trans rfl
        have hcz23_2 : wr.cell? ⟨gb113, 2, none⟩ = some (.slice Ar lr.length cr) := (blk_cell BK113.out 2).trans rfl
        have hfz23_0 := blk_frozen BK113.out 0
        have hfz23_1 := blk_frozen BK113.out 1
        have hfz23_2 := blk_frozen BK113.out 2
        have p114 : 0 ≤ (x7_1 : Int) := of_decide_eq_true sm
        have q114 : x7_1 < (lp.length : Int) := of_decide_eq_true sm
        obtain ⟨ad114, e114, hx114_0, hx114_1, hx114_2⟩ := at_T50 HR0_0.out x7_1 p114 q114
        cases e114
        try (replace hx114_0 := (HB.out.cell (World.block_lt_of_cell? w _ hx114_0)).trans hx114_0)
        try (replace hx114_1 := (HB.out.cell (World.block_lt_of_cell? w _ hx114_1)).trans hx114_1)
        try (replace hx114_2 := (HB.out.cell (World.block_lt_of_cell? w _ hx114_2)).trans hx114_2)
        replace p114 := eq_true p114
        replace q114 := eq_true q114
        go_wp2_with (first | ((with_reducible refine gate_dst (N := 8) rfl ?_); refine box_event ?hg (N := 8) ?hd (cs := #[.int .i64 0, .int .i64 0, .int .i64 0]) (t := 50) ?hr ?_; (case hd | hg => rfl); (case hr => first | (go_simp; done) | (go_simp; rfl)); intro gb115 hg w24 hbox hb; have n0_ := mk0 (bB BK113.out hb); have n1_ := mk0 (below_step (hA HB.out) hb); have n2_ := mk0 (hbox); have n3_ := mk0 ((by rw [hg]; exact (below_size (hA HB.out)) : w.heap.size ≤ gb115)); have n4_ := mk0 ((by rw [hg]; exact (below_size (hA HB.out)) : w.heap.size ≤ gb115)); have n5_ := mk0 ((by rw [hg]; exact Nat.ne_of_lt (blk_lt (g := gb113) (o := .cells #[.slice (some ad114) lp.length cp, .slice Aq lq.length cq, .slice Ar lr.length cr] 29 (0, 0)) (bA BK113.out)) : gb113 ≠ gb115)); have n6_ := mk0 ((by rw [hg]; exact Nat.ne_of_gt (blk_lt (g := gb113) (o := .cells #[.slice (some ad114) lp.length cp, .slice Aq lq.length cq, .slice Ar lr.length cr] 29 (0, 0)) (bA BK113.out)) : gb115 ≠ gb113)); clear BK113; clear HB; have BK113 := n0_; have HB := n1_; have BK115 := n2_; have GW115 := n3_; have GE115 := n4_; have NB113_115 := n5_; have NB115_113 := n6_; clear n0_ n1_ n2_ n3_ n4_ n5_ n6_; clear hb hbox hg; have hnb25 := NB115_113.out; have hnc25 := NB113_115.out; have hcz26_0 : w24.cell? ⟨gb115, 0, none⟩ = some (.int .i64 0) := (blk_cell BK115.out 0).trans rfl; have hcz26_1 : w24.cell? ⟨gb115, 1, none⟩ = some (.int .i64 0) := (blk_cell BK115.out 1).trans rfl; have hcz26_2 : w24.cell? ⟨gb115, 2, none⟩ = some (.int .i64 0) := (blk_cell BK115.out 2).trans rfl; have hfz26_0 := blk_frozen BK115.out 0; have hfz26_1 := blk_frozen BK115.out 1; have hfz26_2 := blk_frozen BK115.out 2))
        go_ret
        exact ⟨er, hA HB.out⟩
       ·rw [if_neg c22] at H
        have c22b0 : (((rd_T50 lp x7_1).f1) == a1) = false := beq_eq_false_iff_ne.mpr c22
        have c22b1 : (((rd_T50 lp x7_1).f1) != a1) = true := bne_iff_ne.mpr c22
        have H' := mk0 H
        clear H
        have hcz27_0 : wr.cell? ⟨gb113, 0, none⟩ = some (.slice Ap lp.length cp) := (blk_cell BK113.out 0).trans rfl
        have hcz27_1 : wr.cell? ⟨gb113, 1, none⟩ = some (.slice Aq lq.length cq) := (blk_cell BK113.out 1).trans rfl
        have hcz27_2 : wr.cell? ⟨gb113, 2, none⟩ = some (.slice Ar lr.length cr) := (blk_cell BK113.out 2).trans rfl
        have hfz27_0 := blk_frozen BK113.out 0
        have hfz27_1 := blk_frozen BK113.out 1
        have hfz27_2 := blk_frozen BK113.out 2
        have p114 : 0 ≤ (x7_1 : Int) := of_decide_eq_true sm
        have q114 : x7_1 < (lp.length : Int) := of_decide_eq_true sm
        obtain ⟨ad114, e114, hx114_0, hx114_1, hx114_2⟩ := at_T50 HR0_0.out x7_1 p114 q114
        cases e114
        try (replace hx114_0 := (HB.out.cell (World.block_lt_of_cell? w _ hx114_0)).trans hx114_0)
        try (replace hx114_1 := (HB.out.cell (World.block_lt_of_cell? w _ hx114_1)).trans hx114_1)
        try (replace hx114_2 := (HB.out.cell (World.block_lt_of_cell? w _ hx114_2)).trans hx114_2)
        replace p114 := eq_true p114
        replace q114 := eq_true q114
        go_wp2_with (first | ((with_reducible refine gate_dst (N := 8) rfl ?_); refine box_event ?hg (N := 8) ?hd (cs := #[.int .i64 0, .int .i64 0, .int .i64 0]) (t := 50) ?hr ?_; (case hd | hg => rfl); (case hr => first | (go_simp; done) | (go_simp; rfl)); intro gb115 hg w28 hbox hb; have n0_ := mk0 (bB BK113.out hb); have n1_ := mk0 (below_step (hA HB.out) hb); have n2_ := mk0 (hbox); have n3_ := mk0 ((by rw [hg]; exact (below_size (hA HB.out)) : w.heap.size ≤ gb115)); have n4_ := mk0 ((by rw [hg]; exact (below_size (hA HB.out)) : w.heap.size ≤ gb115)); have n5_ := mk0 ((by rw [hg]; exact Nat.ne_of_lt (blk_lt (g := gb113) (o := .cells #[.slice (some ad114) lp.length cp, .slice Aq lq.length cq, .slice Ar lr.length cr] 29 (0, 0)) (bA BK113.out)) : gb113 ≠ gb115)); have n6_ := mk0 ((by rw [hg]; exact Nat.ne_of_gt (blk_lt (g := gb113) (o := .cells #[.slice (some ad114) lp.length cp, .slice Aq lq.length cq, .slice Ar lr.length cr] 29 (0, 0)) (bA BK113.out)) : gb115 ≠ gb113)); clear BK113; clear HB; have BK113 := n0_; have HB := n1_; have BK115 := n2_; have GW115 := n3_; have GE115 := n4_; have NB113_115 := n5_; have NB115_113 := n6_; clear n0_ n1_ n2_ n3_ n4_ n5_ n6_; clear hb hbox hg; have hnb29 := NB115_113.out; have hnc29 := NB113_115.out; have hcz30_0 : w28.cell? ⟨gb115, 0, none⟩ = some (.int .i64 0) := (blk_cell BK115.out 0).trans rfl; have hcz30_1 : w28.cell? ⟨gb115, 1, none⟩ = some (.int .i64 0) := (blk_cell BK115.out 1).trans rfl; have hcz30_2 : w28.cell? ⟨gb115, 2, none⟩ = some (.int .i64 0) := (blk_cell BK115.out 2).trans rfl; have hfz30_0 := blk_frozen BK115.out 0; have hfz30_1 := blk_frozen BK115.out 1; have hfz30_2 := blk_frozen BK115.out 2))
        go_roundg k1
        case measure => have := HK1.out; omega
        case rel => exact ⟨(wrap64 (x7_1 + 1)), rs, H', ⟨by have := HK1.out; omega⟩, ⟨by refine bC (a := ?_); refine blk_far ?_ NB113_115.out _; refine bC (a := ?_); refine blk_far ?_ NB113_115.out _; refine bC (a := ?_); refine blk_far ?_ NB113_115.out _; refine bC (a := ?_); exact BK113.out⟩, ⟨hA HB.out⟩⟩
    ·rw [if_neg c6] at H
     exact absurd H (by simp)
   ·rw [if_neg c5] at H
    have c5b0 : decide (x7_1 < (lp.length : Int)) = false := decide_eq_false c5
    clear c5
    obtain rfl := Option.some.inj H
    have hcz31_0 : wr.cell? ⟨gb113, 0, none⟩ = some (.slice Ap lp.length cp) := (blk_cell BK113.out 0).trans rfl
    have hcz31_1 : wr.cell? ⟨gb113, 1, none⟩ = some (.slice Aq lq.length cq) := (blk_cell BK113.out 1).trans rfl
    have hcz31_2 : wr.cell? ⟨gb113, 2, none⟩ = some (.slice Ar lr.length cr) := (blk_cell BK113.out 2).trans rfl
    have hfz31_0 := blk_frozen BK113.out 0
    have hfz31_1 := blk_frozen BK113.out 1
    have hfz31_2 := blk_frozen BK113.out 2
    go_wp2
    go_ret
    exact ⟨er, hA HB.out⟩
mutual
def spec_l18Told.l0 : Nat → List Int → Bool → Int → Int → List (S69) → Int → List (S50) → List Int → List Int → Option ((List (S69)))
 | 0, _, _, _, _, _, _, _, _, _ => none
 | k + 1, x1, x2, x3, x4, x11, x12, x117000, x117001, x117002 => if x12 < (x1.length : Int) then ((spec_l18First.f k x117000 x117001 x117002 x12 x2).bind fun t120 => (if t120 ≥ 0 then (if 0 ≤ x12 then (if (rd x1 x12) = t120 then (spec_l18Told.l0 k x1 x2 x3 x4 x11 (wrap64 (x12 + 1)) x117000 x117001 x117002) else (if x11.length < 8796093022208 then (spec_l18Told.l0 k x1 x2 x3 x4 (x11 ++ [(⟨x3, x12⟩ : S69)]) (wrap64 (x12 + 1)) x117000 x117001 x117002) else (none))) else (none)) else (spec_l18Told.l0 k x1 x2 x3 x4 x11 (wrap64 (x12 + 1)) x117000 x117001 x117002))) else (spec_l18Told.l1 k x1 x2 x4 x11 0 x117000 x117001 x117002)
def spec_l18Told.l1 : Nat → List Int → Bool → Int → List (S69) → Int → List (S50) → List Int → List Int → Option ((List (S69)))
 | 0, _, _, _, _, _, _, _, _ => none
 | k + 1, x1, x2, x4, x11, x14, x117000, x117001, x117002 => if x14 < (x1.length : Int) then ((spec_l18First.f k x117000 x117001 x117002 x14 x2).bind fun t125 => (if t125 < 0 then (if 0 ≤ x14 then (if (rd x1 x14) ≥ 0 then (if x11.length < 8796093022208 then (spec_l18Told.l1 k x1 x2 x4 (x11 ++ [(⟨x4, x14⟩ : S69)]) (wrap64 (x14 + 1)) x117000 x117001 x117002) else (none)) else (spec_l18Told.l1 k x1 x2 x4 x11 (wrap64 (x14 + 1)) x117000 x117001 x117002)) else (none)) else (spec_l18Told.l1 k x1 x2 x4 x11 (wrap64 (x14 + 1)) x117000 x117001 x117002))) else (some x11)
end
def spec_l18Told.f (k : Nat) (lp : List (S50)) (lq : List Int) (lr : List Int) (l1 : List Int) (a2 : Bool) (a3 : Int) (a4 : Int) : Option ((List (S69))) := spec_l18Told.l0 k l1 a2 a3 a4 (([] : List (S69))) 0 lp lq lr
theorem spec_l18Told.mono_l : ∀ k, (∀ y0 y1 y2 y3 y4 y5 y6 y7 y8, LeO (spec_l18Told.l0 k y0 y1 y2 y3 y4 y5 y6 y7 y8) (spec_l18Told.l0 (k + 1) y0 y1 y2 y3 y4 y5 y6 y7 y8)) ∧ (∀ y0 y1 y2 y3 y4 y5 y6 y7, LeO (spec_l18Told.l1 k y0 y1 y2 y3 y4 y5 y6 y7) (spec_l18Told.l1 (k + 1) y0 y1 y2 y3 y4 y5 y6 y7))
 | 0 => ⟨fun _ _ _ _ _ _ _ _ _ r h => by simp [spec_l18Told.l0] at h, fun _ _ _ _ _ _ _ _ r h => by simp [spec_l18Told.l1] at h⟩
 | k + 1 => by
  obtain ⟨ih0, ih1⟩ := spec_l18Told.mono_l k
  refine ⟨?_, ?_⟩
  ·intro y0 y1 y2 y3 y4 y5 y6 y7 y8
   unfold spec_l18Told.l0
   repeat' first
   | (with_reducible exact ih0 _ _ _ _ _ _ _ _ _)
   | (with_reducible exact ih1 _ _ _ _ _ _ _ _)
   | (with_reducible exact spec_l18First.mono _ _ _ _ _ _)
   | (with_reducible exact LeO.refl _)
   | (with_reducible exact LeO.none _)
   | (with_reducible refine LeO.ite ?_ ?_)
   | (with_reducible refine LeO.bind ?_ (fun _ => ?_))
   | exact ih0 _ _ _ _ _ _ _ _ _
   | exact ih1 _ _ _ _ _ _ _ _
   | exact spec_l18First.mono _ _ _ _ _ _
   | exact LeO.none _
   | refine LeO.ite ?_ ?_
   | refine LeO.bind ?_ (fun _ => ?_)
  ·intro y0 y1 y2 y3 y4 y5 y6 y7
   unfold spec_l18Told.l1
   repeat' first
   | (with_reducible exact ih0 _ _ _ _ _ _ _ _ _)
   | (with_reducible exact ih1 _ _ _ _ _ _ _ _)
   | (with_reducible exact spec_l18First.mono _ _ _ _ _ _)
   | (with_reducible exact LeO.refl _)
   | (with_reducible exact LeO.none _)
   | (with_reducible refine LeO.ite ?_ ?_)
   | (with_reducible refine LeO.bind ?_ (fun _ => ?_))
   | exact ih0 _ _ _ _ _ _ _ _ _
   | exact ih1 _ _ _ _ _ _ _ _
   | exact spec_l18First.mono _ _ _ _ _ _
   | exact LeO.none _
   | refine LeO.ite ?_ ?_
   | refine LeO.bind ?_ (fun _ => ?_)
theorem spec_l18Told.mono : ∀ a0 a1 a2 a3 a4 a5 a6 k, LeO (spec_l18Told.f k a0 a1 a2 a3 a4 a5 a6) (spec_l18Told.f (k + 1) a0 a1 a2 a3 a4 a5 a6) := by
 intro a0 a1 a2 a3 a4 a5 a6 k
 obtain ⟨ih0, ih1⟩ := spec_l18Told.mono_l k
 unfold spec_l18Told.f
 repeat' first
   | (with_reducible exact ih0 _ _ _ _ _ _ _ _ _)
   | (with_reducible exact ih1 _ _ _ _ _ _ _ _)
   | (with_reducible exact spec_l18First.mono _ _ _ _ _ _)
   | (with_reducible exact LeO.refl _)
   | (with_reducible exact LeO.none _)
   | (with_reducible refine LeO.ite ?_ ?_)
   | (with_reducible refine LeO.bind ?_ (fun _ => ?_))
   | exact ih0 _ _ _ _ _ _ _ _ _
   | exact ih1 _ _ _ _ _ _ _ _
   | exact spec_l18First.mono _ _ _ _ _ _
   | exact LeO.none _
   | refine LeO.ite ?_ ?_
   | refine LeO.bind ?_ (fun _ => ?_)
set_option maxHeartbeats 8000000 in
set_option maxRecDepth 100000 in
theorem spec_l18Told.calls (k : Nat) (Ap : Option Addr) (cp : Nat) (lp : List (S50)) (Aq : Option Addr) (cq : Nat) (lq : List Int) (Ar : Option Addr) (cr : Nat) (lr : List Int) (A1 : Option Addr) (c1 : Nat) (l1 : List Int) (a2 : Bool) (a3 : Int) (a4 : Int) (r : List (S69)) (w : World) (hr0_0 : Kd.C k50 w Ap lp.length lp) (hc0_0 : lp.length ≤ cp) (hr0_1 : Kd.C (Kd.int .i64) w Aq lq.length lq) (hc0_1 : lq.length ≤ cq) (hr0_2 : Kd.C (Kd.int .i64) w Ar lr.length lr) (hc0_2 : lr.length ≤ cr) (hr1 : Kd.C (Kd.int .i64) w A1 l1.length l1) (hc1 : l1.length ≤ c1) (h : spec_l18Told.f k lp lq lr l1 a2 a3 a4 = some r) :
  Calls Try.prog 48 #[.agg #[.slice Ap lp.length cp, .slice Aq lq.length cq, .slice Ar lr.length cr], .slice A1 l1.length c1, .bool a2, .int .i64 a3, .int .i64 a4] w fun e w' => ∃ v0_ : Value, e = .returned (v0_) ∧ Kd.R k69 69 w' w.heap.size (fun _ => True) v0_ r ∧ Below w.heap.size w w' := by
 have hu29 := Try.underlying29
 have hu69 := Try.underlying69
 have HR0_0 := mk0 hr0_0
 have HC0_0 := mk0 hc0_0
 clear hr0_0 hc0_0
 have HR0_1 := mk0 hr0_1
 have HC0_1 := mk0 hc0_1
 clear hr0_1 hc0_1
 have HR0_2 := mk0 hr0_2
 have HC0_2 := mk0 hc0_2
 clear hr0_2 hc0_2
 have HR1 := mk0 hr1
 have HC1 := mk0 hc1
 clear hr1 hc1
 have HB := mk0 (Below.refl w.heap.size w)
 have H : (spec_l18Told.l0 k l1 a2 a3 a4 (([] : List (S69))) 0 lp lq lr) = some r := h
 clear h
 obtain ⟨y117, hy117⟩ : ∃ y_ : List (S69), y_ = (([] : List (S69))) := ⟨_, rfl⟩
 replace H : (spec_l18Told.l0 k l1 a2 a3 a4 y117 0 lp lq lr) = some r := by first | (rw [hy117]; with_reducible exact H) | (have H2_ := (Option.bind_some _ _).symm.trans H; rw [hy117]; with_reducible exact H2_) | (have H2_ := (Option.bind_some _ _).symm.trans H; with_reducible exact H2_) | with_reducible exact H | (rw [hy117]; exact H) | exact H
 have Ny117 := mk0 hy117
 clear hy117
 have H' := mk0 H
 clear H
 go_enter Try.func48, Try.ntmps48
 go_wp2_with (first | ((with_reducible refine gate_dst (N := 5) rfl ?_); refine box_event ?hg (N := 5) ?hd (cs := #[.slice Ap lp.length cp, .slice Aq lq.length cq, .slice Ar lr.length cr]) (t := 29) ?hr ?_; (case hd | hg => rfl); (case hr => first | (go_simp; done) | (go_simp; rfl)); intro gb116 hg w6 hbox hb; have n0_ := mk0 (below_step (hA HB.out) hb); have n1_ := mk0 (hbox); have n2_ := mk0 ((by rw [hg]; exact (below_size (hA HB.out)) : w.heap.size ≤ gb116)); have n3_ := mk0 ((by rw [hg]; exact (below_size (hA HB.out)) : w.heap.size ≤ gb116)); clear HB; have HB := n0_; have BK116 := n1_; have GW116 := n2_; have GE116 := n3_; clear n0_ n1_ n2_ n3_; clear hb hbox hg) | ((with_reducible refine gate_dst (N := 15) rfl ?_); refine Kd.R_lit k69 _ 69 ?hg (N := 15) ?hd (xs := ([] : List (S69))) (inner := []) (ok := fun _ => True) (okp := fun _ => True) ?hr ?hp (fun _ hk => hk) trivial (Below.refl _ _) (Nat.le_refl _) (by simp) ?_; (case hd | hg => rfl); (case hr => first | (go_simp; done) | (go_simp; rfl)); (case hp => exact (Reps.none _ _)); intro v118 w7 ho8 hb hg_ hnew_; clear hg_ hnew_; (first | rw [← Ny117.out] at ho8 | (simp only [Int.reduceToNat] at ho8; rw [← Ny117.out] at ho8)); have n0_ := mk0 (Kd.R_lower ho8 (below_size (hA HB.out))); have n1_ := mk0 (bB BK116.out hb); have n2_ := mk0 (below_step (hA HB.out) hb); clear BK116; clear HB; have HO119 := n0_; have BK116 := n1_; have HB := n2_; clear n0_ n1_ n2_; clear hb ho8))
 go_loopg [11, 12] k (fun kq v11 v12 w' => ∃ (x11_1 : List (S69)) (x12_1 : Int), v12 = .int .i64 x12_1 ∧ Aside0 (spec_l18Told.l0 kq l1 a2 a3 a4 x11_1 x12_1 lp lq lr = some r) ∧ Aside0 (kq ≤ k) ∧ Aside0 (Kd.R k69 69 w' w.heap.size (fun _ => True) v11 x11_1) ∧ Aside0 (w'.heap[gb116]? = some (.cells #[(.slice Ap lp.length cp), (.slice Aq lq.length cq), (.slice Ar lr.length cr)] 29 (0, 0))) ∧ Aside0 (Below w.heap.size w w'))
 case atStart => exact ⟨(y117), (0), rs, H', ⟨Nat.le_refl _⟩, ⟨by refine rC (a := ?_); exact HO119.out⟩, ⟨by refine bC (a := ?_); exact BK116.out⟩, ⟨hA HB.out⟩⟩
 case round =>
  clear H'
  (try clear c1); (try clear p2); (try clear c4)
  obtain ⟨x11_1, x12_1, rfl, HA, HK1, HO_11, BK116, HB⟩ := hrel
  cases gk with
  | zero => exact absurd HA.out (by simp [spec_l18Told.l0])
  | succ k1 =>
   have H := HA.out
   clear HA
   simp only [spec_l18Told.l0] at H
   by_cases c9 : x12_1 < (l1.length : Int)
   ·rw [if_pos c9] at H
    have c9b0 : decide (x12_1 < (l1.length : Int)) = true := decide_eq_true c9
    clear c9
    replace H := Option.bind_eq_some_iff.mp H
    obtain ⟨t120, A100, H⟩ := H
    replace H : (if t120 ≥ 0 then (if 0 ≤ x12_1 then (if (rd l1 x12_1) = t120 then (spec_l18Told.l0 k1 l1 a2 a3 a4 x11_1 (wrap64 (x12_1 + 1)) lp lq lr) else (if x11_1.length < 8796093022208 then (spec_l18Told.l0 k1 l1 a2 a3 a4 (x11_1 ++ [(⟨a3, x12_1⟩ : S69)]) (wrap64 (x12_1 + 1)) lp lq lr) else (none))) else (none)) else (spec_l18Told.l0 k1 l1 a2 a3 a4 x11_1 (wrap64 (x12_1 + 1)) lp lq lr)) = some r := H
    have A10 := mk0 A100
    clear A100
    by_cases c11 : t120 ≥ 0
    ·rw [if_pos c11] at H
     have c11b0 : decide (0 ≤ t120) = true := decide_eq_true c11
     clear c11
     by_cases c12 : 0 ≤ x12_1
     ·rw [if_pos c12] at H
      have c12b0 : decide (0 ≤ x12_1) = true := decide_eq_true c12
      clear c12
      by_cases c13 : (rd l1 x12_1) = t120
      ·rw [if_pos c13] at H
       have c13b0 : ((rd l1 x12_1) == t120) = true := beq_iff_eq.mpr c13
       have c13b1 : ((rd l1 x12_1) != t120) = false := bne_eq_false_iff_eq.mpr c13
       clear c13
       have H' := mk0 H
       clear H
       have hcz14_0 : wr.cell? ⟨gb116, 0, none⟩ = some (.slice Ap lp.length cp) := (blk_cell BK116.out 0).trans rfl
       have hcz14_1 : wr.cell? ⟨gb116, 1, none⟩ = some (.slice Aq lq.length cq) := (blk_cell BK116.out 1).trans rfl
       have hcz14_2 : wr.cell? ⟨gb116, 2, none⟩ = some (.slice Ar lr.length cr) := (blk_cell BK116.out 2).trans rfl
       have hfz14_0 := blk_frozen BK116.out 0
       have hfz14_1 := blk_frozen BK116.out 1
       have hfz14_2 := blk_frozen BK116.out 2
       go_wp2_with (first | ((with_reducible refine gate_callee (f := 60) rfl ?_); refine goesL_ (some 25) rfl rfl Try.func60 (by kernel_rfl) rfl #[.agg #[.slice Ap lp.length cp, .slice Aq lq.length cq, .slice Ar lr.length cr], .int .i64 x12_1, .bool a2] rfl ar ?_; (with_reducible refine (spec_l18First.calls k1 _ _ lp _ _ lq _ _ lr x12_1 a2 t120 _ ?side1 ?side2 ?side3 ?side4 ?side5 ?side6 A10.out).mono ?_); (case side1 => exact cA (Kd.C_below HR0_0.out HB.out)); (case side2 => exact HC0_0.out); (case side3 => exact cA (Kd.C_below HR0_1.out HB.out)); (case side4 => exact HC0_1.out); (case side5 => exact cA (Kd.C_below HR0_2.out HB.out)); (case side6 => exact HC0_2.out); rintro e w15 ⟨rfl, hb⟩; refine ⟨_, rfl, ?_⟩; have n0_ := mk0 (Kd.R_below (rA HO_11.out) hb); have n1_ := mk0 (bB BK116.out hb); have n2_ := mk0 (below_step (hA HB.out) hb); clear HO_11; clear BK116; clear HB; have HO_11 := n0_; have BK116 := n1_; have HB := n2_; clear n0_ n1_ n2_; (try clear hb); (try clear hb2); (try clear hk); (try clear hi); have p121 : 0 ≤ (x12_1 : Int) := of_decide_eq_true sm; have q121 : x12_1 < (l1.length : Int) := of_decide_eq_true sm; obtain ⟨ad121, e121, hx121_0⟩ := Kd.at_int HR1.out x12_1 p121 q121; cases e121; replace hx121_0 := (HB.out.cell (World.block_lt_of_cell? w _ hx121_0)).trans hx121_0; replace p121 := eq_true p121; replace q121 := eq_true q121))
       go_roundg k1
       case measure => have := HK1.out; omega
       case rel => exact ⟨(x11_1), (wrap64 (x12_1 + 1)), rs, H', ⟨by have := HK1.out; omega⟩, ⟨by refine rC (a := ?_); exact HO_11.out⟩, ⟨by refine bC (a := ?_); exact BK116.out⟩, ⟨hA HB.out⟩⟩
      ·rw [if_neg c13] at H
       have c13b0 : ((rd l1 x12_1) == t120) = false := beq_eq_false_iff_ne.mpr c13
       have c13b1 : ((rd l1 x12_1) != t120) = true := bne_iff_ne.mpr c13
       by_cases c16 : x11_1.length < 8796093022208
       ·rw [if_pos c16] at H
        have LMc16 := mk0 c16
        clear c16
        obtain ⟨y122, hy122⟩ : ∃ y_ : List (S69), y_ = (x11_1 ++ [(⟨a3, x12_1⟩ : S69)]) := ⟨_, rfl⟩
        replace H : (spec_l18Told.l0 k1 l1 a2 a3 a4 y122 (wrap64 (x12_1 + 1)) lp lq lr) = some r := by first | (rw [hy122]; with_reducible exact H) | (have H2_ := (Option.bind_some _ _).symm.trans H; rw [hy122]; with_reducible exact H2_) | (have H2_ := (Option.bind_some _ _).symm.trans H; with_reducible exact H2_) | with_reducible exact H | (rw [hy122]; exact H) | exact H
        have Ny122 := mk0 hy122
        clear hy122
        have H' := mk0 H
        clear H
        have hcz17_0 : wr.cell? ⟨gb116, 0, none⟩ = some (.slice Ap lp.length cp) := (blk_cell BK116.out 0).trans rfl
        have hcz17_1 : wr.cell? ⟨gb116, 1, none⟩ = some (.slice Aq lq.length cq) := (blk_cell BK116.out 1).trans rfl
        have hcz17_2 : wr.cell? ⟨gb116, 2, none⟩ = some (.slice Ar lr.length cr) := (blk_cell BK116.out 2).trans rfl
        have hfz17_0 := blk_frozen BK116.out 0
        have hfz17_1 := blk_frozen BK116.out 1
        have hfz17_2 := blk_frozen BK116.out 2
        go_wp2_with (first | ((with_reducible refine gate_callee (f := 60) rfl ?_); refine goesL_ (some 25) rfl rfl Try.func60 (by kernel_rfl) rfl #[.agg #[.slice Ap lp.length cp, .slice Aq lq.length cq, .slice Ar lr.length cr], .int .i64 x12_1, .bool a2] rfl ar ?_; (with_reducible refine (spec_l18First.calls k1 _ _ lp _ _ lq _ _ lr x12_1 a2 t120 _ ?side1 ?side2 ?side3 ?side4 ?side5 ?side6 A10.out).mono ?_); (case side1 => exact cA (Kd.C_below HR0_0.out HB.out)); (case side2 => exact HC0_0.out); (case side3 => exact cA (Kd.C_below HR0_1.out HB.out)); (case side4 => exact HC0_1.out); (case side5 => exact cA (Kd.C_below HR0_2.out HB.out)); (case side6 => exact HC0_2.out); rintro e w18 ⟨rfl, hb⟩; refine ⟨_, rfl, ?_⟩; have n0_ := mk0 (Kd.R_below (rA HO_11.out) hb); have n1_ := mk0 (bB BK116.out hb); have n2_ := mk0 (below_step (hA HB.out) hb); clear HO_11; clear BK116; clear HB; have HO_11 := n0_; have BK116 := n1_; have HB := n2_; clear n0_ n1_ n2_; (try clear hb); (try clear hb2); (try clear hk); (try clear hi); have p121 : 0 ≤ (x12_1 : Int) := of_decide_eq_true sm; have q121 : x12_1 < (l1.length : Int) := of_decide_eq_true sm; obtain ⟨ad121, e121, hx121_0⟩ := Kd.at_int HR1.out x12_1 p121 q121; cases e121; replace hx121_0 := (HB.out.cell (World.block_lt_of_cell? w _ hx121_0)).trans hx121_0; replace p121 := eq_true p121; replace q121 := eq_true q121) | ((with_reducible refine gate_builtin (b := .append) (xs := #[.tmp 36, .tmp 40]) rfl ?_); at_builtin; refine Kd.R_append k69 (w0 := w) w.heap.size rfl (.tmp 36) (.tmp 40) 38 69 (.agg #[(.int .i64 0), (.int .i64 0)]) 16 rfl Try.underlying38 info69 rfl (by decide) (by omega) u11 x11_1 (⟨a3, x12_1⟩ : S69) [.int .i64 a3, .int .i64 x12_1] (fun _ => True) (fun _ => False) rfl rfl ?aP (fun _ hk => hk.elim) ?aF ?aO ?aB ?aS ?aL ?_; (case aP => exact k69_mkM _ _ _ (⟨a3, x12_1⟩ : S69)); (case aB => exact (hA HB.out)); (case aF => exact (fun _ _ => trivial)); (case aO => exact (rA HO_11.out)); (case aS => exact (below_size (hA HB.out))); (case aL => have := LMc16.out; omega); intro v123 w19 ho hb hg hat; rw [← Ny122.out] at ho; have n0_ := mk0 (blk_grown (g := gb116) (o := .cells #[.slice Ap lp.length cp, .slice Aq lq.length cq, .slice Ar lr.length cr] 29 (0, 0)) (bA BK116.out) hg (Kd.R_ne HO_11.out BK116.out (by decide))); have n1_ := mk0 (hb); have n2_ := mk0 (ho); clear BK116; clear HB; clear HO_11; have BK116 := n0_; have HB := n1_; have HO124 := n2_; clear n0_ n1_ n2_; clear ho hb hg hat))
        go_roundg k1
        case measure => have := HK1.out; omega
        case rel => exact ⟨(y122), (wrap64 (x12_1 + 1)), rs, H', ⟨by have := HK1.out; omega⟩, ⟨by refine rC (a := ?_); exact HO124.out⟩, ⟨by refine bC (a := ?_); exact BK116.out⟩, ⟨hA HB.out⟩⟩
       ·rw [if_neg c16] at H
        exact absurd H (by simp)
     ·rw [if_neg c12] at H
      exact absurd H (by simp)
    ·rw [if_neg c11] at H
     have c11b0 : decide (0 ≤ t120) = false := decide_eq_false c11
     clear c11
     have H' := mk0 H
     clear H
     have hcz20_0 : wr.cell? ⟨gb116, 0, none⟩ = some (.slice Ap lp.length cp) := (blk_cell BK116.out 0).trans rfl
     have hcz20_1 : wr.cell? ⟨gb116, 1, none⟩ = some (.slice Aq lq.length cq) := (blk_cell BK116.out 1).trans rfl
     have hcz20_2 : wr.cell? ⟨gb116, 2, none⟩ = some (.slice Ar lr.length cr) := (blk_cell BK116.out 2).trans rfl
     have hfz20_0 := blk_frozen BK116.out 0
     have hfz20_1 := blk_frozen BK116.out 1
     have hfz20_2 := blk_frozen BK116.out 2
     go_wp2_with (first | ((with_reducible refine gate_callee (f := 60) rfl ?_); refine goesL_ (some 25) rfl rfl Try.func60 (by kernel_rfl) rfl #[.agg #[.slice Ap lp.length cp, .slice Aq lq.length cq, .slice Ar lr.length cr], .int .i64 x12_1, .bool a2] rfl ar ?_; (with_reducible refine (spec_l18First.calls k1 _ _ lp _ _ lq _ _ lr x12_1 a2 t120 _ ?side1 ?side2 ?side3 ?side4 ?side5 ?side6 A10.out).mono ?_); (case side1 => exact cA (Kd.C_below HR0_0.out HB.out)); (case side2 => exact HC0_0.out); (case side3 => exact cA (Kd.C_below HR0_1.out HB.out)); (case side4 => exact HC0_1.out); (case side5 => exact cA (Kd.C_below HR0_2.out HB.out)); (case side6 => exact HC0_2.out); rintro e w21 ⟨rfl, hb⟩; refine ⟨_, rfl, ?_⟩; have n0_ := mk0 (Kd.R_below (rA HO_11.out) hb); have n1_ := mk0 (bB BK116.out hb); have n2_ := mk0 (below_step (hA HB.out) hb); clear HO_11; clear BK116; clear HB; have HO_11 := n0_; have BK116 := n1_; have HB := n2_; clear n0_ n1_ n2_; (try clear hb); (try clear hb2); (try clear hk); (try clear hi)))
     go_roundg k1
     case measure => have := HK1.out; omega
     case rel => exact ⟨(x11_1), (wrap64 (x12_1 + 1)), rs, H', ⟨by have := HK1.out; omega⟩, ⟨by refine rC (a := ?_); exact HO_11.out⟩, ⟨by refine bC (a := ?_); exact BK116.out⟩, ⟨hA HB.out⟩⟩
   ·rw [if_neg c9] at H
    have c9b0 : decide (x12_1 < (l1.length : Int)) = false := decide_eq_false c9
    clear c9
    have H' := mk0 H
    clear H
    go_wp2
    go_loopg [11, 14] k1 (fun kq v11 v14 w' => ∃ (x11_2 : List (S69)) (x14_2 : Int), v14 = .int .i64 x14_2 ∧ Aside0 (spec_l18Told.l1 kq l1 a2 a4 x11_2 x14_2 lp lq lr = some r) ∧ Aside0 (kq ≤ k1) ∧ Aside0 (Kd.R k69 69 w' w.heap.size (fun _ => True) v11 x11_2) ∧ Aside0 (w'.heap[gb116]? = some (.cells #[(.slice Ap lp.length cp), (.slice Aq lq.length cq), (.slice Ar lr.length cr)] 29 (0, 0))) ∧ Aside0 (Below w.heap.size w w'))
    case atStart => exact ⟨(x11_1), (0), rs, H', ⟨Nat.le_refl _⟩, ⟨by refine rC (a := ?_); exact HO_11.out⟩, ⟨by refine bC (a := ?_); exact BK116.out⟩, ⟨hA HB.out⟩⟩
    case round =>
     clear H'
     (try clear c1); (try clear p1); (try clear q1); (try clear hx1); (try clear p2); (try clear c4); (try clear c6); (try clear p6); (try clear c9); (try clear c9b0); (try clear c11); (try clear c11b0); (try clear c12); (try clear c12b0); (try clear p12); (try clear q12); (try clear hx12); (try clear c13); (try clear c13b0); (try clear c13b1); (try clear c16); (try clear hcz14_0); (try clear hcz14_1); (try clear hcz14_2); (try clear hcz17_0); (try clear hcz17_1); (try clear hcz17_2); (try clear hcz20_0); (try clear hcz20_1); (try clear hcz20_2); (try clear hfz14_0); (try clear hfz14_1); (try clear hfz14_2); (try clear hfz17_0); (try clear hfz17_1); (try clear hfz17_2); (try clear hfz20_0); (try clear hfz20_1); (try clear hfz20_2); (try clear hx121_0); (try clear p121); (try clear p2); (try clear q121)
     obtain ⟨x11_2, x14_2, rfl, HA, HK2, HO_11, BK116, HB⟩ := hrel
     cases gk with
     | zero => exact absurd HA.out (by simp [spec_l18Told.l1])
     | succ k2 =>
      have H := HA.out
      clear HA
      simp only [spec_l18Told.l1] at H
      by_cases c22 : x14_2 < (l1.length : Int)
      ·rw [if_pos c22] at H
       have c22b0 : decide (x14_2 < (l1.length : Int)) = true := decide_eq_true c22
       clear c22
       replace H := Option.bind_eq_some_iff.mp H
       obtain ⟨t125, A230, H⟩ := H
       replace H : (if t125 < 0 then (if 0 ≤ x14_2 then (if (rd l1 x14_2) ≥ 0 then (if x11_2.length < 8796093022208 then (spec_l18Told.l1 k2 l1 a2 a4 (x11_2 ++ [(⟨a4, x14_2⟩ : S69)]) (wrap64 (x14_2 + 1)) lp lq lr) else (none)) else (spec_l18Told.l1 k2 l1 a2 a4 x11_2 (wrap64 (x14_2 + 1)) lp lq lr)) else (none)) else (spec_l18Told.l1 k2 l1 a2 a4 x11_2 (wrap64 (x14_2 + 1)) lp lq lr)) = some r := H
       have A23 := mk0 A230
       clear A230
       by_cases c24 : t125 < 0
       ·rw [if_pos c24] at H
        have c24b0 : decide (t125 < 0) = true := decide_eq_true c24
        clear c24
        by_cases c25 : 0 ≤ x14_2
        ·rw [if_pos c25] at H
         have c25b0 : decide (0 ≤ x14_2) = true := decide_eq_true c25
         clear c25
         by_cases c26 : (rd l1 x14_2) ≥ 0
         ·rw [if_pos c26] at H
          have c26b0 : decide (0 ≤ (rd l1 x14_2)) = true := decide_eq_true c26
          clear c26
          by_cases c27 : x11_2.length < 8796093022208
          ·rw [if_pos c27] at H
           have LMc27 := mk0 c27
           clear c27
           obtain ⟨y127, hy127⟩ : ∃ y_ : List (S69), y_ = (x11_2 ++ [(⟨a4, x14_2⟩ : S69)]) := ⟨_, rfl⟩
           replace H : (spec_l18Told.l1 k2 l1 a2 a4 y127 (wrap64 (x14_2 + 1)) lp lq lr) = some r := by first | (rw [hy127]; with_reducible exact H) | (have H2_ := (Option.bind_some _ _).symm.trans H; rw [hy127]; with_reducible exact H2_) | (have H2_ := (Option.bind_some _ _).symm.trans H; with_reducible exact H2_) | with_reducible exact H | (rw [hy127]; exact H) | exact H
           have Ny127 := mk0 hy127
           clear hy127
           have H' := mk0 H
           clear H
           have hcz28_0 : wr.cell? ⟨gb116, 0, none⟩ = some (.slice Ap lp.length cp) := (blk_cell BK116.out 0).trans rfl
           have hcz28_1 : wr.cell? ⟨gb116, 1, none⟩ = some (.slice Aq lq.length cq) := (blk_cell BK116.out 1).trans rfl
           have hcz28_2 : wr.cell? ⟨gb116, 2, none⟩ = some (.slice Ar lr.length cr) := (blk_cell BK116.out 2).trans rfl
           have hfz28_0 := blk_frozen BK116.out 0
           have hfz28_1 := blk_frozen BK116.out 1
           have hfz28_2 := blk_frozen BK116.out 2
           go_wp2_with (first | ((with_reducible refine gate_callee (f := 60) rfl ?_); refine goesL_ (some 51) rfl rfl Try.func60 (by kernel_rfl) rfl #[.agg #[.slice Ap lp.length cp, .slice Aq lq.length cq, .slice Ar lr.length cr], .int .i64 x14_2, .bool a2] rfl ar ?_; (with_reducible refine (spec_l18First.calls k2 _ _ lp _ _ lq _ _ lr x14_2 a2 t125 _ ?side1 ?side2 ?side3 ?side4 ?side5 ?side6 A23.out).mono ?_); (case side1 => exact cA (Kd.C_below HR0_0.out HB.out)); (case side2 => exact HC0_0.out); (case side3 => exact cA (Kd.C_below HR0_1.out HB.out)); (case side4 => exact HC0_1.out); (case side5 => exact cA (Kd.C_below HR0_2.out HB.out)); (case side6 => exact HC0_2.out); rintro e w29 ⟨rfl, hb⟩; refine ⟨_, rfl, ?_⟩; have n0_ := mk0 (Kd.R_below (rA HO_11.out) hb); have n1_ := mk0 (bB BK116.out hb); have n2_ := mk0 (below_step (hA HB.out) hb); clear HO_11; clear BK116; clear HB; have HO_11 := n0_; have BK116 := n1_; have HB := n2_; clear n0_ n1_ n2_; (try clear hb); (try clear hb2); (try clear hk); (try clear hi); have p126 : 0 ≤ (x14_2 : Int) := of_decide_eq_true sm; have q126 : x14_2 < (l1.length : Int) := of_decide_eq_true sm; obtain ⟨ad126, e126, hx126_0⟩ := Kd.at_int HR1.out x14_2 p126 q126; cases e126; replace hx126_0 := (HB.out.cell (World.block_lt_of_cell? w _ hx126_0)).trans hx126_0; replace p126 := eq_true p126; replace q126 := eq_true q126) | ((with_reducible refine gate_builtin (b := .append) (xs := #[.tmp 60, .tmp 64]) rfl ?_); at_builtin; refine Kd.R_append k69 (w0 := w) w.heap.size rfl (.tmp 60) (.tmp 64) 38 69 (.agg #[(.int .i64 0), (.int .i64 0)]) 16 rfl Try.underlying38 info69 rfl (by decide) (by omega) u11 x11_2 (⟨a4, x14_2⟩ : S69) [.int .i64 a4, .int .i64 x14_2] (fun _ => True) (fun _ => False) rfl rfl ?aP (fun _ hk => hk.elim) ?aF ?aO ?aB ?aS ?aL ?_; (case aP => exact k69_mkM _ _ _ (⟨a4, x14_2⟩ : S69)); (case aB => exact (hA HB.out)); (case aF => exact (fun _ _ => trivial)); (case aO => exact (rA HO_11.out)); (case aS => exact (below_size (hA HB.out))); (case aL => have := LMc27.out; omega); intro v128 w30 ho hb hg hat; rw [← Ny127.out] at ho; have n0_ := mk0 (blk_grown (g := gb116) (o := .cells #[.slice Ap lp.length cp, .slice Aq lq.length cq, .slice Ar lr.length cr] 29 (0, 0)) (bA BK116.out) hg (Kd.R_ne HO_11.out BK116.out (by decide))); have n1_ := mk0 (hb); have n2_ := mk0 (ho); clear BK116; clear HB; clear HO_11; have BK116 := n0_; have HB := n1_; have HO129 := n2_; clear n0_ n1_ n2_; clear ho hb hg hat))
           go_roundg k2
           case measure => have := HK1.out; have := HK2.out; omega
           case rel => exact ⟨(y127), (wrap64 (x14_2 + 1)), rs, H', ⟨by have := HK1.out; have := HK2.out; omega⟩, ⟨by refine rC (a := ?_); exact HO129.out⟩, ⟨by refine bC (a := ?_); exact BK116.out⟩, ⟨hA HB.out⟩⟩
          ·rw [if_neg c27] at H
           exact absurd H (by simp)
         ·rw [if_neg c26] at H
          have c26b0 : decide (0 ≤ (rd l1 x14_2)) = false := decide_eq_false c26
          clear c26
          have H' := mk0 H
          clear H
          have hcz31_0 : wr.cell? ⟨gb116, 0, none⟩ = some (.slice Ap lp.length cp) := (blk_cell BK116.out 0).trans rfl
          have hcz31_1 : wr.cell? ⟨gb116, 1, none⟩ = some (.slice Aq lq.length cq) := (blk_cell BK116.out 1).trans rfl
          have hcz31_2 : wr.cell? ⟨gb116, 2, none⟩ = some (.slice Ar lr.length cr) := (blk_cell BK116.out 2).trans rfl
          have hfz31_0 := blk_frozen BK116.out 0
          have hfz31_1 := blk_frozen BK116.out 1
          have hfz31_2 := blk_frozen BK116.out 2
          go_wp2_with (first | ((with_reducible refine gate_callee (f := 60) rfl ?_); refine goesL_ (some 51) rfl rfl Try.func60 (by kernel_rfl) rfl #[.agg #[.slice Ap lp.length cp, .slice Aq lq.length cq, .slice Ar lr.length cr], .int .i64 x14_2, .bool a2] rfl ar ?_; (with_reducible refine (spec_l18First.calls k2 _ _ lp _ _ lq _ _ lr x14_2 a2 t125 _ ?side1 ?side2 ?side3 ?side4 ?side5 ?side6 A23.out).mono ?_); (case side1 => exact cA (Kd.C_below HR0_0.out HB.out)); (case side2 => exact HC0_0.out); (case side3 => exact cA (Kd.C_below HR0_1.out HB.out)); (case side4 => exact HC0_1.out); (case side5 => exact cA (Kd.C_below HR0_2.out HB.out)); (case side6 => exact HC0_2.out); rintro e w32 ⟨rfl, hb⟩; refine ⟨_, rfl, ?_⟩; have n0_ := mk0 (Kd.R_below (rA HO_11.out) hb); have n1_ := mk0 (bB BK116.out hb); have n2_ := mk0 (below_step (hA HB.out) hb); clear HO_11; clear BK116; clear HB; have HO_11 := n0_; have BK116 := n1_; have HB := n2_; clear n0_ n1_ n2_; (try clear hb); (try clear hb2); (try clear hk); (try clear hi); have p126 : 0 ≤ (x14_2 : Int) := of_decide_eq_true sm; have q126 : x14_2 < (l1.length : Int) := of_decide_eq_true sm; obtain ⟨ad126, e126, hx126_0⟩ := Kd.at_int HR1.out x14_2 p126 q126; cases e126; replace hx126_0 := (HB.out.cell (World.block_lt_of_cell? w _ hx126_0)).trans hx126_0; replace p126 := eq_true p126; replace q126 := eq_true q126))
          go_roundg k2
          case measure => have := HK1.out; have := HK2.out; omega
          case rel => exact ⟨(x11_2), (wrap64 (x14_2 + 1)), rs, H', ⟨by have := HK1.out; have := HK2.out; omega⟩, ⟨by refine rC (a := ?_); exact HO_11.out⟩, ⟨by refine bC (a := ?_); exact BK116.out⟩, ⟨hA HB.out⟩⟩
        ·rw [if_neg c25] at H
         exact absurd H (by simp)
       ·rw [if_neg c24] at H
        have c24b0 : decide (t125 < 0) = false := decide_eq_false c24
        clear c24
        have H' := mk0 H
        clear H
        have hcz33_0 : wr.cell? ⟨gb116, 0, none⟩ = some (.slice Ap lp.length cp) := (blk_cell BK116.out 0).trans rfl
        have hcz33_1 : wr.cell? ⟨gb116, 1, none⟩ = some (.slice Aq lq.length cq) := (blk_cell BK116.out 1).trans rfl
        have hcz33_2 : wr.cell? ⟨gb116, 2, none⟩ = some (.slice Ar lr.length cr) := (blk_cell BK116.out 2).trans rfl
        have hfz33_0 := blk_frozen BK116.out 0
        have hfz33_1 := blk_frozen BK116.out 1
        have hfz33_2 := blk_frozen BK116.out 2
        go_wp2_with (first | ((with_reducible refine gate_callee (f := 60) rfl ?_); refine goesL_ (some 51) rfl rfl Try.func60 (by kernel_rfl) rfl #[.agg #[.slice Ap lp.length cp, .slice Aq lq.length cq, .slice Ar lr.length cr], .int .i64 x14_2, .bool a2] rfl ar ?_; (with_reducible refine (spec_l18First.calls k2 _ _ lp _ _ lq _ _ lr x14_2 a2 t125 _ ?side1 ?side2 ?side3 ?side4 ?side5 ?side6 A23.out).mono ?_); (case side1 => exact cA (Kd.C_below HR0_0.out HB.out)); (case side2 => exact HC0_0.out); (case side3 => exact cA (Kd.C_below HR0_1.out HB.out)); (case side4 => exact HC0_1.out); (case side5 => exact cA (Kd.C_below HR0_2.out HB.out)); (case side6 => exact HC0_2.out); rintro e w34 ⟨rfl, hb⟩; refine ⟨_, rfl, ?_⟩; have n0_ := mk0 (Kd.R_below (rA HO_11.out) hb); have n1_ := mk0 (bB BK116.out hb); have n2_ := mk0 (below_step (hA HB.out) hb); clear HO_11; clear BK116; clear HB; have HO_11 := n0_; have BK116 := n1_; have HB := n2_; clear n0_ n1_ n2_; (try clear hb); (try clear hb2); (try clear hk); (try clear hi)))
        go_roundg k2
        case measure => have := HK1.out; have := HK2.out; omega
        case rel => exact ⟨(x11_2), (wrap64 (x14_2 + 1)), rs, H', ⟨by have := HK1.out; have := HK2.out; omega⟩, ⟨by refine rC (a := ?_); exact HO_11.out⟩, ⟨by refine bC (a := ?_); exact BK116.out⟩, ⟨hA HB.out⟩⟩
      ·rw [if_neg c22] at H
       have c22b0 : decide (x14_2 < (l1.length : Int)) = false := decide_eq_false c22
       clear c22
       obtain rfl := Option.some.inj H
       go_wp2
       go_ret
       exact ⟨_, er, by refine rC (a := ?_); exact HO_11.out, hA HB.out⟩
end Go.Proofs.Ytngnkfpciloamaa.MFnBooked
