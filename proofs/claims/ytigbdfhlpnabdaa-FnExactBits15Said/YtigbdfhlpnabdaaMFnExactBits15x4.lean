/- The functions that the law FnExactBits15 reaches, as plain functions, and that the code comes to them. Begun as a text of the print; turned by wip/openize.py and wip/mend.py. -/
import Derived.Test.YtigbdfhlpnabdaaHandE
import Derived.Test.YtigbdfhlpnabdaaMFnExactBits15x0
import Derived.Test.YtigbdfhlpnabdaaMFnExactBits15x3
namespace Go.Proofs.Ytigbdfhlpnabdaa.MFnExactBits15
open Go.RowKit Go.Proofs.YtigbdfhlpnabdaaW.PrintWords Go.Proofs.YtigbdfhlpnabdaaW.PrintLast Go.Proofs.YtigbdfhlpnabdaaW.PrintMore
attribute [local go_sem] max2_int min2_int max_two min_two max_three min_three max_four min_four   -- for this text's walks alone
set_option linter.unusedVariables false
set_option linter.unusedSimpArgs false

/-! ### spec_Match14: function 24 -/
mutual
def spec_Match14.j0 : Nat → List (S31) → List (S31) → Bool → Nat → Nat → Option (Nat × Nat × Bool)
 | 0, _, _, _, _, _ => none
 | k + 1, x0, x1, x20, x150000, x150001 => if x20 = true then (some (x150000, x150001, false)) else (spec_Match14.l0 k x0 x1 0 x150000 x150001)
def spec_Match14.l0 : Nat → List (S31) → List (S31) → Int → Nat → Nat → Option (Nat × Nat × Bool)
 | 0, _, _, _, _, _ => none
 | k + 1, x0, x1, x7, x150000, x150001 => if x7 < (x0.length : Int) then (if 0 ≤ x7 then ((spec_Widen.f ((rd_T31 x0 x7).f0) ((rd_T31 x0 x7).f1)).bind fun bt152 => (if x7 < (x1.length : Int) then ((spec_l14Bar.f ((rd_T31 x1 x7).f0) ((rd_T31 x1 x7).f1)).bind fun bt155 => ((spec_Widen.f bt155.1 bt155.2).bind fun bt157 => ((spec_MulWide.f bt152.1 bt152.2 bt157.1 bt157.2).bind fun bt159 => (spec_Match14.l0 k x0 x1 (wrap64 (x7 + 1)) (open_add_f64 x150000 bt159.1) (open_add_f64 x150001 bt159.2))))) else (none))) else (none)) else (some (x150000, x150001, true))
end
def spec_Match14.f (k : Nat) (l0 : List (S31)) (l1 : List (S31)) : Option (Nat × Nat × Bool) := if (l0.length : Int) = (l1.length : Int) then ((spec_l1In.f (l0.length : Int) 1 200).bind fun t150 => (spec_Match14.j0 k l0 l1 (!t150) 0 0)) else (spec_Match14.j0 k l0 l1 true 0 0)
theorem spec_Match14.mono_l : ∀ k, (∀ y0 y1 y2 y3 y4, LeO (spec_Match14.j0 k y0 y1 y2 y3 y4) (spec_Match14.j0 (k + 1) y0 y1 y2 y3 y4)) ∧ (∀ y0 y1 y2 y3 y4, LeO (spec_Match14.l0 k y0 y1 y2 y3 y4) (spec_Match14.l0 (k + 1) y0 y1 y2 y3 y4))
 | 0 => ⟨fun _ _ _ _ _ r h => by simp [spec_Match14.j0] at h, fun _ _ _ _ _ r h => by simp [spec_Match14.l0] at h⟩
 | k + 1 => by
  obtain ⟨ih0, ih1⟩ := spec_Match14.mono_l k
  refine ⟨?_, ?_⟩
  ·intro y0 y1 y2 y3 y4
   unfold spec_Match14.j0
   repeat' first
   | (with_reducible exact ih0 _ _ _ _ _)
   | (with_reducible exact ih1 _ _ _ _ _)
   | (with_reducible exact LeO.refl _)
   | (with_reducible exact LeO.none _)
   | (with_reducible refine LeO.ite ?_ ?_)
   | (with_reducible refine LeO.bind ?_ (fun _ => ?_))
   | exact ih0 _ _ _ _ _
   | exact ih1 _ _ _ _ _
   | exact LeO.none _
   | refine LeO.ite ?_ ?_
   | refine LeO.bind ?_ (fun _ => ?_)
  ·intro y0 y1 y2 y3 y4
   unfold spec_Match14.l0
   repeat' first
   | (with_reducible exact ih0 _ _ _ _ _)
   | (with_reducible exact ih1 _ _ _ _ _)
   | (with_reducible exact LeO.refl _)
   | (with_reducible exact LeO.none _)
   | (with_reducible refine LeO.ite ?_ ?_)
   | (with_reducible refine LeO.bind ?_ (fun _ => ?_))
   | exact ih0 _ _ _ _ _
   | exact ih1 _ _ _ _ _
   | exact LeO.none _
   | refine LeO.ite ?_ ?_
   | refine LeO.bind ?_ (fun _ => ?_)
theorem spec_Match14.mono : ∀ a0 a1 k, LeO (spec_Match14.f k a0 a1) (spec_Match14.f (k + 1) a0 a1) := by
 intro a0 a1 k
 obtain ⟨ih0, ih1⟩ := spec_Match14.mono_l k
 unfold spec_Match14.f
 repeat' first
   | (with_reducible exact ih0 _ _ _ _ _)
   | (with_reducible exact ih1 _ _ _ _ _)
   | (with_reducible exact LeO.refl _)
   | (with_reducible exact LeO.none _)
   | (with_reducible refine LeO.ite ?_ ?_)
   | (with_reducible refine LeO.bind ?_ (fun _ => ?_))
   | exact ih0 _ _ _ _ _
   | exact ih1 _ _ _ _ _
   | exact LeO.none _
   | refine LeO.ite ?_ ?_
   | refine LeO.bind ?_ (fun _ => ?_)
def spec_Match14.T7 : Bool × List (List Nat × List Nat) := (true, [([], []), ([], []), ([0, 1], [0, 1]), ([2], [2]), ([3], [3]), ([], []), ([], []), ([5, 6], [5, 6]), ([7], [7]), ([8, 4], [8]), ([9, 9], [9]), ([4, 10, 10], [4, 10]), ([], []), ([12, 11, 11, 0, 1, 2, 3, 4, 5, 6, 7, 8, 9, 10, 11, 12], [11, 12])])
def spec_Match14.B7 : List Nat := [0, 0, 3, 7, 15, 0, 0, 96, 224, 511, 1023, 2047, 0, 8191]
theorem spec_Match14.tab7 : rtab .any (opsOf Try.f24 7) = spec_Match14.T7 := by kernel_rfl
theorem spec_Match14.bits7 : waitsOk spec_Match14.T7.2 spec_Match14.B7 = true := by kernel_rfl
set_option maxHeartbeats 8000000 in
set_option maxRecDepth 100000 in
theorem spec_Match14.calls (k : Nat) (A0 : Option Addr) (c0 : Nat) (l0 : List (S31)) (A1 : Option Addr) (c1 : Nat) (l1 : List (S31)) (r1 : Nat) (r2 : Nat) (r3 : Bool) (w : World) (hr0 : Kd.C k31 w A0 l0.length l0) (hc0 : l0.length ≤ c0) (hr1 : Kd.C k31 w A1 l1.length l1) (hc1 : l1.length ≤ c1) (h : spec_Match14.f k l0 l1 = some (r1, r2, r3)) :
  Calls Try.prog 24 #[.slice A0 l0.length c0, .slice A1 l1.length c1] w fun e w' => ∃ b_r1 b_r2, Aside0 (Fl.cls .f64 b_r1 = Fl.cls .f64 r1) ∧ Aside0 (Fl.cls .f64 b_r2 = Fl.cls .f64 r2) ∧ e = .returned (.tuple #[.agg #[.float .f64 b_r1, .float .f64 b_r2], .bool r3]) ∧ Below w.heap.size w w' := by
 have hu34 := Try.underlying34
 have hu31 := Try.underlying31
 have HR0 := Aside0.mk hr0
 have HC0 := Aside0.mk hc0
 clear hr0 hc0
 have HR1 := Aside0.mk hr1
 have HC1 := Aside0.mk hc1
 clear hr1 hc1
 have HB := Aside0.mk (Below.refl w.heap.size w)
 have H : (if (l0.length : Int) = (l1.length : Int) then ((spec_l1In.f (l0.length : Int) 1 200).bind fun t150 => (spec_Match14.j0 k l0 l1 (!t150) 0 0)) else (spec_Match14.j0 k l0 l1 true 0 0)) = some (r1, r2, r3) := h
 clear h
 have HC3 := Aside0.mk H
 clear H
 go_enter Try.func24, Try.ntmps24
 go_upto_region 2 with (first | ((with_reducible refine gate_dst (N := 4) rfl ?_); (try (refine gate_guard (by rfl) ?_; dsimp only)); refine box_event ?hg (N := 4) ?hd (cs := #[.float .f64 0, .float .f64 0]) (t := 34) ?hr ?_; (case hd => rfl); (case hg => rfl); (case hr => first | (go_simp; done) | (go_simp; rfl)); intro gb148 hg w4 hbox hb; have n0_ := Aside0.mk (below_step (by repeat (first | (with_reducible first | exact HB.out | apply below_alloc | apply pw_below_drewN | apply below_drew1) | exact HB.out)) hb); have n1_ := Aside0.mk (hbox); have n2_ := Aside0.mk ((by rw [hg]; exact (below_size (by repeat (first | (with_reducible first | exact HB.out | apply below_alloc | apply pw_below_drewN | apply below_drew1) | exact HB.out))) : w.heap.size ≤ gb148)); have n3_ := Aside0.mk ((by rw [hg]; exact (below_size (by repeat (first | (with_reducible first | exact HB.out | apply below_alloc | apply pw_below_drewN | apply below_drew1) | exact HB.out))) : w.heap.size ≤ gb148)); clear HB; have HB := n0_; have BK148 := n1_; have GW148 := n2_; have GE148 := n3_; clear n0_ n1_ n2_ n3_; clear hb hbox hg) | ((with_reducible refine gate_dst (N := 6) rfl ?_); (try (refine gate_guard (by rfl) ?_; dsimp only)); refine box_event ?hg (N := 6) ?hd (cs := #[.float .f64 0, .float .f64 0]) (t := 34) ?hr ?_; (case hd => rfl); (case hg => rfl); (case hr => first | (go_simp; done) | (go_simp; rfl)); intro gb149 hg w5 hbox hb; have n0_ := Aside0.mk (blk_below (g := gb148) (o := .cells #[.float .f64 0, .float .f64 0] 34 (0, 0)) (by (with_reducible repeat (first | refine blk_drewN ?_ _ | refine blk_drew ?_ | refine blk_alloc ?_ _)); exact BK148.out) hb); have n1_ := Aside0.mk (below_step (by repeat (first | (with_reducible first | exact HB.out | apply below_alloc | apply pw_below_drewN | apply below_drew1 | refine below_set ?_ GE148.out) | exact HB.out)) hb); have n2_ := Aside0.mk (hbox); have n3_ := Aside0.mk ((by rw [hg]; exact (below_size (by repeat (first | (with_reducible first | exact HB.out | apply below_alloc | apply pw_below_drewN | apply below_drew1 | refine below_set ?_ GE148.out) | exact HB.out))) : w.heap.size ≤ gb149)); have n4_ := Aside0.mk ((by rw [hg]; exact (below_size (by repeat (first | (with_reducible first | exact HB.out | apply below_alloc | apply pw_below_drewN | apply below_drew1 | refine below_set ?_ GE148.out) | exact HB.out))) : w.heap.size ≤ gb149)); have n5_ := Aside0.mk ((by rw [hg]; exact Nat.ne_of_lt (blk_lt (g := gb148) (o := .cells #[.float .f64 0, .float .f64 0] 34 (0, 0)) (by (with_reducible repeat (first | refine blk_drewN ?_ _ | refine blk_drew ?_ | refine blk_alloc ?_ _)); exact BK148.out)) : gb148 ≠ gb149)); have n6_ := Aside0.mk ((by rw [hg]; exact Nat.ne_of_gt (blk_lt (g := gb148) (o := .cells #[.float .f64 0, .float .f64 0] 34 (0, 0)) (by (with_reducible repeat (first | refine blk_drewN ?_ _ | refine blk_drew ?_ | refine blk_alloc ?_ _)); exact BK148.out)) : gb149 ≠ gb148)); clear BK148; clear HB; have BK148 := n0_; have HB := n1_; have BK149 := n2_; have GW149 := n3_; have GE149 := n4_; have NB148_149 := n5_; have NB149_148 := n6_; clear n0_ n1_ n2_ n3_ n4_ n5_ n6_; clear hb hbox hg; have hnb6 := NB149_148.out; have hnc6 := NB148_149.out; have hcz7_0 : w5.cell? ⟨gb149, 0, none⟩ = some (.float .f64 0) := (blk_cell BK149.out 0).trans rfl; have hcz7_1 : w5.cell? ⟨gb149, 1, none⟩ = some (.float .f64 0) := (blk_cell BK149.out 1).trans rfl; have hfz7_0 := blk_frozen BK149.out 0; have hfz7_1 := blk_frozen BK149.out 1))
 (try simp only [Act.put, List.setIfInBounds_toArray, List.set_cons_zero, List.set_cons_succ])
 go_cut [20] (fun v20 wc => ∃ (kq : Nat) (x20_2 : Bool), v20 = .bool x20_2 ∧ Aside0 (spec_Match14.j0 kq l0 l1 x20_2 0 0 = some (r1, r2, r3)) ∧ Aside0 (kq ≤ k) ∧ Aside0 (wc.heap[gb148]? = some (.cells #[.float .f64 0, .float .f64 0] 34 (0, 0))) ∧ Aside0 (wc.heap[gb149]? = some (.cells #[.float .f64 0, .float .f64 0] 34 (0, 0))) ∧ Aside0 (Below w.heap.size w wc))
 case first =>
  have H := HC3.out
  clear HC3
  by_cases c8 : (l0.length : Int) = (l1.length : Int)
  ·rw [if_pos c8] at H
   have c8b0 : ((l0.length : Int) == (l1.length : Int)) = true := beq_iff_eq.mpr c8
   have c8b1 : ((l0.length : Int) != (l1.length : Int)) = false := bne_eq_false_iff_eq.mpr c8
   have c8b2 : (l0.length == l1.length) = true := by first | simpa using c8 | (simp at c8 ⊢; omega)
   clear c8
   (first | rw [c8b0] | (simp only [i64_w, i32_w]; rw [c8b0]) | skip)
   replace H := Option.bind_eq_some_iff.mp H
   obtain ⟨t150, A90, H⟩ := H
   replace H : (spec_Match14.j0 k l0 l1 (!t150) 0 0) = some (r1, r2, r3) := H
   have A9 := Aside0.mk A90
   clear A90
   have H' := Aside0.mk H
   clear H
   go_wp2_with (first | ((with_reducible refine gate_dst (N := 44) rfl ?_); refine Hand.arith_event rfl rfl rfl rfl rfl ?_; intro b_o44 q_o44 h_o44; have hc_o44 : Aside0 (Fl.cls .f64 b_o44 = Fl.cls .f64 (open_add_f64 x150000_2 t159)) := ⟨(h_o44.out.trans (by rw [(hc_x150000_2.out : Fl.cls .f64 b_x150000_2 = Fl.cls .f64 x150000_2), (hc_t159.out : Fl.cls .f64 b_t159 = Fl.cls .f64 t159)])).trans (cls_add64 x150000_2 t159).symm⟩) | ((with_reducible refine gate_dst (N := 49) rfl ?_); refine Hand.arith_event rfl rfl rfl rfl rfl ?_; intro b_o49 q_o49 h_o49; have hc_o49 : Aside0 (Fl.cls .f64 b_o49 = Fl.cls .f64 (open_add_f64 x150001_2 t160)) := ⟨(h_o49.out.trans (by rw [(hc_x150001_2.out : Fl.cls .f64 b_x150001_2 = Fl.cls .f64 x150001_2), (hc_t160.out : Fl.cls .f64 b_t160 = Fl.cls .f64 t160)])).trans (cls_add64 x150001_2 t160).symm⟩) | (go_at_call 48; (with_reducible refine (spec_l1In.calls (l0.length : Int) 1 200 t150 _ A9.out).mono ?_); rintro e w' ⟨rfl, ⟨nd, rfl⟩⟩))
   go_meet
   case rel => exact ⟨_, (!t150), (by first | rfl | (simp; done) | (simp [*]; done)), H', ⟨by first | omega | exact Nat.le_refl _⟩, ⟨by (with_reducible repeat (first | refine blk_drewN ?_ _ | refine blk_drew ?_ | refine blk_alloc ?_ _)); refine blk_far ?_ NB148_149.out _; (with_reducible repeat (first | refine blk_drewN ?_ _ | refine blk_drew ?_ | refine blk_alloc ?_ _)); refine blk_far ?_ NB148_149.out _; (with_reducible repeat (first | refine blk_drewN ?_ _ | refine blk_drew ?_ | refine blk_alloc ?_ _)); exact BK148.out⟩, ⟨by (with_reducible repeat (first | refine blk_drewN ?_ _ | refine blk_drew ?_ | refine blk_alloc ?_ _)); refine blk_put (cs := #[.float .f64 0, .float .f64 0]) ?_ 1 _ rfl; (with_reducible repeat (first | refine blk_drewN ?_ _ | refine blk_drew ?_ | refine blk_alloc ?_ _)); refine blk_put (cs := #[.float .f64 0, .float .f64 0]) ?_ 0 _ rfl; (with_reducible repeat (first | refine blk_drewN ?_ _ | refine blk_drew ?_ | refine blk_alloc ?_ _)); exact BK149.out⟩, ⟨by repeat (first | (with_reducible first | exact HB.out | apply below_alloc | apply pw_below_drewN | apply below_drew1 | refine below_set ?_ GE148.out | refine below_set ?_ GE149.out) | exact HB.out)⟩⟩
  ·rw [if_neg c8] at H
   have c8b0 : ((l0.length : Int) == (l1.length : Int)) = false := beq_eq_false_iff_ne.mpr c8
   have c8b1 : ((l0.length : Int) != (l1.length : Int)) = true := bne_iff_ne.mpr c8
   have c8b2 : (l0.length == l1.length) = false := by first | simpa using c8 | (simp at c8 ⊢; omega)
   (first | rw [c8b0] | (simp only [i64_w, i32_w]; rw [c8b0]) | skip)
   have H' := Aside0.mk H
   clear H
   go_wp2_with (first | ((with_reducible refine gate_dst (N := 44) rfl ?_); refine Hand.arith_event rfl rfl rfl rfl rfl ?_; intro b_o44 q_o44 h_o44; have hc_o44 : Aside0 (Fl.cls .f64 b_o44 = Fl.cls .f64 (open_add_f64 x150000_2 t159)) := ⟨(h_o44.out.trans (by rw [(hc_x150000_2.out : Fl.cls .f64 b_x150000_2 = Fl.cls .f64 x150000_2), (hc_t159.out : Fl.cls .f64 b_t159 = Fl.cls .f64 t159)])).trans (cls_add64 x150000_2 t159).symm⟩) | ((with_reducible refine gate_dst (N := 49) rfl ?_); refine Hand.arith_event rfl rfl rfl rfl rfl ?_; intro b_o49 q_o49 h_o49; have hc_o49 : Aside0 (Fl.cls .f64 b_o49 = Fl.cls .f64 (open_add_f64 x150001_2 t160)) := ⟨(h_o49.out.trans (by rw [(hc_x150001_2.out : Fl.cls .f64 b_x150001_2 = Fl.cls .f64 x150001_2), (hc_t160.out : Fl.cls .f64 b_t160 = Fl.cls .f64 t160)])).trans (cls_add64 x150001_2 t160).symm⟩))
   go_meet
   case rel => exact ⟨_, (true), (by first | rfl | (simp; done) | (simp [*]; done)), H', ⟨by first | omega | exact Nat.le_refl _⟩, ⟨by (with_reducible repeat (first | refine blk_drewN ?_ _ | refine blk_drew ?_ | refine blk_alloc ?_ _)); refine blk_far ?_ NB148_149.out _; (with_reducible repeat (first | refine blk_drewN ?_ _ | refine blk_drew ?_ | refine blk_alloc ?_ _)); refine blk_far ?_ NB148_149.out _; (with_reducible repeat (first | refine blk_drewN ?_ _ | refine blk_drew ?_ | refine blk_alloc ?_ _)); exact BK148.out⟩, ⟨by (with_reducible repeat (first | refine blk_drewN ?_ _ | refine blk_drew ?_ | refine blk_alloc ?_ _)); refine blk_put (cs := #[.float .f64 0, .float .f64 0]) ?_ 1 _ rfl; (with_reducible repeat (first | refine blk_drewN ?_ _ | refine blk_drew ?_ | refine blk_alloc ?_ _)); refine blk_put (cs := #[.float .f64 0, .float .f64 0]) ?_ 0 _ rfl; (with_reducible repeat (first | refine blk_drewN ?_ _ | refine blk_drew ?_ | refine blk_alloc ?_ _)); exact BK149.out⟩, ⟨by repeat (first | (with_reducible first | exact HB.out | apply below_alloc | apply pw_below_drewN | apply below_drew1 | refine below_set ?_ GE148.out | refine below_set ?_ GE149.out) | exact HB.out)⟩⟩
 case rest =>
  clear HC3
  try clear c1
  try clear c2
  try clear p2
  try clear c6
  try clear c8
  try clear c8b0
  try clear c8b1
  try clear c8b2
  try clear hcz7_0
  try clear hcz7_1
  try clear hfz7_0
  try clear hfz7_1
  obtain ⟨kq, x20_2, rfl, HA, HJ2, BK148, BK149, HB⟩ := hcut
  cases kq with
  | zero => exact absurd HA.out (by simp [spec_Match14.j0])
  | succ kj2 =>
   have H := HA.out
   clear HA
   simp only [spec_Match14.j0] at H
   by_cases c10 : x20_2 = true
   ·subst c10
    have H1 : (some (0, 0, false)) = some (r1, r2, r3) := by rw [if_pos rfl] at H; exact H
    clear H
    have H := H1
    clear H1
    simp only [Option.some.injEq, Prod.mk.injEq] at H
    obtain ⟨rfl, rfl, rfl⟩ := H
    have hnb11 := NB149_148.out
    have hnc11 := NB148_149.out
    have hcz12_0 : wc.cell? ⟨gb149, 0, none⟩ = some (.float .f64 0) := (blk_cell BK149.out 0).trans rfl
    have hcz12_1 : wc.cell? ⟨gb149, 1, none⟩ = some (.float .f64 0) := (blk_cell BK149.out 1).trans rfl
    have hfz12_0 := blk_frozen BK149.out 0
    have hfz12_1 := blk_frozen BK149.out 1
    have hcz13_0 : wc.cell? ⟨gb148, 0, none⟩ = some (.float .f64 0) := (blk_cell BK148.out 0).trans rfl
    have hcz13_1 : wc.cell? ⟨gb148, 1, none⟩ = some (.float .f64 0) := (blk_cell BK148.out 1).trans rfl
    have hfz13_0 := blk_frozen BK148.out 0
    have hfz13_1 := blk_frozen BK148.out 1
    go_wp2_with (first | ((with_reducible refine gate_dst (N := 44) rfl ?_); refine Hand.arith_event rfl rfl rfl rfl rfl ?_; intro b_o44 q_o44 h_o44; have hc_o44 : Aside0 (Fl.cls .f64 b_o44 = Fl.cls .f64 (open_add_f64 x150000_2 t159)) := ⟨(h_o44.out.trans (by rw [(hc_x150000_2.out : Fl.cls .f64 b_x150000_2 = Fl.cls .f64 x150000_2), (hc_t159.out : Fl.cls .f64 b_t159 = Fl.cls .f64 t159)])).trans (cls_add64 x150000_2 t159).symm⟩) | ((with_reducible refine gate_dst (N := 49) rfl ?_); refine Hand.arith_event rfl rfl rfl rfl rfl ?_; intro b_o49 q_o49 h_o49; have hc_o49 : Aside0 (Fl.cls .f64 b_o49 = Fl.cls .f64 (open_add_f64 x150001_2 t160)) := ⟨(h_o49.out.trans (by rw [(hc_x150001_2.out : Fl.cls .f64 b_x150001_2 = Fl.cls .f64 x150001_2), (hc_t160.out : Fl.cls .f64 b_t160 = Fl.cls .f64 t160)])).trans (cls_add64 x150001_2 t160).symm⟩))
    refine bodyPost_ret (results_ct rfl _ _ gb148 34 #[.float .f64 0, .float .f64 0] (0, 0) _ rfl (by (with_reducible repeat (first | refine blk_drewN ?_ _ | refine blk_drew ?_ | refine blk_alloc ?_ _)); refine blk_put (cs := #[.float .f64 0, .float .f64 0]) ?_ 1 _ rfl; (with_reducible repeat (first | refine blk_drewN ?_ _ | refine blk_drew ?_ | refine blk_alloc ?_ _)); refine blk_put (cs := #[.float .f64 0, .float .f64 0]) ?_ 0 _ rfl; (with_reducible repeat (first | refine blk_drewN ?_ _ | refine blk_drew ?_ | refine blk_alloc ?_ _)); exact BK148.out) Try.underlying34 rfl (by kernel_rfl)) rfl ?_
    exact ⟨0, 0, ⟨rfl⟩, ⟨rfl⟩, by first | rfl | (simp [errW_none, errW_some] <;> rfl) | (simp [*, errW_none, errW_some] <;> rfl), by repeat (first | (with_reducible first | exact HB.out | apply below_alloc | apply pw_below_drewN | apply below_drew1 | refine below_set ?_ GE148.out | refine below_set ?_ GE149.out) | exact HB.out)⟩
   ·replace c10 := Bool.eq_false_iff.mpr c10
    subst c10
    have H1 : (spec_Match14.l0 kj2 l0 l1 0 0 0) = some (r1, r2, r3) := by rw [if_neg (show ¬ (false = true) by decide)] at H; exact H
    clear H
    have H := H1
    clear H1
    have H' := Aside0.mk H
    clear H
    go_wp2_with (first | ((with_reducible refine gate_dst (N := 44) rfl ?_); refine Hand.arith_event rfl rfl rfl rfl rfl ?_; intro b_o44 q_o44 h_o44; have hc_o44 : Aside0 (Fl.cls .f64 b_o44 = Fl.cls .f64 (open_add_f64 x150000_2 t159)) := ⟨(h_o44.out.trans (by rw [(hc_x150000_2.out : Fl.cls .f64 b_x150000_2 = Fl.cls .f64 x150000_2), (hc_t159.out : Fl.cls .f64 b_t159 = Fl.cls .f64 t159)])).trans (cls_add64 x150000_2 t159).symm⟩) | ((with_reducible refine gate_dst (N := 49) rfl ?_); refine Hand.arith_event rfl rfl rfl rfl rfl ?_; intro b_o49 q_o49 h_o49; have hc_o49 : Aside0 (Fl.cls .f64 b_o49 = Fl.cls .f64 (open_add_f64 x150001_2 t160)) := ⟨(h_o49.out.trans (by rw [(hc_x150001_2.out : Fl.cls .f64 b_x150001_2 = Fl.cls .f64 x150001_2), (hc_t160.out : Fl.cls .f64 b_t160 = Fl.cls .f64 t160)])).trans (cls_add64 x150001_2 t160).symm⟩))
    go_loopg [7] kj2 (fun kq v7 w' => ∃ (x7_2 : Int) (x150000_2 : Nat) (b_x150000_2 : Nat) (x150001_2 : Nat) (b_x150001_2 : Nat), v7 = .int .i64 x7_2 ∧ Aside0 (spec_Match14.l0 kq l0 l1 x7_2 x150000_2 x150001_2 = some (r1, r2, r3)) ∧ Aside0 (kq ≤ kj2) ∧ Aside0 (w'.heap[gb148]? = some (.cells #[.float .f64 0, .float .f64 0] 34 (0, 0))) ∧ Aside0 (w'.heap[gb149]? = some (.cells #[.float .f64 b_x150000_2, .float .f64 b_x150001_2] 34 (0, 0))) ∧ Aside0 (Below w.heap.size w w') ∧ Aside0 (Fl.cls .f64 b_x150000_2 = Fl.cls .f64 x150000_2) ∧ Aside0 (Fl.cls .f64 b_x150001_2 = Fl.cls .f64 x150001_2))
    case atStart => exact ⟨(0), (0), (0), (0), (0), (by first | rfl | (simp; done) | (simp [*]; done)), H', ⟨Nat.le_refl _⟩, ⟨by (with_reducible repeat (first | refine blk_drewN ?_ _ | refine blk_drew ?_ | refine blk_alloc ?_ _)); exact BK148.out⟩, ⟨by (with_reducible repeat (first | refine blk_drewN ?_ _ | refine blk_drew ?_ | refine blk_alloc ?_ _)); exact BK149.out⟩, ⟨by repeat (first | (with_reducible first | exact HB.out | apply below_alloc | apply pw_below_drewN | apply below_drew1 | refine below_set ?_ GE148.out | refine below_set ?_ GE149.out) | exact HB.out)⟩, ⟨rfl⟩, ⟨rfl⟩⟩
    case round =>
     clear H'
     try clear c1
     try clear c2
     try clear p2
     try clear c6
     try clear c8
     try clear c8b0
     try clear c8b1
     try clear c8b2
     try clear c10
     try clear c11
     try clear hcz12_0
     try clear hcz12_1
     try clear hcz13_0
     try clear hcz13_1
     try clear hcz7_0
     try clear hcz7_1
     try clear hfz12_0
     try clear hfz12_1
     try clear hfz13_0
     try clear hfz13_1
     try clear hfz7_0
     try clear hfz7_1
     try clear p2
     obtain ⟨x7_2, x150000_2, b_x150000_2, x150001_2, b_x150001_2, rfl, HA, HK2, BK148, BK149, HB, hc_x150000_2, hc_x150001_2⟩ := hrel
     cases gk with
     | zero => exact absurd HA.out (by simp [spec_Match14.l0])
     | succ k2 =>
      have H := HA.out
      clear HA
      simp only [spec_Match14.l0] at H
      by_cases c14 : x7_2 < (l0.length : Int)
      ·rw [if_pos c14] at H
       have c14b0 : decide (x7_2 < (l0.length : Int)) = true := decide_eq_true c14
       clear c14
       by_cases c15 : 0 ≤ x7_2
       ·rw [if_pos c15] at H
        have c15b0 : decide (0 ≤ x7_2) = true := decide_eq_true c15
        clear c15
        replace H := Option.bind_eq_some_iff.mp H
        obtain ⟨⟨t152, t153⟩, A160, H⟩ := H
        replace H : (if x7_2 < (l1.length : Int) then ((spec_l14Bar.f ((rd_T31 l1 x7_2).f0) ((rd_T31 l1 x7_2).f1)).bind fun bt155 => ((spec_Widen.f bt155.1 bt155.2).bind fun bt157 => ((spec_MulWide.f t152 t153 bt157.1 bt157.2).bind fun bt159 => (spec_Match14.l0 k2 l0 l1 (wrap64 (x7_2 + 1)) (open_add_f64 x150000_2 bt159.1) (open_add_f64 x150001_2 bt159.2))))) else (none)) = some (r1, r2, r3) := H
        have A16 := Aside0.mk A160
        clear A160
        by_cases c17 : x7_2 < (l1.length : Int)
        ·rw [if_pos c17] at H
         have c17b0 : decide (x7_2 < (l1.length : Int)) = true := decide_eq_true c17
         clear c17
         replace H := Option.bind_eq_some_iff.mp H
         obtain ⟨⟨t155, t156⟩, A180, H⟩ := H
         replace H : ((spec_Widen.f t155 t156).bind fun bt157 => ((spec_MulWide.f t152 t153 bt157.1 bt157.2).bind fun bt159 => (spec_Match14.l0 k2 l0 l1 (wrap64 (x7_2 + 1)) (open_add_f64 x150000_2 bt159.1) (open_add_f64 x150001_2 bt159.2)))) = some (r1, r2, r3) := H
         have A18 := Aside0.mk A180
         clear A180
         replace H := Option.bind_eq_some_iff.mp H
         obtain ⟨⟨t157, t158⟩, A190, H⟩ := H
         replace H : ((spec_MulWide.f t152 t153 t157 t158).bind fun bt159 => (spec_Match14.l0 k2 l0 l1 (wrap64 (x7_2 + 1)) (open_add_f64 x150000_2 bt159.1) (open_add_f64 x150001_2 bt159.2))) = some (r1, r2, r3) := H
         have A19 := Aside0.mk A190
         clear A190
         replace H := Option.bind_eq_some_iff.mp H
         obtain ⟨⟨t159, t160⟩, A200, H⟩ := H
         replace H : (spec_Match14.l0 k2 l0 l1 (wrap64 (x7_2 + 1)) (open_add_f64 x150000_2 t159) (open_add_f64 x150001_2 t160)) = some (r1, r2, r3) := H
         have A20 := Aside0.mk A200
         clear A200
         have H' := Aside0.mk H
         clear H
         try go_wp2_with (first | ((with_reducible refine gate_dst (N := 44) rfl ?_); refine Hand.arith_event rfl rfl rfl rfl rfl ?_; intro b_o44 q_o44 h_o44; have hc_o44 : Aside0 (Fl.cls .f64 b_o44 = Fl.cls .f64 (open_add_f64 x150000_2 t159)) := ⟨(h_o44.out.trans (by rw [(hc_x150000_2.out : Fl.cls .f64 b_x150000_2 = Fl.cls .f64 x150000_2), (hc_t159.out : Fl.cls .f64 b_t159 = Fl.cls .f64 t159)])).trans (cls_add64 x150000_2 t159).symm⟩) | ((with_reducible refine gate_dst (N := 49) rfl ?_); refine Hand.arith_event rfl rfl rfl rfl rfl ?_; intro b_o49 q_o49 h_o49; have hc_o49 : Aside0 (Fl.cls .f64 b_o49 = Fl.cls .f64 (open_add_f64 x150001_2 t160)) := ⟨(h_o49.out.trans (by rw [(hc_x150001_2.out : Fl.cls .f64 b_x150001_2 = Fl.cls .f64 x150001_2), (hc_t160.out : Fl.cls .f64 b_t160 = Fl.cls .f64 t160)])).trans (cls_add64 x150001_2 t160).symm⟩))
         have n0_ := Aside0.mk (blk_drew BK148.out)
         have n1_ := Aside0.mk (blk_drew BK149.out)
         have n2_ := Aside0.mk (below_drew1 HB.out)
         clear BK148
         clear BK149
         clear HB
         have BK148 := n0_
         have BK149 := n1_
         have HB := n2_
         clear n0_ n1_ n2_
         have p151 : 0 ≤ (x7_2 : Int) := of_decide_eq_true (by first | (with_reducible assumption) | assumption)
         have q151 : x7_2 < (l0.length : Int) := of_decide_eq_true (by first | (with_reducible assumption) | assumption)
         obtain ⟨ad151, e151, hx151_0, hx151_1⟩ := at_T31 HR0.out x7_2 p151 q151
         have hw151_1 := hx151_1
         have hw151_0 := hx151_0
         cases e151
         try (replace hx151_0 := (HB.out.cell (World.block_lt_of_cell? w _ hx151_0)).trans hx151_0)
         try (replace hx151_1 := (HB.out.cell (World.block_lt_of_cell? w _ hx151_1)).trans hx151_1)
         replace p151 := eq_true p151
         replace q151 := eq_true q151
         have p154 : 0 ≤ (x7_2 : Int) := of_decide_eq_true (by first | (with_reducible assumption) | assumption)
         have q154 : x7_2 < (l1.length : Int) := of_decide_eq_true (by first | (with_reducible assumption) | assumption)
         obtain ⟨ad154, e154, hx154_0, hx154_1⟩ := at_T31 HR1.out x7_2 p154 q154
         have hw154_1 := hx154_1
         have hw154_0 := hx154_0
         cases e154
         try (replace hx154_0 := (HB.out.cell (World.block_lt_of_cell? w _ hx154_0)).trans hx154_0)
         try (replace hx154_1 := (HB.out.cell (World.block_lt_of_cell? w _ hx154_1)).trans hx154_1)
         replace p154 := eq_true p154
         replace q154 := eq_true q154
         refine start_ (n := 14) (S := fun w' => w'.cell? (ad151.add ((x7_2).toNat * 2)) = some (.float .f32 ((rd_T31 l0 x7_2).f0)) ∧ w'.cell? ⟨(ad151.add ((x7_2).toNat * 2)).block, (ad151.add ((x7_2).toNat * 2)).off + 1, none⟩ = some (.float .f32 ((rd_T31 l0 x7_2).f1)) ∧ w'.cell? (ad154.add ((x7_2).toNat * 2)) = some (.float .f32 ((rd_T31 l1 x7_2).f0)) ∧ w'.cell? ⟨(ad154.add ((x7_2).toNat * 2)).block, (ad154.add ((x7_2).toNat * 2)).off + 1, none⟩ = some (.float .f32 ((rd_T31 l1 x7_2).f1))) (ds := []) #[false, false, false, false, false, false, false, false, false, false, false, false, false, false] (by kernel_rfl) rfl rfl ⟨((HB.out.cell (World.block_lt_of_cell? w _ hw151_0)).trans hw151_0), ((HB.out.cell (World.block_lt_of_cell? w _ hw151_1)).trans hw151_1), ((HB.out.cell (World.block_lt_of_cell? w _ hw154_0)).trans hw154_0), ((HB.out.cell (World.block_lt_of_cell? w _ hw154_1)).trans hw154_1)⟩ (fun hHeld => ?_); refine with_tabW spec_Match14.tab7 spec_Match14.bits7 (fun HT_ HW_ => ?_)
         generalize wr.drew = w21 at BK148 BK149 HB hx151_0 hx151_1 hx154_0 hx154_1 hHeld ⊢
         refine pure_ (i := 0) (N := some 28) (v := ?_) (a' := ?_) #[true, false, false, false, false, false, false, false, false, false, false, false, false, false] rfl rfl (any_of HT_.out (by kernel_rfl)) (fun _ _ _ h => h) (Or.inl ⟨by rfl, ?_⟩) ?_ ?_
         rotate_left
         ·intro w'
          go_simp
          with_reducible rfl
         rotate_left
         ·simp only [Act.put, List.setIfInBounds_toArray, List.set_cons_zero, List.set_cons_succ, i64_w, i32_w]
          rfl
         refine pure_ (i := 1) (N := some 29) (v := ?_) (a' := ?_) #[true, true, false, false, false, false, false, false, false, false, false, false, false, false] rfl rfl (any_of HT_.out (by kernel_rfl)) (fun _ _ _ h => h) (Or.inl ⟨by rfl, ?_⟩) ?_ ?_
         rotate_left
         ·intro w'
          go_simp
          with_reducible rfl
         rotate_left
         ·simp only [Act.put, List.setIfInBounds_toArray, List.set_cons_zero, List.set_cons_succ, i64_w, i32_w]
          rfl
         refine pure_ (i := 2) (N := some 30) (v := ?_) (a' := ?_) #[true, true, true, false, false, false, false, false, false, false, false, false, false, false] rfl rfl (any_of HT_.out (by kernel_rfl)) (fun _ _ _ h => h) (Or.inl ⟨by rfl, ?_⟩) ?_ ?_
         rotate_left
         ·intro w'
          go_simp
          with_reducible rfl
         rotate_left
         ·simp only [Act.put, List.setIfInBounds_toArray, List.set_cons_zero, List.set_cons_succ, i64_w, i32_w]
          rfl
         refine pure_ (i := 5) (N := some 33) (v := ?_) (a' := ?_) #[true, true, true, false, false, true, false, false, false, false, false, false, false, false] rfl rfl (any_of HT_.out (by kernel_rfl)) (fun _ _ _ h => h) (Or.inl ⟨by rfl, ?_⟩) ?_ ?_
         rotate_left
         ·intro w'
          go_simp
          with_reducible rfl
         rotate_left
         ·simp only [Act.put, List.setIfInBounds_toArray, List.set_cons_zero, List.set_cons_succ, i64_w, i32_w]
          rfl
         refine pure_ (i := 6) (N := some 34) (v := ?_) (a' := ?_) #[true, true, true, false, false, true, true, false, false, false, false, false, false, false] rfl rfl (any_of HT_.out (by kernel_rfl)) (fun _ _ _ h => h) (Or.inl ⟨by rfl, ?_⟩) ?_ ?_
         rotate_left
         ·intro w'
          go_simp
          with_reducible rfl
         rotate_left
         ·simp only [Act.put, List.setIfInBounds_toArray, List.set_cons_zero, List.set_cons_succ, i64_w, i32_w]
          rfl
         refine pure_ (i := 7) (N := some 35) (v := ?_) (a' := ?_) #[true, true, true, false, false, true, true, true, false, false, false, false, false, false] rfl rfl (any_of HT_.out (by kernel_rfl)) (fun _ _ _ h => h) (Or.inl ⟨by rfl, ?_⟩) ?_ ?_
         rotate_left
         ·intro w'
          go_simp
          with_reducible rfl
         rotate_left
         ·simp only [Act.put, List.setIfInBounds_toArray, List.set_cons_zero, List.set_cons_succ, i64_w, i32_w]
          rfl
         refine take_ (i := 3) (N := some 31) (v := ?_) (a' := ?_) #[true, true, true, true, false, true, true, true, false, false, false, false, false, false] rfl rfl (take_ofW HT_.out HW_.out (by kernel_rfl)) (fun _ _ _ h => h) (Or.inl ⟨by rfl, ?_⟩) hHeld ?_ ?_
         rotate_left
         ·rintro w' ⟨s0, s1, s2, s3⟩
          go_simp
          with_reducible rfl
         rotate_left
         ·simp only [Act.put, List.setIfInBounds_toArray, List.set_cons_zero, List.set_cons_succ, i64_w, i32_w]
          rfl
         refine take_ (i := 8) (N := some 36) (v := ?_) (a' := ?_) #[true, true, true, true, false, true, true, true, true, false, false, false, false, false] rfl rfl (take_ofW HT_.out HW_.out (by kernel_rfl)) (fun _ _ _ h => h) (Or.inl ⟨by rfl, ?_⟩) hHeld ?_ ?_
         rotate_left
         ·rintro w' ⟨s0, s1, s2, s3⟩
          go_simp
          with_reducible rfl
         rotate_left
         ·simp only [Act.put, List.setIfInBounds_toArray, List.set_cons_zero, List.set_cons_succ, i64_w, i32_w]
          rfl
         refine join_ (σ := Nat × Nat × Nat × Nat × Nat × Nat × Nat) 1 #[true, true, true, true, true, true, true, true, true, true, true, true, true, false] (fun s_ => [(32, .agg #[.float .f64 s_.2.1, .float .f64 s_.2.2.1]), (37, .agg #[.float .f32 t155, .float .f32 t156]), (38, .agg #[.float .f64 s_.2.2.2.1, .float .f64 s_.2.2.2.2.1]), (39, .agg #[.float .f64 s_.2.2.2.2.2.1, .float .f64 s_.2.2.2.2.2.2]), (8, .pointer (some ⟨s_.1, 0, none⟩))]) (fun s_ w' => (w'.cell? (ad151.add ((x7_2).toNat * 2)) = some (.float .f32 ((rd_T31 l0 x7_2).f0)) ∧ w'.cell? ⟨(ad151.add ((x7_2).toNat * 2)).block, (ad151.add ((x7_2).toNat * 2)).off + 1, none⟩ = some (.float .f32 ((rd_T31 l0 x7_2).f1)) ∧ w'.cell? (ad154.add ((x7_2).toNat * 2)) = some (.float .f32 ((rd_T31 l1 x7_2).f0)) ∧ w'.cell? ⟨(ad154.add ((x7_2).toNat * 2)).block, (ad154.add ((x7_2).toNat * 2)).off + 1, none⟩ = some (.float .f32 ((rd_T31 l1 x7_2).f1))) ∧ (w'.heap[gb148]? = some (.cells #[.float .f64 0, .float .f64 0] 34 (0, 0))) ∧ (w'.heap[gb149]? = some (.cells #[.float .f64 b_x150000_2, .float .f64 b_x150001_2] 34 (0, 0))) ∧ (w'.heap[s_.1]? = some (.cells #[.float .f64 0, .float .f64 0] 34 (0, 0))) ∧ (w.heap.size ≤ s_.1) ∧ (w.heap.size ≤ s_.1) ∧ (gb148 ≠ s_.1) ∧ (s_.1 ≠ gb148) ∧ (gb149 ≠ s_.1) ∧ (s_.1 ≠ gb149) ∧ (Below w.heap.size w w') ∧ (Aside0 (Fl.cls .f64 s_.2.1 = Fl.cls .f64 t152)) ∧ (Aside0 (Fl.cls .f64 s_.2.2.1 = Fl.cls .f64 t153)) ∧ (Aside0 (Fl.cls .f64 s_.2.2.2.1 = Fl.cls .f64 t157)) ∧ (Aside0 (Fl.cls .f64 s_.2.2.2.2.1 = Fl.cls .f64 t158)) ∧ (Aside0 (Fl.cls .f64 s_.2.2.2.2.2.1 = Fl.cls .f64 t159)) ∧ (Aside0 (Fl.cls .f64 s_.2.2.2.2.2.2 = Fl.cls .f64 t160))) ?_ ?_
         rotate_left
         ·intro hJ4_9_10_11_12
          refine join_ (σ := Unit × Nat × Nat × Nat × Nat × Nat × Nat) 2 #[true, true, true, true, true, true, true, true, true, true, true, true, false, false] (fun s_ => [(32, .agg #[.float .f64 s_.2.1, .float .f64 s_.2.2.1]), (37, .agg #[.float .f32 t155, .float .f32 t156]), (38, .agg #[.float .f64 s_.2.2.2.1, .float .f64 s_.2.2.2.2.1]), (39, .agg #[.float .f64 s_.2.2.2.2.2.1, .float .f64 s_.2.2.2.2.2.2])]) (fun s_ w' => (w'.cell? (ad151.add ((x7_2).toNat * 2)) = some (.float .f32 ((rd_T31 l0 x7_2).f0)) ∧ w'.cell? ⟨(ad151.add ((x7_2).toNat * 2)).block, (ad151.add ((x7_2).toNat * 2)).off + 1, none⟩ = some (.float .f32 ((rd_T31 l0 x7_2).f1)) ∧ w'.cell? (ad154.add ((x7_2).toNat * 2)) = some (.float .f32 ((rd_T31 l1 x7_2).f0)) ∧ w'.cell? ⟨(ad154.add ((x7_2).toNat * 2)).block, (ad154.add ((x7_2).toNat * 2)).off + 1, none⟩ = some (.float .f32 ((rd_T31 l1 x7_2).f1))) ∧ (w'.heap[gb148]? = some (.cells #[.float .f64 0, .float .f64 0] 34 (0, 0))) ∧ (w'.heap[gb149]? = some (.cells #[.float .f64 b_x150000_2, .float .f64 b_x150001_2] 34 (0, 0))) ∧ (Below w.heap.size w w') ∧ (Aside0 (Fl.cls .f64 s_.2.1 = Fl.cls .f64 t152)) ∧ (Aside0 (Fl.cls .f64 s_.2.2.1 = Fl.cls .f64 t153)) ∧ (Aside0 (Fl.cls .f64 s_.2.2.2.1 = Fl.cls .f64 t157)) ∧ (Aside0 (Fl.cls .f64 s_.2.2.2.2.1 = Fl.cls .f64 t158)) ∧ (Aside0 (Fl.cls .f64 s_.2.2.2.2.2.1 = Fl.cls .f64 t159)) ∧ (Aside0 (Fl.cls .f64 s_.2.2.2.2.2.2 = Fl.cls .f64 t160))) ?_ ?_
          rotate_left
          ·intro hJ4_9_10_11
           refine join_ (σ := Nat × Nat × Nat × Nat × Nat) 2 #[true, true, true, true, true, true, true, true, true, true, true, false, true, false] (fun s_ => [(32, .agg #[.float .f64 s_.2.1, .float .f64 s_.2.2.1]), (37, .agg #[.float .f32 t155, .float .f32 t156]), (38, .agg #[.float .f64 s_.2.2.2.1, .float .f64 s_.2.2.2.2]), (8, .pointer (some ⟨s_.1, 0, none⟩))]) (fun s_ w' => (w'.cell? (ad151.add ((x7_2).toNat * 2)) = some (.float .f32 ((rd_T31 l0 x7_2).f0)) ∧ w'.cell? ⟨(ad151.add ((x7_2).toNat * 2)).block, (ad151.add ((x7_2).toNat * 2)).off + 1, none⟩ = some (.float .f32 ((rd_T31 l0 x7_2).f1)) ∧ w'.cell? (ad154.add ((x7_2).toNat * 2)) = some (.float .f32 ((rd_T31 l1 x7_2).f0)) ∧ w'.cell? ⟨(ad154.add ((x7_2).toNat * 2)).block, (ad154.add ((x7_2).toNat * 2)).off + 1, none⟩ = some (.float .f32 ((rd_T31 l1 x7_2).f1))) ∧ (w'.heap[gb148]? = some (.cells #[.float .f64 0, .float .f64 0] 34 (0, 0))) ∧ (w'.heap[gb149]? = some (.cells #[.float .f64 b_x150000_2, .float .f64 b_x150001_2] 34 (0, 0))) ∧ (w'.heap[s_.1]? = some (.cells #[.float .f64 0, .float .f64 0] 34 (0, 0))) ∧ (w.heap.size ≤ s_.1) ∧ (w.heap.size ≤ s_.1) ∧ (gb148 ≠ s_.1) ∧ (s_.1 ≠ gb148) ∧ (gb149 ≠ s_.1) ∧ (s_.1 ≠ gb149) ∧ (Below w.heap.size w w') ∧ (Aside0 (Fl.cls .f64 s_.2.1 = Fl.cls .f64 t152)) ∧ (Aside0 (Fl.cls .f64 s_.2.2.1 = Fl.cls .f64 t153)) ∧ (Aside0 (Fl.cls .f64 s_.2.2.2.1 = Fl.cls .f64 t157)) ∧ (Aside0 (Fl.cls .f64 s_.2.2.2.2 = Fl.cls .f64 t158))) ?_ ?_
           rotate_left
           ·intro hJ4_9_10_12
            refine join_ (σ := Unit × Nat × Nat × Nat × Nat) 3 #[true, true, true, true, true, true, true, true, true, true, true, false, false, false] (fun s_ => [(32, .agg #[.float .f64 s_.2.1, .float .f64 s_.2.2.1]), (37, .agg #[.float .f32 t155, .float .f32 t156]), (38, .agg #[.float .f64 s_.2.2.2.1, .float .f64 s_.2.2.2.2])]) (fun s_ w' => (w'.cell? (ad151.add ((x7_2).toNat * 2)) = some (.float .f32 ((rd_T31 l0 x7_2).f0)) ∧ w'.cell? ⟨(ad151.add ((x7_2).toNat * 2)).block, (ad151.add ((x7_2).toNat * 2)).off + 1, none⟩ = some (.float .f32 ((rd_T31 l0 x7_2).f1)) ∧ w'.cell? (ad154.add ((x7_2).toNat * 2)) = some (.float .f32 ((rd_T31 l1 x7_2).f0)) ∧ w'.cell? ⟨(ad154.add ((x7_2).toNat * 2)).block, (ad154.add ((x7_2).toNat * 2)).off + 1, none⟩ = some (.float .f32 ((rd_T31 l1 x7_2).f1))) ∧ (w'.heap[gb148]? = some (.cells #[.float .f64 0, .float .f64 0] 34 (0, 0))) ∧ (w'.heap[gb149]? = some (.cells #[.float .f64 b_x150000_2, .float .f64 b_x150001_2] 34 (0, 0))) ∧ (Below w.heap.size w w') ∧ (Aside0 (Fl.cls .f64 s_.2.1 = Fl.cls .f64 t152)) ∧ (Aside0 (Fl.cls .f64 s_.2.2.1 = Fl.cls .f64 t153)) ∧ (Aside0 (Fl.cls .f64 s_.2.2.2.1 = Fl.cls .f64 t157)) ∧ (Aside0 (Fl.cls .f64 s_.2.2.2.2 = Fl.cls .f64 t158))) ?_ ?_
            rotate_left
            ·intro hJ4_9_10
             refine join_ (σ := Nat × Nat × Nat) 3 #[true, true, true, true, true, true, true, true, true, true, false, false, true, false] (fun s_ => [(32, .agg #[.float .f64 s_.2.1, .float .f64 s_.2.2]), (37, .agg #[.float .f32 t155, .float .f32 t156]), (8, .pointer (some ⟨s_.1, 0, none⟩))]) (fun s_ w' => (w'.cell? (ad151.add ((x7_2).toNat * 2)) = some (.float .f32 ((rd_T31 l0 x7_2).f0)) ∧ w'.cell? ⟨(ad151.add ((x7_2).toNat * 2)).block, (ad151.add ((x7_2).toNat * 2)).off + 1, none⟩ = some (.float .f32 ((rd_T31 l0 x7_2).f1)) ∧ w'.cell? (ad154.add ((x7_2).toNat * 2)) = some (.float .f32 ((rd_T31 l1 x7_2).f0)) ∧ w'.cell? ⟨(ad154.add ((x7_2).toNat * 2)).block, (ad154.add ((x7_2).toNat * 2)).off + 1, none⟩ = some (.float .f32 ((rd_T31 l1 x7_2).f1))) ∧ (w'.heap[gb148]? = some (.cells #[.float .f64 0, .float .f64 0] 34 (0, 0))) ∧ (w'.heap[gb149]? = some (.cells #[.float .f64 b_x150000_2, .float .f64 b_x150001_2] 34 (0, 0))) ∧ (w'.heap[s_.1]? = some (.cells #[.float .f64 0, .float .f64 0] 34 (0, 0))) ∧ (w.heap.size ≤ s_.1) ∧ (w.heap.size ≤ s_.1) ∧ (gb148 ≠ s_.1) ∧ (s_.1 ≠ gb148) ∧ (gb149 ≠ s_.1) ∧ (s_.1 ≠ gb149) ∧ (Below w.heap.size w w') ∧ (Aside0 (Fl.cls .f64 s_.2.1 = Fl.cls .f64 t152)) ∧ (Aside0 (Fl.cls .f64 s_.2.2 = Fl.cls .f64 t153))) ?_ ?_
             rotate_left
             ·intro hJ4_9_12
              refine join_ (σ := Unit × Nat × Nat) 4 #[true, true, true, true, true, true, true, true, true, true, false, false, false, false] (fun s_ => [(32, .agg #[.float .f64 s_.2.1, .float .f64 s_.2.2]), (37, .agg #[.float .f32 t155, .float .f32 t156])]) (fun s_ w' => (w'.cell? (ad151.add ((x7_2).toNat * 2)) = some (.float .f32 ((rd_T31 l0 x7_2).f0)) ∧ w'.cell? ⟨(ad151.add ((x7_2).toNat * 2)).block, (ad151.add ((x7_2).toNat * 2)).off + 1, none⟩ = some (.float .f32 ((rd_T31 l0 x7_2).f1)) ∧ w'.cell? (ad154.add ((x7_2).toNat * 2)) = some (.float .f32 ((rd_T31 l1 x7_2).f0)) ∧ w'.cell? ⟨(ad154.add ((x7_2).toNat * 2)).block, (ad154.add ((x7_2).toNat * 2)).off + 1, none⟩ = some (.float .f32 ((rd_T31 l1 x7_2).f1))) ∧ (w'.heap[gb148]? = some (.cells #[.float .f64 0, .float .f64 0] 34 (0, 0))) ∧ (w'.heap[gb149]? = some (.cells #[.float .f64 b_x150000_2, .float .f64 b_x150001_2] 34 (0, 0))) ∧ (Below w.heap.size w w') ∧ (Aside0 (Fl.cls .f64 s_.2.1 = Fl.cls .f64 t152)) ∧ (Aside0 (Fl.cls .f64 s_.2.2 = Fl.cls .f64 t153))) ?_ ?_
              rotate_left
              ·intro hJ4_9
               refine join_ (σ := Nat × Nat × Nat) 4 #[true, true, true, true, true, true, true, true, true, false, false, false, true, false] (fun s_ => [(32, .agg #[.float .f64 s_.2.1, .float .f64 s_.2.2]), (8, .pointer (some ⟨s_.1, 0, none⟩))]) (fun s_ w' => (w'.cell? (ad151.add ((x7_2).toNat * 2)) = some (.float .f32 ((rd_T31 l0 x7_2).f0)) ∧ w'.cell? ⟨(ad151.add ((x7_2).toNat * 2)).block, (ad151.add ((x7_2).toNat * 2)).off + 1, none⟩ = some (.float .f32 ((rd_T31 l0 x7_2).f1)) ∧ w'.cell? (ad154.add ((x7_2).toNat * 2)) = some (.float .f32 ((rd_T31 l1 x7_2).f0)) ∧ w'.cell? ⟨(ad154.add ((x7_2).toNat * 2)).block, (ad154.add ((x7_2).toNat * 2)).off + 1, none⟩ = some (.float .f32 ((rd_T31 l1 x7_2).f1))) ∧ (w'.heap[gb148]? = some (.cells #[.float .f64 0, .float .f64 0] 34 (0, 0))) ∧ (w'.heap[gb149]? = some (.cells #[.float .f64 b_x150000_2, .float .f64 b_x150001_2] 34 (0, 0))) ∧ (w'.heap[s_.1]? = some (.cells #[.float .f64 0, .float .f64 0] 34 (0, 0))) ∧ (w.heap.size ≤ s_.1) ∧ (w.heap.size ≤ s_.1) ∧ (gb148 ≠ s_.1) ∧ (s_.1 ≠ gb148) ∧ (gb149 ≠ s_.1) ∧ (s_.1 ≠ gb149) ∧ (Below w.heap.size w w') ∧ (Aside0 (Fl.cls .f64 s_.2.1 = Fl.cls .f64 t152)) ∧ (Aside0 (Fl.cls .f64 s_.2.2 = Fl.cls .f64 t153))) ?_ ?_
               rotate_left
               ·intro hJ4_12
                refine join_ (σ := Unit × Nat × Nat) 5 #[true, true, true, true, true, true, true, true, true, false, false, false, false, false] (fun s_ => [(32, .agg #[.float .f64 s_.2.1, .float .f64 s_.2.2])]) (fun s_ w' => (w'.cell? (ad151.add ((x7_2).toNat * 2)) = some (.float .f32 ((rd_T31 l0 x7_2).f0)) ∧ w'.cell? ⟨(ad151.add ((x7_2).toNat * 2)).block, (ad151.add ((x7_2).toNat * 2)).off + 1, none⟩ = some (.float .f32 ((rd_T31 l0 x7_2).f1)) ∧ w'.cell? (ad154.add ((x7_2).toNat * 2)) = some (.float .f32 ((rd_T31 l1 x7_2).f0)) ∧ w'.cell? ⟨(ad154.add ((x7_2).toNat * 2)).block, (ad154.add ((x7_2).toNat * 2)).off + 1, none⟩ = some (.float .f32 ((rd_T31 l1 x7_2).f1))) ∧ (w'.heap[gb148]? = some (.cells #[.float .f64 0, .float .f64 0] 34 (0, 0))) ∧ (w'.heap[gb149]? = some (.cells #[.float .f64 b_x150000_2, .float .f64 b_x150001_2] 34 (0, 0))) ∧ (Below w.heap.size w w') ∧ (Aside0 (Fl.cls .f64 s_.2.1 = Fl.cls .f64 t152)) ∧ (Aside0 (Fl.cls .f64 s_.2.2 = Fl.cls .f64 t153))) ?_ ?_
                rotate_left
                ·intro hJ4
                 refine join_ (σ := Nat) 5 #[true, true, true, true, false, true, true, true, true, false, false, false, true, false] (fun s_ => [(8, .pointer (some ⟨s_, 0, none⟩))]) (fun s_ w' => (w'.cell? (ad151.add ((x7_2).toNat * 2)) = some (.float .f32 ((rd_T31 l0 x7_2).f0)) ∧ w'.cell? ⟨(ad151.add ((x7_2).toNat * 2)).block, (ad151.add ((x7_2).toNat * 2)).off + 1, none⟩ = some (.float .f32 ((rd_T31 l0 x7_2).f1)) ∧ w'.cell? (ad154.add ((x7_2).toNat * 2)) = some (.float .f32 ((rd_T31 l1 x7_2).f0)) ∧ w'.cell? ⟨(ad154.add ((x7_2).toNat * 2)).block, (ad154.add ((x7_2).toNat * 2)).off + 1, none⟩ = some (.float .f32 ((rd_T31 l1 x7_2).f1))) ∧ (w'.heap[gb148]? = some (.cells #[.float .f64 0, .float .f64 0] 34 (0, 0))) ∧ (w'.heap[gb149]? = some (.cells #[.float .f64 b_x150000_2, .float .f64 b_x150001_2] 34 (0, 0))) ∧ (w'.heap[s_]? = some (.cells #[.float .f64 0, .float .f64 0] 34 (0, 0))) ∧ (w.heap.size ≤ s_) ∧ (w.heap.size ≤ s_) ∧ (gb148 ≠ s_) ∧ (s_ ≠ gb148) ∧ (gb149 ≠ s_) ∧ (s_ ≠ gb149) ∧ (Below w.heap.size w w')) ?_ ?_
                 rotate_left
                 ·intro hJ12
                  refine two_ (i := 4) (j := 12) (Ni := some 32) (Nj := some 8) #[true, true, true, true, true, true, true, true, true, false, false, false, false, false] #[true, true, true, true, false, true, true, true, true, false, false, false, true, false] rfl rfl rfl rfl (two_of HT_.out (by kernel_rfl)) (by decide) (by decide) (fun K hK => ?_) (fun K hK => ?_)
                  ·skip
                   refine goes_ Try.func38 (by kernel_rfl) rfl #[.agg #[.float .f32 ((rd_T31 l0 x7_2).f0), .float .f32 ((rd_T31 l0 x7_2).f1)]] (by rfl) rfl rfl (by (try simp only [List.map_toArray, List.map_cons, List.map_nil]); first | done | rfl | (simp only [List.length_drop, List.length_take]; rfl)) ?_
                   with_reducible refine (spec_Widen.calls ((rd_T31 l0 x7_2).f0) ((rd_T31 l0 x7_2).f1) ((rd_T31 l0 x7_2).f0) ((rd_T31 l0 x7_2).f1) rfl rfl t152 t153 _ A16.out).mono ?_
                   rintro e w22 ⟨b_t152, b_t153, hc_t152, hc_t153, rfl, hb⟩
                   refine ⟨_, rfl, ?_⟩
                   have n0_ := Aside0.mk (blk_below (g := gb148) (o := .cells #[.float .f64 0, .float .f64 0] 34 (0, 0)) (by (with_reducible repeat (first | refine blk_drewN ?_ _ | refine blk_drew ?_ | refine blk_alloc ?_ _)); exact BK148.out) hb)
                   have n1_ := Aside0.mk (blk_below (g := gb149) (o := .cells #[.float .f64 b_x150000_2, .float .f64 b_x150001_2] 34 (0, 0)) (by (with_reducible repeat (first | refine blk_drewN ?_ _ | refine blk_drew ?_ | refine blk_alloc ?_ _)); exact BK149.out) hb)
                   have n2_ := Aside0.mk (below_step (by repeat (first | (with_reducible first | exact HB.out | apply below_alloc | apply pw_below_drewN | apply below_drew1 | refine below_set ?_ GE148.out | refine below_set ?_ GE149.out) | exact HB.out)) hb)
                   clear BK148
                   clear BK149
                   clear HB
                   have BK148 := n0_
                   have BK149 := n1_
                   have HB := n2_
                   clear n0_ n1_ n2_
                   (try clear hb)
                   (try clear hb2)
                   (try clear hk)
                   (try clear hi)
                   refine hK.out _ _ ⟨((HB.out.cell (World.block_lt_of_cell? w _ hw151_0)).trans hw151_0), ((HB.out.cell (World.block_lt_of_cell? w _ hw151_1)).trans hw151_1), ((HB.out.cell (World.block_lt_of_cell? w _ hw154_0)).trans hw154_0), ((HB.out.cell (World.block_lt_of_cell? w _ hw154_1)).trans hw154_1)⟩ (fun hHeld => ?_)
                   clear hK K
                   refine norm_ (a' := ?_) ?_ ?_
                   rotate_left
                   ·show Act.put _ (some 32) _ = _
                    simp only [Act.put, List.setIfInBounds_toArray, List.set_cons_zero, List.set_cons_succ, i64_w, i32_w]
                    rfl
                   exact norm_ (by first | (simp only [putAll, Act.put, List.setIfInBounds_toArray, List.set_cons_zero, List.set_cons_succ]; done) | (simp only [putAll, Act.put, List.setIfInBounds_toArray, List.set_cons_zero, List.set_cons_succ]; rfl)) (hJ4 ((), b_t152, b_t153) _ ⟨hHeld, (by (with_reducible repeat (first | refine blk_drewN ?_ _ | refine blk_drew ?_ | refine blk_alloc ?_ _)); exact BK148.out), (by (with_reducible repeat (first | refine blk_drewN ?_ _ | refine blk_drew ?_ | refine blk_alloc ?_ _)); exact BK149.out), (by repeat (first | (with_reducible first | exact HB.out | apply below_alloc | apply pw_below_drewN | apply below_drew1 | refine below_set ?_ GE148.out | refine below_set ?_ GE149.out) | exact HB.out)), hc_t152, hc_t153⟩)
                  ·skip
                   refine box_step ?hg (N := 8) ?hd (cs := #[.float .f64 0, .float .f64 0]) (t := 34) ?hr ?_; (case hd => rfl); (case hg => rfl); (case hr => first | (go_simp; done) | (go_simp; rfl))
                   intro gb161 hg w22 hbox hb
                   have n0_ := Aside0.mk (blk_below (g := gb148) (o := .cells #[.float .f64 0, .float .f64 0] 34 (0, 0)) (by (with_reducible repeat (first | refine blk_drewN ?_ _ | refine blk_drew ?_ | refine blk_alloc ?_ _)); exact BK148.out) hb)
                   have n1_ := Aside0.mk (blk_below (g := gb149) (o := .cells #[.float .f64 b_x150000_2, .float .f64 b_x150001_2] 34 (0, 0)) (by (with_reducible repeat (first | refine blk_drewN ?_ _ | refine blk_drew ?_ | refine blk_alloc ?_ _)); exact BK149.out) hb)
                   have n2_ := Aside0.mk (below_step (by repeat (first | (with_reducible first | exact HB.out | apply below_alloc | apply pw_below_drewN | apply below_drew1 | refine below_set ?_ GE148.out | refine below_set ?_ GE149.out) | exact HB.out)) hb)
                   have n3_ := Aside0.mk (hbox)
                   have n4_ := Aside0.mk ((by rw [hg]; exact (below_size (by repeat (first | (with_reducible first | exact HB.out | apply below_alloc | apply pw_below_drewN | apply below_drew1 | refine below_set ?_ GE148.out | refine below_set ?_ GE149.out) | exact HB.out))) : w.heap.size ≤ gb161))
                   have n5_ := Aside0.mk ((by rw [hg]; exact (below_size (by repeat (first | (with_reducible first | exact HB.out | apply below_alloc | apply pw_below_drewN | apply below_drew1 | refine below_set ?_ GE148.out | refine below_set ?_ GE149.out) | exact HB.out))) : w.heap.size ≤ gb161))
                   have n6_ := Aside0.mk ((by rw [hg]; exact Nat.ne_of_lt (blk_lt (g := gb148) (o := .cells #[.float .f64 0, .float .f64 0] 34 (0, 0)) (by (with_reducible repeat (first | refine blk_drewN ?_ _ | refine blk_drew ?_ | refine blk_alloc ?_ _)); exact BK148.out)) : gb148 ≠ gb161))
                   have n7_ := Aside0.mk ((by rw [hg]; exact Nat.ne_of_gt (blk_lt (g := gb148) (o := .cells #[.float .f64 0, .float .f64 0] 34 (0, 0)) (by (with_reducible repeat (first | refine blk_drewN ?_ _ | refine blk_drew ?_ | refine blk_alloc ?_ _)); exact BK148.out)) : gb161 ≠ gb148))
                   have n8_ := Aside0.mk ((by rw [hg]; exact Nat.ne_of_lt (blk_lt (g := gb149) (o := .cells #[.float .f64 b_x150000_2, .float .f64 b_x150001_2] 34 (0, 0)) (by (with_reducible repeat (first | refine blk_drewN ?_ _ | refine blk_drew ?_ | refine blk_alloc ?_ _)); exact BK149.out)) : gb149 ≠ gb161))
                   have n9_ := Aside0.mk ((by rw [hg]; exact Nat.ne_of_gt (blk_lt (g := gb149) (o := .cells #[.float .f64 b_x150000_2, .float .f64 b_x150001_2] 34 (0, 0)) (by (with_reducible repeat (first | refine blk_drewN ?_ _ | refine blk_drew ?_ | refine blk_alloc ?_ _)); exact BK149.out)) : gb161 ≠ gb149))
                   clear BK148
                   clear BK149
                   clear HB
                   have BK148 := n0_
                   have BK149 := n1_
                   have HB := n2_
                   have BK161 := n3_
                   have GW161 := n4_
                   have GE161 := n5_
                   have NB148_161 := n6_
                   have NB161_148 := n7_
                   have NB149_161 := n8_
                   have NB161_149 := n9_
                   clear n0_ n1_ n2_ n3_ n4_ n5_ n6_ n7_ n8_ n9_
                   clear hb hbox hg
                   refine hK.out _ _ ⟨((HB.out.cell (World.block_lt_of_cell? w _ hw151_0)).trans hw151_0), ((HB.out.cell (World.block_lt_of_cell? w _ hw151_1)).trans hw151_1), ((HB.out.cell (World.block_lt_of_cell? w _ hw154_0)).trans hw154_0), ((HB.out.cell (World.block_lt_of_cell? w _ hw154_1)).trans hw154_1)⟩ (fun hHeld => ?_)
                   clear hK K
                   refine norm_ (a' := ?_) ?_ ?_
                   rotate_left
                   ·show Act.put _ (some 8) _ = _
                    simp only [Act.put, List.setIfInBounds_toArray, List.set_cons_zero, List.set_cons_succ, i64_w, i32_w]
                    rfl
                   exact norm_ (by first | (simp only [putAll, Act.put, List.setIfInBounds_toArray, List.set_cons_zero, List.set_cons_succ]; done) | (simp only [putAll, Act.put, List.setIfInBounds_toArray, List.set_cons_zero, List.set_cons_succ]; rfl)) (hJ12 (gb161) _ ⟨hHeld, (by (with_reducible repeat (first | refine blk_drewN ?_ _ | refine blk_drew ?_ | refine blk_alloc ?_ _)); exact BK148.out), (by (with_reducible repeat (first | refine blk_drewN ?_ _ | refine blk_drew ?_ | refine blk_alloc ?_ _)); exact BK149.out), (by (with_reducible repeat (first | refine blk_drewN ?_ _ | refine blk_drew ?_ | refine blk_alloc ?_ _)); exact BK161.out), GW161.out, GE161.out, NB148_161.out, NB161_148.out, NB149_161.out, NB161_149.out, (by repeat (first | (with_reducible first | exact HB.out | apply below_alloc | apply pw_below_drewN | apply below_drew1 | refine below_set ?_ GE148.out | refine below_set ?_ GE149.out | refine below_set ?_ GE161.out) | exact HB.out))⟩)
                 ·skip
                  rintro gb161 w23 ⟨hS_, h0_, h1_, h2_, h3_, h4_, h5_, h6_, h7_, h8_, h9_⟩
                  have n0_ : Aside0 (w23.heap[gb148]? = some (.cells #[.float .f64 0, .float .f64 0] 34 (0, 0))) := ⟨h0_⟩
                  have n1_ : Aside0 (w23.heap[gb149]? = some (.cells #[.float .f64 b_x150000_2, .float .f64 b_x150001_2] 34 (0, 0))) := ⟨h1_⟩
                  have n2_ : Aside0 (w23.heap[gb161]? = some (.cells #[.float .f64 0, .float .f64 0] 34 (0, 0))) := ⟨h2_⟩
                  have n3_ : Aside0 (w.heap.size ≤ gb161) := ⟨h3_⟩
                  have n4_ : Aside0 (w.heap.size ≤ gb161) := ⟨h4_⟩
                  have n5_ : Aside0 (gb148 ≠ gb161) := ⟨h5_⟩
                  have n6_ : Aside0 (gb161 ≠ gb148) := ⟨h6_⟩
                  have n7_ : Aside0 (gb149 ≠ gb161) := ⟨h7_⟩
                  have n8_ : Aside0 (gb161 ≠ gb149) := ⟨h8_⟩
                  have n9_ : Aside0 (Below w.heap.size w w23) := ⟨h9_⟩
                  clear BK148
                  clear BK149
                  clear HB
                  clear h0_ h1_ h2_ h3_ h4_ h5_ h6_ h7_ h8_ h9_
                  have BK148 := n0_
                  have BK149 := n1_
                  have BK161 := n2_
                  have GW161 := n3_
                  have GE161 := n4_
                  have NB148_161 := n5_
                  have NB161_148 := n6_
                  have NB149_161 := n7_
                  have NB161_149 := n8_
                  have HB := n9_
                  clear n0_ n1_ n2_ n3_ n4_ n5_ n6_ n7_ n8_ n9_
                  have hHeld : w23.cell? (ad151.add ((x7_2).toNat * 2)) = some (.float .f32 ((rd_T31 l0 x7_2).f0)) ∧ w23.cell? ⟨(ad151.add ((x7_2).toNat * 2)).block, (ad151.add ((x7_2).toNat * 2)).off + 1, none⟩ = some (.float .f32 ((rd_T31 l0 x7_2).f1)) ∧ w23.cell? (ad154.add ((x7_2).toNat * 2)) = some (.float .f32 ((rd_T31 l1 x7_2).f0)) ∧ w23.cell? ⟨(ad154.add ((x7_2).toNat * 2)).block, (ad154.add ((x7_2).toNat * 2)).off + 1, none⟩ = some (.float .f32 ((rd_T31 l1 x7_2).f1)) := hS_
                  refine norm_ (a' := ?_) ?_ ?_
                  rotate_left
                  ·simp only [putAll, Act.put, List.setIfInBounds_toArray, List.set_cons_zero, List.set_cons_succ]
                   rfl
                  refine one_ (i := 4) (N := some 32) #[true, true, true, true, true, true, true, true, true, false, false, false, true, false] rfl rfl (one_of HT_.out (by kernel_rfl)) (by decide) (fun K hK => ?_)
                  refine goes_ Try.func38 (by kernel_rfl) rfl #[.agg #[.float .f32 ((rd_T31 l0 x7_2).f0), .float .f32 ((rd_T31 l0 x7_2).f1)]] (by rfl) rfl rfl (by (try simp only [List.map_toArray, List.map_cons, List.map_nil]); first | done | rfl | (simp only [List.length_drop, List.length_take]; rfl)) ?_
                  with_reducible refine (spec_Widen.calls ((rd_T31 l0 x7_2).f0) ((rd_T31 l0 x7_2).f1) ((rd_T31 l0 x7_2).f0) ((rd_T31 l0 x7_2).f1) rfl rfl t152 t153 _ A16.out).mono ?_
                  rintro e w24 ⟨b_t152, b_t153, hc_t152, hc_t153, rfl, hb⟩
                  refine ⟨_, rfl, ?_⟩
                  have n0_ := Aside0.mk (blk_below (g := gb148) (o := .cells #[.float .f64 0, .float .f64 0] 34 (0, 0)) (by (with_reducible repeat (first | refine blk_drewN ?_ _ | refine blk_drew ?_ | refine blk_alloc ?_ _)); exact BK148.out) hb)
                  have n1_ := Aside0.mk (blk_below (g := gb149) (o := .cells #[.float .f64 b_x150000_2, .float .f64 b_x150001_2] 34 (0, 0)) (by (with_reducible repeat (first | refine blk_drewN ?_ _ | refine blk_drew ?_ | refine blk_alloc ?_ _)); exact BK149.out) hb)
                  have n2_ := Aside0.mk (blk_below (g := gb161) (o := .cells #[.float .f64 0, .float .f64 0] 34 (0, 0)) (by (with_reducible repeat (first | refine blk_drewN ?_ _ | refine blk_drew ?_ | refine blk_alloc ?_ _)); exact BK161.out) hb)
                  have n3_ := Aside0.mk (below_step (by repeat (first | (with_reducible first | exact HB.out | apply below_alloc | apply pw_below_drewN | apply below_drew1 | refine below_set ?_ GE148.out | refine below_set ?_ GE149.out | refine below_set ?_ GE161.out) | exact HB.out)) hb)
                  clear BK148
                  clear BK149
                  clear BK161
                  clear HB
                  have BK148 := n0_
                  have BK149 := n1_
                  have BK161 := n2_
                  have HB := n3_
                  clear n0_ n1_ n2_ n3_
                  (try clear hb)
                  (try clear hb2)
                  (try clear hk)
                  (try clear hi)
                  refine hK.out _ _ ⟨((HB.out.cell (World.block_lt_of_cell? w _ hw151_0)).trans hw151_0), ((HB.out.cell (World.block_lt_of_cell? w _ hw151_1)).trans hw151_1), ((HB.out.cell (World.block_lt_of_cell? w _ hw154_0)).trans hw154_0), ((HB.out.cell (World.block_lt_of_cell? w _ hw154_1)).trans hw154_1)⟩ (fun hHeld => ?_)
                  clear hK K
                  refine norm_ (a' := ?_) ?_ ?_
                  rotate_left
                  ·show Act.put _ (some 32) _ = _
                   simp only [Act.put, List.setIfInBounds_toArray, List.set_cons_zero, List.set_cons_succ, i64_w, i32_w]
                   rfl
                  exact norm_ (by first | (simp only [putAll, Act.put, List.setIfInBounds_toArray, List.set_cons_zero, List.set_cons_succ]; done) | (simp only [putAll, Act.put, List.setIfInBounds_toArray, List.set_cons_zero, List.set_cons_succ]; rfl)) (hJ4_12 ((gb161), b_t152, b_t153) _ ⟨hHeld, (by (with_reducible repeat (first | refine blk_drewN ?_ _ | refine blk_drew ?_ | refine blk_alloc ?_ _)); exact BK148.out), (by (with_reducible repeat (first | refine blk_drewN ?_ _ | refine blk_drew ?_ | refine blk_alloc ?_ _)); exact BK149.out), (by (with_reducible repeat (first | refine blk_drewN ?_ _ | refine blk_drew ?_ | refine blk_alloc ?_ _)); exact BK161.out), GW161.out, GE161.out, NB148_161.out, NB161_148.out, NB149_161.out, NB161_149.out, (by repeat (first | (with_reducible first | exact HB.out | apply below_alloc | apply pw_below_drewN | apply below_drew1 | refine below_set ?_ GE148.out | refine below_set ?_ GE149.out | refine below_set ?_ GE161.out) | exact HB.out)), hc_t152, hc_t153⟩)
                ·skip
                 rintro ⟨_, b_t152, b_t153⟩ w23 ⟨hS_, h0_, h1_, h2_, hc_t152, hc_t153⟩
                 (try dsimp only at hS_)
                 (try dsimp only at h0_)
                 (try dsimp only at h1_)
                 (try dsimp only at h2_)
                 (try dsimp only at hc_t152)
                 (try dsimp only at hc_t153)
                 (try dsimp only)
                 have n0_ : Aside0 (w23.heap[gb148]? = some (.cells #[.float .f64 0, .float .f64 0] 34 (0, 0))) := ⟨h0_⟩
                 have n1_ : Aside0 (w23.heap[gb149]? = some (.cells #[.float .f64 b_x150000_2, .float .f64 b_x150001_2] 34 (0, 0))) := ⟨h1_⟩
                 have n2_ : Aside0 (Below w.heap.size w w23) := ⟨h2_⟩
                 clear BK148
                 clear BK149
                 clear HB
                 clear h0_ h1_ h2_
                 have BK148 := n0_
                 have BK149 := n1_
                 have HB := n2_
                 clear n0_ n1_ n2_
                 have hHeld : w23.cell? (ad151.add ((x7_2).toNat * 2)) = some (.float .f32 ((rd_T31 l0 x7_2).f0)) ∧ w23.cell? ⟨(ad151.add ((x7_2).toNat * 2)).block, (ad151.add ((x7_2).toNat * 2)).off + 1, none⟩ = some (.float .f32 ((rd_T31 l0 x7_2).f1)) ∧ w23.cell? (ad154.add ((x7_2).toNat * 2)) = some (.float .f32 ((rd_T31 l1 x7_2).f0)) ∧ w23.cell? ⟨(ad154.add ((x7_2).toNat * 2)).block, (ad154.add ((x7_2).toNat * 2)).off + 1, none⟩ = some (.float .f32 ((rd_T31 l1 x7_2).f1)) := hS_
                 refine norm_ (a' := ?_) ?_ ?_
                 rotate_left
                 ·simp only [putAll, Act.put, List.setIfInBounds_toArray, List.set_cons_zero, List.set_cons_succ]
                  rfl
                 refine two_ (i := 9) (j := 12) (Ni := some 37) (Nj := some 8) #[true, true, true, true, true, true, true, true, true, true, false, false, false, false] #[true, true, true, true, true, true, true, true, true, false, false, false, true, false] rfl rfl rfl rfl (two_of HT_.out (by kernel_rfl)) (by decide) (by decide) (fun K hK => ?_) (fun K hK => ?_)
                 ·skip
                  refine goes_ Try.func50 (by kernel_rfl) rfl #[.agg #[.float .f32 ((rd_T31 l1 x7_2).f0), .float .f32 ((rd_T31 l1 x7_2).f1)]] (by rfl) rfl rfl (by (try simp only [List.map_toArray, List.map_cons, List.map_nil]); first | done | rfl | (simp only [List.length_drop, List.length_take]; rfl)) ?_
                  with_reducible refine (spec_l14Bar.calls ((rd_T31 l1 x7_2).f0) ((rd_T31 l1 x7_2).f1) t155 t156 _ A18.out).mono ?_
                  rintro e w24 ⟨rfl, hb⟩
                  refine ⟨_, rfl, ?_⟩
                  have n0_ := Aside0.mk (blk_below (g := gb148) (o := .cells #[.float .f64 0, .float .f64 0] 34 (0, 0)) (by (with_reducible repeat (first | refine blk_drewN ?_ _ | refine blk_drew ?_ | refine blk_alloc ?_ _)); exact BK148.out) hb)
                  have n1_ := Aside0.mk (blk_below (g := gb149) (o := .cells #[.float .f64 b_x150000_2, .float .f64 b_x150001_2] 34 (0, 0)) (by (with_reducible repeat (first | refine blk_drewN ?_ _ | refine blk_drew ?_ | refine blk_alloc ?_ _)); exact BK149.out) hb)
                  have n2_ := Aside0.mk (below_step (by repeat (first | (with_reducible first | exact HB.out | apply below_alloc | apply pw_below_drewN | apply below_drew1 | refine below_set ?_ GE148.out | refine below_set ?_ GE149.out) | exact HB.out)) hb)
                  clear BK148
                  clear BK149
                  clear HB
                  have BK148 := n0_
                  have BK149 := n1_
                  have HB := n2_
                  clear n0_ n1_ n2_
                  (try clear hb)
                  (try clear hb2)
                  (try clear hk)
                  (try clear hi)
                  refine hK.out _ _ ⟨((HB.out.cell (World.block_lt_of_cell? w _ hw151_0)).trans hw151_0), ((HB.out.cell (World.block_lt_of_cell? w _ hw151_1)).trans hw151_1), ((HB.out.cell (World.block_lt_of_cell? w _ hw154_0)).trans hw154_0), ((HB.out.cell (World.block_lt_of_cell? w _ hw154_1)).trans hw154_1)⟩ (fun hHeld => ?_)
                  clear hK K
                  refine norm_ (a' := ?_) ?_ ?_
                  rotate_left
                  ·show Act.put _ (some 37) _ = _
                   simp only [Act.put, List.setIfInBounds_toArray, List.set_cons_zero, List.set_cons_succ, i64_w, i32_w]
                   rfl
                  exact norm_ (by first | (simp only [putAll, Act.put, List.setIfInBounds_toArray, List.set_cons_zero, List.set_cons_succ]; done) | (simp only [putAll, Act.put, List.setIfInBounds_toArray, List.set_cons_zero, List.set_cons_succ]; rfl)) (hJ4_9 ((), b_t152, b_t153) _ ⟨hHeld, (by (with_reducible repeat (first | refine blk_drewN ?_ _ | refine blk_drew ?_ | refine blk_alloc ?_ _)); exact BK148.out), (by (with_reducible repeat (first | refine blk_drewN ?_ _ | refine blk_drew ?_ | refine blk_alloc ?_ _)); exact BK149.out), (by repeat (first | (with_reducible first | exact HB.out | apply below_alloc | apply pw_below_drewN | apply below_drew1 | refine below_set ?_ GE148.out | refine below_set ?_ GE149.out) | exact HB.out)), hc_t152, hc_t153⟩)
                 ·skip
                  refine box_step ?hg (N := 8) ?hd (cs := #[.float .f64 0, .float .f64 0]) (t := 34) ?hr ?_; (case hd => rfl); (case hg => rfl); (case hr => first | (go_simp; done) | (go_simp; rfl))
                  intro gb161 hg w24 hbox hb
                  have n0_ := Aside0.mk (blk_below (g := gb148) (o := .cells #[.float .f64 0, .float .f64 0] 34 (0, 0)) (by (with_reducible repeat (first | refine blk_drewN ?_ _ | refine blk_drew ?_ | refine blk_alloc ?_ _)); exact BK148.out) hb)
                  have n1_ := Aside0.mk (blk_below (g := gb149) (o := .cells #[.float .f64 b_x150000_2, .float .f64 b_x150001_2] 34 (0, 0)) (by (with_reducible repeat (first | refine blk_drewN ?_ _ | refine blk_drew ?_ | refine blk_alloc ?_ _)); exact BK149.out) hb)
                  have n2_ := Aside0.mk (below_step (by repeat (first | (with_reducible first | exact HB.out | apply below_alloc | apply pw_below_drewN | apply below_drew1 | refine below_set ?_ GE148.out | refine below_set ?_ GE149.out) | exact HB.out)) hb)
                  have n3_ := Aside0.mk (hbox)
                  have n4_ := Aside0.mk ((by rw [hg]; exact (below_size (by repeat (first | (with_reducible first | exact HB.out | apply below_alloc | apply pw_below_drewN | apply below_drew1 | refine below_set ?_ GE148.out | refine below_set ?_ GE149.out) | exact HB.out))) : w.heap.size ≤ gb161))
                  have n5_ := Aside0.mk ((by rw [hg]; exact (below_size (by repeat (first | (with_reducible first | exact HB.out | apply below_alloc | apply pw_below_drewN | apply below_drew1 | refine below_set ?_ GE148.out | refine below_set ?_ GE149.out) | exact HB.out))) : w.heap.size ≤ gb161))
                  have n6_ := Aside0.mk ((by rw [hg]; exact Nat.ne_of_lt (blk_lt (g := gb148) (o := .cells #[.float .f64 0, .float .f64 0] 34 (0, 0)) (by (with_reducible repeat (first | refine blk_drewN ?_ _ | refine blk_drew ?_ | refine blk_alloc ?_ _)); exact BK148.out)) : gb148 ≠ gb161))
                  have n7_ := Aside0.mk ((by rw [hg]; exact Nat.ne_of_gt (blk_lt (g := gb148) (o := .cells #[.float .f64 0, .float .f64 0] 34 (0, 0)) (by (with_reducible repeat (first | refine blk_drewN ?_ _ | refine blk_drew ?_ | refine blk_alloc ?_ _)); exact BK148.out)) : gb161 ≠ gb148))
                  have n8_ := Aside0.mk ((by rw [hg]; exact Nat.ne_of_lt (blk_lt (g := gb149) (o := .cells #[.float .f64 b_x150000_2, .float .f64 b_x150001_2] 34 (0, 0)) (by (with_reducible repeat (first | refine blk_drewN ?_ _ | refine blk_drew ?_ | refine blk_alloc ?_ _)); exact BK149.out)) : gb149 ≠ gb161))
                  have n9_ := Aside0.mk ((by rw [hg]; exact Nat.ne_of_gt (blk_lt (g := gb149) (o := .cells #[.float .f64 b_x150000_2, .float .f64 b_x150001_2] 34 (0, 0)) (by (with_reducible repeat (first | refine blk_drewN ?_ _ | refine blk_drew ?_ | refine blk_alloc ?_ _)); exact BK149.out)) : gb161 ≠ gb149))
                  clear BK148
                  clear BK149
                  clear HB
                  have BK148 := n0_
                  have BK149 := n1_
                  have HB := n2_
                  have BK161 := n3_
                  have GW161 := n4_
                  have GE161 := n5_
                  have NB148_161 := n6_
                  have NB161_148 := n7_
                  have NB149_161 := n8_
                  have NB161_149 := n9_
                  clear n0_ n1_ n2_ n3_ n4_ n5_ n6_ n7_ n8_ n9_
                  clear hb hbox hg
                  refine hK.out _ _ ⟨((HB.out.cell (World.block_lt_of_cell? w _ hw151_0)).trans hw151_0), ((HB.out.cell (World.block_lt_of_cell? w _ hw151_1)).trans hw151_1), ((HB.out.cell (World.block_lt_of_cell? w _ hw154_0)).trans hw154_0), ((HB.out.cell (World.block_lt_of_cell? w _ hw154_1)).trans hw154_1)⟩ (fun hHeld => ?_)
                  clear hK K
                  refine norm_ (a' := ?_) ?_ ?_
                  rotate_left
                  ·show Act.put _ (some 8) _ = _
                   simp only [Act.put, List.setIfInBounds_toArray, List.set_cons_zero, List.set_cons_succ, i64_w, i32_w]
                   rfl
                  exact norm_ (by first | (simp only [putAll, Act.put, List.setIfInBounds_toArray, List.set_cons_zero, List.set_cons_succ]; done) | (simp only [putAll, Act.put, List.setIfInBounds_toArray, List.set_cons_zero, List.set_cons_succ]; rfl)) (hJ4_12 ((gb161), b_t152, b_t153) _ ⟨hHeld, (by (with_reducible repeat (first | refine blk_drewN ?_ _ | refine blk_drew ?_ | refine blk_alloc ?_ _)); exact BK148.out), (by (with_reducible repeat (first | refine blk_drewN ?_ _ | refine blk_drew ?_ | refine blk_alloc ?_ _)); exact BK149.out), (by (with_reducible repeat (first | refine blk_drewN ?_ _ | refine blk_drew ?_ | refine blk_alloc ?_ _)); exact BK161.out), GW161.out, GE161.out, NB148_161.out, NB161_148.out, NB149_161.out, NB161_149.out, (by repeat (first | (with_reducible first | exact HB.out | apply below_alloc | apply pw_below_drewN | apply below_drew1 | refine below_set ?_ GE148.out | refine below_set ?_ GE149.out | refine below_set ?_ GE161.out) | exact HB.out)), hc_t152, hc_t153⟩)
               ·skip
                rintro ⟨gb161, b_t152, b_t153⟩ w24 ⟨hS_, h0_, h1_, h2_, h3_, h4_, h5_, h6_, h7_, h8_, h9_, hc_t152, hc_t153⟩
                (try dsimp only at hS_)
                (try dsimp only at h0_)
                (try dsimp only at h1_)
                (try dsimp only at h2_)
                (try dsimp only at h3_)
                (try dsimp only at h4_)
                (try dsimp only at h5_)
                (try dsimp only at h6_)
                (try dsimp only at h7_)
                (try dsimp only at h8_)
                (try dsimp only at h9_)
                (try dsimp only at hc_t152)
                (try dsimp only at hc_t153)
                (try dsimp only)
                have n0_ : Aside0 (w24.heap[gb148]? = some (.cells #[.float .f64 0, .float .f64 0] 34 (0, 0))) := ⟨h0_⟩
                have n1_ : Aside0 (w24.heap[gb149]? = some (.cells #[.float .f64 b_x150000_2, .float .f64 b_x150001_2] 34 (0, 0))) := ⟨h1_⟩
                have n2_ : Aside0 (w24.heap[gb161]? = some (.cells #[.float .f64 0, .float .f64 0] 34 (0, 0))) := ⟨h2_⟩
                have n3_ : Aside0 (w.heap.size ≤ gb161) := ⟨h3_⟩
                have n4_ : Aside0 (w.heap.size ≤ gb161) := ⟨h4_⟩
                have n5_ : Aside0 (gb148 ≠ gb161) := ⟨h5_⟩
                have n6_ : Aside0 (gb161 ≠ gb148) := ⟨h6_⟩
                have n7_ : Aside0 (gb149 ≠ gb161) := ⟨h7_⟩
                have n8_ : Aside0 (gb161 ≠ gb149) := ⟨h8_⟩
                have n9_ : Aside0 (Below w.heap.size w w24) := ⟨h9_⟩
                clear BK148
                clear BK149
                clear HB
                clear h0_ h1_ h2_ h3_ h4_ h5_ h6_ h7_ h8_ h9_
                have BK148 := n0_
                have BK149 := n1_
                have BK161 := n2_
                have GW161 := n3_
                have GE161 := n4_
                have NB148_161 := n5_
                have NB161_148 := n6_
                have NB149_161 := n7_
                have NB161_149 := n8_
                have HB := n9_
                clear n0_ n1_ n2_ n3_ n4_ n5_ n6_ n7_ n8_ n9_
                have hHeld : w24.cell? (ad151.add ((x7_2).toNat * 2)) = some (.float .f32 ((rd_T31 l0 x7_2).f0)) ∧ w24.cell? ⟨(ad151.add ((x7_2).toNat * 2)).block, (ad151.add ((x7_2).toNat * 2)).off + 1, none⟩ = some (.float .f32 ((rd_T31 l0 x7_2).f1)) ∧ w24.cell? (ad154.add ((x7_2).toNat * 2)) = some (.float .f32 ((rd_T31 l1 x7_2).f0)) ∧ w24.cell? ⟨(ad154.add ((x7_2).toNat * 2)).block, (ad154.add ((x7_2).toNat * 2)).off + 1, none⟩ = some (.float .f32 ((rd_T31 l1 x7_2).f1)) := hS_
                refine norm_ (a' := ?_) ?_ ?_
                rotate_left
                ·simp only [putAll, Act.put, List.setIfInBounds_toArray, List.set_cons_zero, List.set_cons_succ]
                 rfl
                refine one_ (i := 9) (N := some 37) #[true, true, true, true, true, true, true, true, true, true, false, false, true, false] rfl rfl (one_of HT_.out (by kernel_rfl)) (by decide) (fun K hK => ?_)
                refine goes_ Try.func50 (by kernel_rfl) rfl #[.agg #[.float .f32 ((rd_T31 l1 x7_2).f0), .float .f32 ((rd_T31 l1 x7_2).f1)]] (by rfl) rfl rfl (by (try simp only [List.map_toArray, List.map_cons, List.map_nil]); first | done | rfl | (simp only [List.length_drop, List.length_take]; rfl)) ?_
                with_reducible refine (spec_l14Bar.calls ((rd_T31 l1 x7_2).f0) ((rd_T31 l1 x7_2).f1) t155 t156 _ A18.out).mono ?_
                rintro e w25 ⟨rfl, hb⟩
                refine ⟨_, rfl, ?_⟩
                have n0_ := Aside0.mk (blk_below (g := gb148) (o := .cells #[.float .f64 0, .float .f64 0] 34 (0, 0)) (by (with_reducible repeat (first | refine blk_drewN ?_ _ | refine blk_drew ?_ | refine blk_alloc ?_ _)); exact BK148.out) hb)
                have n1_ := Aside0.mk (blk_below (g := gb149) (o := .cells #[.float .f64 b_x150000_2, .float .f64 b_x150001_2] 34 (0, 0)) (by (with_reducible repeat (first | refine blk_drewN ?_ _ | refine blk_drew ?_ | refine blk_alloc ?_ _)); exact BK149.out) hb)
                have n2_ := Aside0.mk (blk_below (g := gb161) (o := .cells #[.float .f64 0, .float .f64 0] 34 (0, 0)) (by (with_reducible repeat (first | refine blk_drewN ?_ _ | refine blk_drew ?_ | refine blk_alloc ?_ _)); exact BK161.out) hb)
                have n3_ := Aside0.mk (below_step (by repeat (first | (with_reducible first | exact HB.out | apply below_alloc | apply pw_below_drewN | apply below_drew1 | refine below_set ?_ GE148.out | refine below_set ?_ GE149.out | refine below_set ?_ GE161.out) | exact HB.out)) hb)
                clear BK148
                clear BK149
                clear BK161
                clear HB
                have BK148 := n0_
                have BK149 := n1_
                have BK161 := n2_
                have HB := n3_
                clear n0_ n1_ n2_ n3_
                (try clear hb)
                (try clear hb2)
                (try clear hk)
                (try clear hi)
                refine hK.out _ _ ⟨((HB.out.cell (World.block_lt_of_cell? w _ hw151_0)).trans hw151_0), ((HB.out.cell (World.block_lt_of_cell? w _ hw151_1)).trans hw151_1), ((HB.out.cell (World.block_lt_of_cell? w _ hw154_0)).trans hw154_0), ((HB.out.cell (World.block_lt_of_cell? w _ hw154_1)).trans hw154_1)⟩ (fun hHeld => ?_)
                clear hK K
                refine norm_ (a' := ?_) ?_ ?_
                rotate_left
                ·show Act.put _ (some 37) _ = _
                 simp only [Act.put, List.setIfInBounds_toArray, List.set_cons_zero, List.set_cons_succ, i64_w, i32_w]
                 rfl
                exact norm_ (by first | (simp only [putAll, Act.put, List.setIfInBounds_toArray, List.set_cons_zero, List.set_cons_succ]; done) | (simp only [putAll, Act.put, List.setIfInBounds_toArray, List.set_cons_zero, List.set_cons_succ]; rfl)) (hJ4_9_12 ((gb161), b_t152, b_t153) _ ⟨hHeld, (by (with_reducible repeat (first | refine blk_drewN ?_ _ | refine blk_drew ?_ | refine blk_alloc ?_ _)); exact BK148.out), (by (with_reducible repeat (first | refine blk_drewN ?_ _ | refine blk_drew ?_ | refine blk_alloc ?_ _)); exact BK149.out), (by (with_reducible repeat (first | refine blk_drewN ?_ _ | refine blk_drew ?_ | refine blk_alloc ?_ _)); exact BK161.out), GW161.out, GE161.out, NB148_161.out, NB161_148.out, NB149_161.out, NB161_149.out, (by repeat (first | (with_reducible first | exact HB.out | apply below_alloc | apply pw_below_drewN | apply below_drew1 | refine below_set ?_ GE148.out | refine below_set ?_ GE149.out | refine below_set ?_ GE161.out) | exact HB.out)), hc_t152, hc_t153⟩)
              ·skip
               rintro ⟨_, b_t152, b_t153⟩ w24 ⟨hS_, h0_, h1_, h2_, hc_t152, hc_t153⟩
               (try dsimp only at hS_)
               (try dsimp only at h0_)
               (try dsimp only at h1_)
               (try dsimp only at h2_)
               (try dsimp only at hc_t152)
               (try dsimp only at hc_t153)
               (try dsimp only)
               have n0_ : Aside0 (w24.heap[gb148]? = some (.cells #[.float .f64 0, .float .f64 0] 34 (0, 0))) := ⟨h0_⟩
               have n1_ : Aside0 (w24.heap[gb149]? = some (.cells #[.float .f64 b_x150000_2, .float .f64 b_x150001_2] 34 (0, 0))) := ⟨h1_⟩
               have n2_ : Aside0 (Below w.heap.size w w24) := ⟨h2_⟩
               clear BK148
               clear BK149
               clear HB
               clear h0_ h1_ h2_
               have BK148 := n0_
               have BK149 := n1_
               have HB := n2_
               clear n0_ n1_ n2_
               have hHeld : w24.cell? (ad151.add ((x7_2).toNat * 2)) = some (.float .f32 ((rd_T31 l0 x7_2).f0)) ∧ w24.cell? ⟨(ad151.add ((x7_2).toNat * 2)).block, (ad151.add ((x7_2).toNat * 2)).off + 1, none⟩ = some (.float .f32 ((rd_T31 l0 x7_2).f1)) ∧ w24.cell? (ad154.add ((x7_2).toNat * 2)) = some (.float .f32 ((rd_T31 l1 x7_2).f0)) ∧ w24.cell? ⟨(ad154.add ((x7_2).toNat * 2)).block, (ad154.add ((x7_2).toNat * 2)).off + 1, none⟩ = some (.float .f32 ((rd_T31 l1 x7_2).f1)) := hS_
               refine norm_ (a' := ?_) ?_ ?_
               rotate_left
               ·simp only [putAll, Act.put, List.setIfInBounds_toArray, List.set_cons_zero, List.set_cons_succ]
                rfl
               refine two_ (i := 10) (j := 12) (Ni := some 38) (Nj := some 8) #[true, true, true, true, true, true, true, true, true, true, true, false, false, false] #[true, true, true, true, true, true, true, true, true, true, false, false, true, false] rfl rfl rfl rfl (two_of HT_.out (by kernel_rfl)) (by decide) (by decide) (fun K hK => ?_) (fun K hK => ?_)
               ·skip
                refine goes_ Try.func38 (by kernel_rfl) rfl #[.agg #[.float .f32 t155, .float .f32 t156]] (by rfl) rfl rfl (by (try simp only [List.map_toArray, List.map_cons, List.map_nil]); first | done | rfl | (simp only [List.length_drop, List.length_take]; rfl)) ?_
                with_reducible refine (spec_Widen.calls t155 t156 t155 t156 rfl rfl t157 t158 _ A19.out).mono ?_
                rintro e w25 ⟨b_t157, b_t158, hc_t157, hc_t158, rfl, hb⟩
                refine ⟨_, rfl, ?_⟩
                have n0_ := Aside0.mk (blk_below (g := gb148) (o := .cells #[.float .f64 0, .float .f64 0] 34 (0, 0)) (by (with_reducible repeat (first | refine blk_drewN ?_ _ | refine blk_drew ?_ | refine blk_alloc ?_ _)); exact BK148.out) hb)
                have n1_ := Aside0.mk (blk_below (g := gb149) (o := .cells #[.float .f64 b_x150000_2, .float .f64 b_x150001_2] 34 (0, 0)) (by (with_reducible repeat (first | refine blk_drewN ?_ _ | refine blk_drew ?_ | refine blk_alloc ?_ _)); exact BK149.out) hb)
                have n2_ := Aside0.mk (below_step (by repeat (first | (with_reducible first | exact HB.out | apply below_alloc | apply pw_below_drewN | apply below_drew1 | refine below_set ?_ GE148.out | refine below_set ?_ GE149.out) | exact HB.out)) hb)
                clear BK148
                clear BK149
                clear HB
                have BK148 := n0_
                have BK149 := n1_
                have HB := n2_
                clear n0_ n1_ n2_
                (try clear hb)
                (try clear hb2)
                (try clear hk)
                (try clear hi)
                refine hK.out _ _ ⟨((HB.out.cell (World.block_lt_of_cell? w _ hw151_0)).trans hw151_0), ((HB.out.cell (World.block_lt_of_cell? w _ hw151_1)).trans hw151_1), ((HB.out.cell (World.block_lt_of_cell? w _ hw154_0)).trans hw154_0), ((HB.out.cell (World.block_lt_of_cell? w _ hw154_1)).trans hw154_1)⟩ (fun hHeld => ?_)
                clear hK K
                refine norm_ (a' := ?_) ?_ ?_
                rotate_left
                ·show Act.put _ (some 38) _ = _
                 simp only [Act.put, List.setIfInBounds_toArray, List.set_cons_zero, List.set_cons_succ, i64_w, i32_w]
                 rfl
                exact norm_ (by first | (simp only [putAll, Act.put, List.setIfInBounds_toArray, List.set_cons_zero, List.set_cons_succ]; done) | (simp only [putAll, Act.put, List.setIfInBounds_toArray, List.set_cons_zero, List.set_cons_succ]; rfl)) (hJ4_9_10 ((), b_t152, b_t153, b_t157, b_t158) _ ⟨hHeld, (by (with_reducible repeat (first | refine blk_drewN ?_ _ | refine blk_drew ?_ | refine blk_alloc ?_ _)); exact BK148.out), (by (with_reducible repeat (first | refine blk_drewN ?_ _ | refine blk_drew ?_ | refine blk_alloc ?_ _)); exact BK149.out), (by repeat (first | (with_reducible first | exact HB.out | apply below_alloc | apply pw_below_drewN | apply below_drew1 | refine below_set ?_ GE148.out | refine below_set ?_ GE149.out) | exact HB.out)), hc_t152, hc_t153, hc_t157, hc_t158⟩)
               ·skip
                refine box_step ?hg (N := 8) ?hd (cs := #[.float .f64 0, .float .f64 0]) (t := 34) ?hr ?_; (case hd => rfl); (case hg => rfl); (case hr => first | (go_simp; done) | (go_simp; rfl))
                intro gb161 hg w25 hbox hb
                have n0_ := Aside0.mk (blk_below (g := gb148) (o := .cells #[.float .f64 0, .float .f64 0] 34 (0, 0)) (by (with_reducible repeat (first | refine blk_drewN ?_ _ | refine blk_drew ?_ | refine blk_alloc ?_ _)); exact BK148.out) hb)
                have n1_ := Aside0.mk (blk_below (g := gb149) (o := .cells #[.float .f64 b_x150000_2, .float .f64 b_x150001_2] 34 (0, 0)) (by (with_reducible repeat (first | refine blk_drewN ?_ _ | refine blk_drew ?_ | refine blk_alloc ?_ _)); exact BK149.out) hb)
                have n2_ := Aside0.mk (below_step (by repeat (first | (with_reducible first | exact HB.out | apply below_alloc | apply pw_below_drewN | apply below_drew1 | refine below_set ?_ GE148.out | refine below_set ?_ GE149.out) | exact HB.out)) hb)
                have n3_ := Aside0.mk (hbox)
                have n4_ := Aside0.mk ((by rw [hg]; exact (below_size (by repeat (first | (with_reducible first | exact HB.out | apply below_alloc | apply pw_below_drewN | apply below_drew1 | refine below_set ?_ GE148.out | refine below_set ?_ GE149.out) | exact HB.out))) : w.heap.size ≤ gb161))
                have n5_ := Aside0.mk ((by rw [hg]; exact (below_size (by repeat (first | (with_reducible first | exact HB.out | apply below_alloc | apply pw_below_drewN | apply below_drew1 | refine below_set ?_ GE148.out | refine below_set ?_ GE149.out) | exact HB.out))) : w.heap.size ≤ gb161))
                have n6_ := Aside0.mk ((by rw [hg]; exact Nat.ne_of_lt (blk_lt (g := gb148) (o := .cells #[.float .f64 0, .float .f64 0] 34 (0, 0)) (by (with_reducible repeat (first | refine blk_drewN ?_ _ | refine blk_drew ?_ | refine blk_alloc ?_ _)); exact BK148.out)) : gb148 ≠ gb161))
                have n7_ := Aside0.mk ((by rw [hg]; exact Nat.ne_of_gt (blk_lt (g := gb148) (o := .cells #[.float .f64 0, .float .f64 0] 34 (0, 0)) (by (with_reducible repeat (first | refine blk_drewN ?_ _ | refine blk_drew ?_ | refine blk_alloc ?_ _)); exact BK148.out)) : gb161 ≠ gb148))
                have n8_ := Aside0.mk ((by rw [hg]; exact Nat.ne_of_lt (blk_lt (g := gb149) (o := .cells #[.float .f64 b_x150000_2, .float .f64 b_x150001_2] 34 (0, 0)) (by (with_reducible repeat (first | refine blk_drewN ?_ _ | refine blk_drew ?_ | refine blk_alloc ?_ _)); exact BK149.out)) : gb149 ≠ gb161))
                have n9_ := Aside0.mk ((by rw [hg]; exact Nat.ne_of_gt (blk_lt (g := gb149) (o := .cells #[.float .f64 b_x150000_2, .float .f64 b_x150001_2] 34 (0, 0)) (by (with_reducible repeat (first | refine blk_drewN ?_ _ | refine blk_drew ?_ | refine blk_alloc ?_ _)); exact BK149.out)) : gb161 ≠ gb149))
                clear BK148
                clear BK149
                clear HB
                have BK148 := n0_
                have BK149 := n1_
                have HB := n2_
                have BK161 := n3_
                have GW161 := n4_
                have GE161 := n5_
                have NB148_161 := n6_
                have NB161_148 := n7_
                have NB149_161 := n8_
                have NB161_149 := n9_
                clear n0_ n1_ n2_ n3_ n4_ n5_ n6_ n7_ n8_ n9_
                clear hb hbox hg
                refine hK.out _ _ ⟨((HB.out.cell (World.block_lt_of_cell? w _ hw151_0)).trans hw151_0), ((HB.out.cell (World.block_lt_of_cell? w _ hw151_1)).trans hw151_1), ((HB.out.cell (World.block_lt_of_cell? w _ hw154_0)).trans hw154_0), ((HB.out.cell (World.block_lt_of_cell? w _ hw154_1)).trans hw154_1)⟩ (fun hHeld => ?_)
                clear hK K
                refine norm_ (a' := ?_) ?_ ?_
                rotate_left
                ·show Act.put _ (some 8) _ = _
                 simp only [Act.put, List.setIfInBounds_toArray, List.set_cons_zero, List.set_cons_succ, i64_w, i32_w]
                 rfl
                exact norm_ (by first | (simp only [putAll, Act.put, List.setIfInBounds_toArray, List.set_cons_zero, List.set_cons_succ]; done) | (simp only [putAll, Act.put, List.setIfInBounds_toArray, List.set_cons_zero, List.set_cons_succ]; rfl)) (hJ4_9_12 ((gb161), b_t152, b_t153) _ ⟨hHeld, (by (with_reducible repeat (first | refine blk_drewN ?_ _ | refine blk_drew ?_ | refine blk_alloc ?_ _)); exact BK148.out), (by (with_reducible repeat (first | refine blk_drewN ?_ _ | refine blk_drew ?_ | refine blk_alloc ?_ _)); exact BK149.out), (by (with_reducible repeat (first | refine blk_drewN ?_ _ | refine blk_drew ?_ | refine blk_alloc ?_ _)); exact BK161.out), GW161.out, GE161.out, NB148_161.out, NB161_148.out, NB149_161.out, NB161_149.out, (by repeat (first | (with_reducible first | exact HB.out | apply below_alloc | apply pw_below_drewN | apply below_drew1 | refine below_set ?_ GE148.out | refine below_set ?_ GE149.out | refine below_set ?_ GE161.out) | exact HB.out)), hc_t152, hc_t153⟩)
             ·skip
              rintro ⟨gb161, b_t152, b_t153⟩ w25 ⟨hS_, h0_, h1_, h2_, h3_, h4_, h5_, h6_, h7_, h8_, h9_, hc_t152, hc_t153⟩
              (try dsimp only at hS_)
              (try dsimp only at h0_)
              (try dsimp only at h1_)
              (try dsimp only at h2_)
              (try dsimp only at h3_)
              (try dsimp only at h4_)
              (try dsimp only at h5_)
              (try dsimp only at h6_)
              (try dsimp only at h7_)
              (try dsimp only at h8_)
              (try dsimp only at h9_)
              (try dsimp only at hc_t152)
              (try dsimp only at hc_t153)
              (try dsimp only)
              have n0_ : Aside0 (w25.heap[gb148]? = some (.cells #[.float .f64 0, .float .f64 0] 34 (0, 0))) := ⟨h0_⟩
              have n1_ : Aside0 (w25.heap[gb149]? = some (.cells #[.float .f64 b_x150000_2, .float .f64 b_x150001_2] 34 (0, 0))) := ⟨h1_⟩
              have n2_ : Aside0 (w25.heap[gb161]? = some (.cells #[.float .f64 0, .float .f64 0] 34 (0, 0))) := ⟨h2_⟩
              have n3_ : Aside0 (w.heap.size ≤ gb161) := ⟨h3_⟩
              have n4_ : Aside0 (w.heap.size ≤ gb161) := ⟨h4_⟩
              have n5_ : Aside0 (gb148 ≠ gb161) := ⟨h5_⟩
              have n6_ : Aside0 (gb161 ≠ gb148) := ⟨h6_⟩
              have n7_ : Aside0 (gb149 ≠ gb161) := ⟨h7_⟩
              have n8_ : Aside0 (gb161 ≠ gb149) := ⟨h8_⟩
              have n9_ : Aside0 (Below w.heap.size w w25) := ⟨h9_⟩
              clear BK148
              clear BK149
              clear HB
              clear h0_ h1_ h2_ h3_ h4_ h5_ h6_ h7_ h8_ h9_
              have BK148 := n0_
              have BK149 := n1_
              have BK161 := n2_
              have GW161 := n3_
              have GE161 := n4_
              have NB148_161 := n5_
              have NB161_148 := n6_
              have NB149_161 := n7_
              have NB161_149 := n8_
              have HB := n9_
              clear n0_ n1_ n2_ n3_ n4_ n5_ n6_ n7_ n8_ n9_
              have hHeld : w25.cell? (ad151.add ((x7_2).toNat * 2)) = some (.float .f32 ((rd_T31 l0 x7_2).f0)) ∧ w25.cell? ⟨(ad151.add ((x7_2).toNat * 2)).block, (ad151.add ((x7_2).toNat * 2)).off + 1, none⟩ = some (.float .f32 ((rd_T31 l0 x7_2).f1)) ∧ w25.cell? (ad154.add ((x7_2).toNat * 2)) = some (.float .f32 ((rd_T31 l1 x7_2).f0)) ∧ w25.cell? ⟨(ad154.add ((x7_2).toNat * 2)).block, (ad154.add ((x7_2).toNat * 2)).off + 1, none⟩ = some (.float .f32 ((rd_T31 l1 x7_2).f1)) := hS_
              refine norm_ (a' := ?_) ?_ ?_
              rotate_left
              ·simp only [putAll, Act.put, List.setIfInBounds_toArray, List.set_cons_zero, List.set_cons_succ]
               rfl
              refine one_ (i := 10) (N := some 38) #[true, true, true, true, true, true, true, true, true, true, true, false, true, false] rfl rfl (one_of HT_.out (by kernel_rfl)) (by decide) (fun K hK => ?_)
              refine goes_ Try.func38 (by kernel_rfl) rfl #[.agg #[.float .f32 t155, .float .f32 t156]] (by rfl) rfl rfl (by (try simp only [List.map_toArray, List.map_cons, List.map_nil]); first | done | rfl | (simp only [List.length_drop, List.length_take]; rfl)) ?_
              with_reducible refine (spec_Widen.calls t155 t156 t155 t156 rfl rfl t157 t158 _ A19.out).mono ?_
              rintro e w26 ⟨b_t157, b_t158, hc_t157, hc_t158, rfl, hb⟩
              refine ⟨_, rfl, ?_⟩
              have n0_ := Aside0.mk (blk_below (g := gb148) (o := .cells #[.float .f64 0, .float .f64 0] 34 (0, 0)) (by (with_reducible repeat (first | refine blk_drewN ?_ _ | refine blk_drew ?_ | refine blk_alloc ?_ _)); exact BK148.out) hb)
              have n1_ := Aside0.mk (blk_below (g := gb149) (o := .cells #[.float .f64 b_x150000_2, .float .f64 b_x150001_2] 34 (0, 0)) (by (with_reducible repeat (first | refine blk_drewN ?_ _ | refine blk_drew ?_ | refine blk_alloc ?_ _)); exact BK149.out) hb)
              have n2_ := Aside0.mk (blk_below (g := gb161) (o := .cells #[.float .f64 0, .float .f64 0] 34 (0, 0)) (by (with_reducible repeat (first | refine blk_drewN ?_ _ | refine blk_drew ?_ | refine blk_alloc ?_ _)); exact BK161.out) hb)
              have n3_ := Aside0.mk (below_step (by repeat (first | (with_reducible first | exact HB.out | apply below_alloc | apply pw_below_drewN | apply below_drew1 | refine below_set ?_ GE148.out | refine below_set ?_ GE149.out | refine below_set ?_ GE161.out) | exact HB.out)) hb)
              clear BK148
              clear BK149
              clear BK161
              clear HB
              have BK148 := n0_
              have BK149 := n1_
              have BK161 := n2_
              have HB := n3_
              clear n0_ n1_ n2_ n3_
              (try clear hb)
              (try clear hb2)
              (try clear hk)
              (try clear hi)
              refine hK.out _ _ ⟨((HB.out.cell (World.block_lt_of_cell? w _ hw151_0)).trans hw151_0), ((HB.out.cell (World.block_lt_of_cell? w _ hw151_1)).trans hw151_1), ((HB.out.cell (World.block_lt_of_cell? w _ hw154_0)).trans hw154_0), ((HB.out.cell (World.block_lt_of_cell? w _ hw154_1)).trans hw154_1)⟩ (fun hHeld => ?_)
              clear hK K
              refine norm_ (a' := ?_) ?_ ?_
              rotate_left
              ·show Act.put _ (some 38) _ = _
               simp only [Act.put, List.setIfInBounds_toArray, List.set_cons_zero, List.set_cons_succ, i64_w, i32_w]
               rfl
              exact norm_ (by first | (simp only [putAll, Act.put, List.setIfInBounds_toArray, List.set_cons_zero, List.set_cons_succ]; done) | (simp only [putAll, Act.put, List.setIfInBounds_toArray, List.set_cons_zero, List.set_cons_succ]; rfl)) (hJ4_9_10_12 ((gb161), b_t152, b_t153, b_t157, b_t158) _ ⟨hHeld, (by (with_reducible repeat (first | refine blk_drewN ?_ _ | refine blk_drew ?_ | refine blk_alloc ?_ _)); exact BK148.out), (by (with_reducible repeat (first | refine blk_drewN ?_ _ | refine blk_drew ?_ | refine blk_alloc ?_ _)); exact BK149.out), (by (with_reducible repeat (first | refine blk_drewN ?_ _ | refine blk_drew ?_ | refine blk_alloc ?_ _)); exact BK161.out), GW161.out, GE161.out, NB148_161.out, NB161_148.out, NB149_161.out, NB161_149.out, (by repeat (first | (with_reducible first | exact HB.out | apply below_alloc | apply pw_below_drewN | apply below_drew1 | refine below_set ?_ GE148.out | refine below_set ?_ GE149.out | refine below_set ?_ GE161.out) | exact HB.out)), hc_t152, hc_t153, hc_t157, hc_t158⟩)
            ·skip
             rintro ⟨_, b_t152, b_t153, b_t157, b_t158⟩ w25 ⟨hS_, h0_, h1_, h2_, hc_t152, hc_t153, hc_t157, hc_t158⟩
             (try dsimp only at hS_)
             (try dsimp only at h0_)
             (try dsimp only at h1_)
             (try dsimp only at h2_)
             (try dsimp only at hc_t152)
             (try dsimp only at hc_t153)
             (try dsimp only at hc_t157)
             (try dsimp only at hc_t158)
             (try dsimp only)
             have n0_ : Aside0 (w25.heap[gb148]? = some (.cells #[.float .f64 0, .float .f64 0] 34 (0, 0))) := ⟨h0_⟩
             have n1_ : Aside0 (w25.heap[gb149]? = some (.cells #[.float .f64 b_x150000_2, .float .f64 b_x150001_2] 34 (0, 0))) := ⟨h1_⟩
             have n2_ : Aside0 (Below w.heap.size w w25) := ⟨h2_⟩
             clear BK148
             clear BK149
             clear HB
             clear h0_ h1_ h2_
             have BK148 := n0_
             have BK149 := n1_
             have HB := n2_
             clear n0_ n1_ n2_
             have hHeld : w25.cell? (ad151.add ((x7_2).toNat * 2)) = some (.float .f32 ((rd_T31 l0 x7_2).f0)) ∧ w25.cell? ⟨(ad151.add ((x7_2).toNat * 2)).block, (ad151.add ((x7_2).toNat * 2)).off + 1, none⟩ = some (.float .f32 ((rd_T31 l0 x7_2).f1)) ∧ w25.cell? (ad154.add ((x7_2).toNat * 2)) = some (.float .f32 ((rd_T31 l1 x7_2).f0)) ∧ w25.cell? ⟨(ad154.add ((x7_2).toNat * 2)).block, (ad154.add ((x7_2).toNat * 2)).off + 1, none⟩ = some (.float .f32 ((rd_T31 l1 x7_2).f1)) := hS_
             refine norm_ (a' := ?_) ?_ ?_
             rotate_left
             ·simp only [putAll, Act.put, List.setIfInBounds_toArray, List.set_cons_zero, List.set_cons_succ]
              rfl
             refine two_ (i := 11) (j := 12) (Ni := some 39) (Nj := some 8) #[true, true, true, true, true, true, true, true, true, true, true, true, false, false] #[true, true, true, true, true, true, true, true, true, true, true, false, true, false] rfl rfl rfl rfl (two_of HT_.out (by kernel_rfl)) (by decide) (by decide) (fun K hK => ?_) (fun K hK => ?_)
             ·skip
              refine goes_ Try.func49 (by kernel_rfl) rfl #[.agg #[.float .f64 b_t152, .float .f64 b_t153], .agg #[.float .f64 b_t157, .float .f64 b_t158]] (by rfl) rfl rfl (by (try simp only [List.map_toArray, List.map_cons, List.map_nil]); first | done | rfl | (simp only [List.length_drop, List.length_take]; rfl)) ?_
              with_reducible refine (spec_MulWide.calls b_t152 b_t153 b_t157 b_t158 t152 t153 t157 t158 hc_t152.out hc_t153.out hc_t157.out hc_t158.out t159 t160 _ A20.out).mono ?_
              rintro e w26 ⟨b_t159, b_t160, hc_t159, hc_t160, rfl, hb⟩
              refine ⟨_, rfl, ?_⟩
              have n0_ := Aside0.mk (blk_below (g := gb148) (o := .cells #[.float .f64 0, .float .f64 0] 34 (0, 0)) (by (with_reducible repeat (first | refine blk_drewN ?_ _ | refine blk_drew ?_ | refine blk_alloc ?_ _)); exact BK148.out) hb)
              have n1_ := Aside0.mk (blk_below (g := gb149) (o := .cells #[.float .f64 b_x150000_2, .float .f64 b_x150001_2] 34 (0, 0)) (by (with_reducible repeat (first | refine blk_drewN ?_ _ | refine blk_drew ?_ | refine blk_alloc ?_ _)); exact BK149.out) hb)
              have n2_ := Aside0.mk (below_step (by repeat (first | (with_reducible first | exact HB.out | apply below_alloc | apply pw_below_drewN | apply below_drew1 | refine below_set ?_ GE148.out | refine below_set ?_ GE149.out) | exact HB.out)) hb)
              clear BK148
              clear BK149
              clear HB
              have BK148 := n0_
              have BK149 := n1_
              have HB := n2_
              clear n0_ n1_ n2_
              (try clear hb)
              (try clear hb2)
              (try clear hk)
              (try clear hi)
              refine hK.out _ _ ⟨((HB.out.cell (World.block_lt_of_cell? w _ hw151_0)).trans hw151_0), ((HB.out.cell (World.block_lt_of_cell? w _ hw151_1)).trans hw151_1), ((HB.out.cell (World.block_lt_of_cell? w _ hw154_0)).trans hw154_0), ((HB.out.cell (World.block_lt_of_cell? w _ hw154_1)).trans hw154_1)⟩ (fun hHeld => ?_)
              clear hK K
              refine norm_ (a' := ?_) ?_ ?_
              rotate_left
              ·show Act.put _ (some 39) _ = _
               simp only [Act.put, List.setIfInBounds_toArray, List.set_cons_zero, List.set_cons_succ, i64_w, i32_w]
               rfl
              exact norm_ (by first | (simp only [putAll, Act.put, List.setIfInBounds_toArray, List.set_cons_zero, List.set_cons_succ]; done) | (simp only [putAll, Act.put, List.setIfInBounds_toArray, List.set_cons_zero, List.set_cons_succ]; rfl)) (hJ4_9_10_11 ((), b_t152, b_t153, b_t157, b_t158, b_t159, b_t160) _ ⟨hHeld, (by (with_reducible repeat (first | refine blk_drewN ?_ _ | refine blk_drew ?_ | refine blk_alloc ?_ _)); exact BK148.out), (by (with_reducible repeat (first | refine blk_drewN ?_ _ | refine blk_drew ?_ | refine blk_alloc ?_ _)); exact BK149.out), (by repeat (first | (with_reducible first | exact HB.out | apply below_alloc | apply pw_below_drewN | apply below_drew1 | refine below_set ?_ GE148.out | refine below_set ?_ GE149.out) | exact HB.out)), hc_t152, hc_t153, hc_t157, hc_t158, hc_t159, hc_t160⟩)
             ·skip
              refine box_step ?hg (N := 8) ?hd (cs := #[.float .f64 0, .float .f64 0]) (t := 34) ?hr ?_; (case hd => rfl); (case hg => rfl); (case hr => first | (go_simp; done) | (go_simp; rfl))
              intro gb161 hg w26 hbox hb
              have n0_ := Aside0.mk (blk_below (g := gb148) (o := .cells #[.float .f64 0, .float .f64 0] 34 (0, 0)) (by (with_reducible repeat (first | refine blk_drewN ?_ _ | refine blk_drew ?_ | refine blk_alloc ?_ _)); exact BK148.out) hb)
              have n1_ := Aside0.mk (blk_below (g := gb149) (o := .cells #[.float .f64 b_x150000_2, .float .f64 b_x150001_2] 34 (0, 0)) (by (with_reducible repeat (first | refine blk_drewN ?_ _ | refine blk_drew ?_ | refine blk_alloc ?_ _)); exact BK149.out) hb)
              have n2_ := Aside0.mk (below_step (by repeat (first | (with_reducible first | exact HB.out | apply below_alloc | apply pw_below_drewN | apply below_drew1 | refine below_set ?_ GE148.out | refine below_set ?_ GE149.out) | exact HB.out)) hb)
              have n3_ := Aside0.mk (hbox)
              have n4_ := Aside0.mk ((by rw [hg]; exact (below_size (by repeat (first | (with_reducible first | exact HB.out | apply below_alloc | apply pw_below_drewN | apply below_drew1 | refine below_set ?_ GE148.out | refine below_set ?_ GE149.out) | exact HB.out))) : w.heap.size ≤ gb161))
              have n5_ := Aside0.mk ((by rw [hg]; exact (below_size (by repeat (first | (with_reducible first | exact HB.out | apply below_alloc | apply pw_below_drewN | apply below_drew1 | refine below_set ?_ GE148.out | refine below_set ?_ GE149.out) | exact HB.out))) : w.heap.size ≤ gb161))
              have n6_ := Aside0.mk ((by rw [hg]; exact Nat.ne_of_lt (blk_lt (g := gb148) (o := .cells #[.float .f64 0, .float .f64 0] 34 (0, 0)) (by (with_reducible repeat (first | refine blk_drewN ?_ _ | refine blk_drew ?_ | refine blk_alloc ?_ _)); exact BK148.out)) : gb148 ≠ gb161))
              have n7_ := Aside0.mk ((by rw [hg]; exact Nat.ne_of_gt (blk_lt (g := gb148) (o := .cells #[.float .f64 0, .float .f64 0] 34 (0, 0)) (by (with_reducible repeat (first | refine blk_drewN ?_ _ | refine blk_drew ?_ | refine blk_alloc ?_ _)); exact BK148.out)) : gb161 ≠ gb148))
              have n8_ := Aside0.mk ((by rw [hg]; exact Nat.ne_of_lt (blk_lt (g := gb149) (o := .cells #[.float .f64 b_x150000_2, .float .f64 b_x150001_2] 34 (0, 0)) (by (with_reducible repeat (first | refine blk_drewN ?_ _ | refine blk_drew ?_ | refine blk_alloc ?_ _)); exact BK149.out)) : gb149 ≠ gb161))
              have n9_ := Aside0.mk ((by rw [hg]; exact Nat.ne_of_gt (blk_lt (g := gb149) (o := .cells #[.float .f64 b_x150000_2, .float .f64 b_x150001_2] 34 (0, 0)) (by (with_reducible repeat (first | refine blk_drewN ?_ _ | refine blk_drew ?_ | refine blk_alloc ?_ _)); exact BK149.out)) : gb161 ≠ gb149))
              clear BK148
              clear BK149
              clear HB
              have BK148 := n0_
              have BK149 := n1_
              have HB := n2_
              have BK161 := n3_
              have GW161 := n4_
              have GE161 := n5_
              have NB148_161 := n6_
              have NB161_148 := n7_
              have NB149_161 := n8_
              have NB161_149 := n9_
              clear n0_ n1_ n2_ n3_ n4_ n5_ n6_ n7_ n8_ n9_
              clear hb hbox hg
              refine hK.out _ _ ⟨((HB.out.cell (World.block_lt_of_cell? w _ hw151_0)).trans hw151_0), ((HB.out.cell (World.block_lt_of_cell? w _ hw151_1)).trans hw151_1), ((HB.out.cell (World.block_lt_of_cell? w _ hw154_0)).trans hw154_0), ((HB.out.cell (World.block_lt_of_cell? w _ hw154_1)).trans hw154_1)⟩ (fun hHeld => ?_)
              clear hK K
              refine norm_ (a' := ?_) ?_ ?_
              rotate_left
              ·show Act.put _ (some 8) _ = _
               simp only [Act.put, List.setIfInBounds_toArray, List.set_cons_zero, List.set_cons_succ, i64_w, i32_w]
               rfl
              exact norm_ (by first | (simp only [putAll, Act.put, List.setIfInBounds_toArray, List.set_cons_zero, List.set_cons_succ]; done) | (simp only [putAll, Act.put, List.setIfInBounds_toArray, List.set_cons_zero, List.set_cons_succ]; rfl)) (hJ4_9_10_12 ((gb161), b_t152, b_t153, b_t157, b_t158) _ ⟨hHeld, (by (with_reducible repeat (first | refine blk_drewN ?_ _ | refine blk_drew ?_ | refine blk_alloc ?_ _)); exact BK148.out), (by (with_reducible repeat (first | refine blk_drewN ?_ _ | refine blk_drew ?_ | refine blk_alloc ?_ _)); exact BK149.out), (by (with_reducible repeat (first | refine blk_drewN ?_ _ | refine blk_drew ?_ | refine blk_alloc ?_ _)); exact BK161.out), GW161.out, GE161.out, NB148_161.out, NB161_148.out, NB149_161.out, NB161_149.out, (by repeat (first | (with_reducible first | exact HB.out | apply below_alloc | apply pw_below_drewN | apply below_drew1 | refine below_set ?_ GE148.out | refine below_set ?_ GE149.out | refine below_set ?_ GE161.out) | exact HB.out)), hc_t152, hc_t153, hc_t157, hc_t158⟩)
           ·skip
            rintro ⟨gb161, b_t152, b_t153, b_t157, b_t158⟩ w26 ⟨hS_, h0_, h1_, h2_, h3_, h4_, h5_, h6_, h7_, h8_, h9_, hc_t152, hc_t153, hc_t157, hc_t158⟩
            (try dsimp only at hS_)
            (try dsimp only at h0_)
            (try dsimp only at h1_)
            (try dsimp only at h2_)
            (try dsimp only at h3_)
            (try dsimp only at h4_)
            (try dsimp only at h5_)
            (try dsimp only at h6_)
            (try dsimp only at h7_)
            (try dsimp only at h8_)
            (try dsimp only at h9_)
            (try dsimp only at hc_t152)
            (try dsimp only at hc_t153)
            (try dsimp only at hc_t157)
            (try dsimp only at hc_t158)
            (try dsimp only)
            have n0_ : Aside0 (w26.heap[gb148]? = some (.cells #[.float .f64 0, .float .f64 0] 34 (0, 0))) := ⟨h0_⟩
            have n1_ : Aside0 (w26.heap[gb149]? = some (.cells #[.float .f64 b_x150000_2, .float .f64 b_x150001_2] 34 (0, 0))) := ⟨h1_⟩
            have n2_ : Aside0 (w26.heap[gb161]? = some (.cells #[.float .f64 0, .float .f64 0] 34 (0, 0))) := ⟨h2_⟩
            have n3_ : Aside0 (w.heap.size ≤ gb161) := ⟨h3_⟩
            have n4_ : Aside0 (w.heap.size ≤ gb161) := ⟨h4_⟩
            have n5_ : Aside0 (gb148 ≠ gb161) := ⟨h5_⟩
            have n6_ : Aside0 (gb161 ≠ gb148) := ⟨h6_⟩
            have n7_ : Aside0 (gb149 ≠ gb161) := ⟨h7_⟩
            have n8_ : Aside0 (gb161 ≠ gb149) := ⟨h8_⟩
            have n9_ : Aside0 (Below w.heap.size w w26) := ⟨h9_⟩
            clear BK148
            clear BK149
            clear HB
            clear h0_ h1_ h2_ h3_ h4_ h5_ h6_ h7_ h8_ h9_
            have BK148 := n0_
            have BK149 := n1_
            have BK161 := n2_
            have GW161 := n3_
            have GE161 := n4_
            have NB148_161 := n5_
            have NB161_148 := n6_
            have NB149_161 := n7_
            have NB161_149 := n8_
            have HB := n9_
            clear n0_ n1_ n2_ n3_ n4_ n5_ n6_ n7_ n8_ n9_
            have hHeld : w26.cell? (ad151.add ((x7_2).toNat * 2)) = some (.float .f32 ((rd_T31 l0 x7_2).f0)) ∧ w26.cell? ⟨(ad151.add ((x7_2).toNat * 2)).block, (ad151.add ((x7_2).toNat * 2)).off + 1, none⟩ = some (.float .f32 ((rd_T31 l0 x7_2).f1)) ∧ w26.cell? (ad154.add ((x7_2).toNat * 2)) = some (.float .f32 ((rd_T31 l1 x7_2).f0)) ∧ w26.cell? ⟨(ad154.add ((x7_2).toNat * 2)).block, (ad154.add ((x7_2).toNat * 2)).off + 1, none⟩ = some (.float .f32 ((rd_T31 l1 x7_2).f1)) := hS_
            refine norm_ (a' := ?_) ?_ ?_
            rotate_left
            ·simp only [putAll, Act.put, List.setIfInBounds_toArray, List.set_cons_zero, List.set_cons_succ]
             rfl
            refine one_ (i := 11) (N := some 39) #[true, true, true, true, true, true, true, true, true, true, true, true, true, false] rfl rfl (one_of HT_.out (by kernel_rfl)) (by decide) (fun K hK => ?_)
            refine goes_ Try.func49 (by kernel_rfl) rfl #[.agg #[.float .f64 b_t152, .float .f64 b_t153], .agg #[.float .f64 b_t157, .float .f64 b_t158]] (by rfl) rfl rfl (by (try simp only [List.map_toArray, List.map_cons, List.map_nil]); first | done | rfl | (simp only [List.length_drop, List.length_take]; rfl)) ?_
            with_reducible refine (spec_MulWide.calls b_t152 b_t153 b_t157 b_t158 t152 t153 t157 t158 hc_t152.out hc_t153.out hc_t157.out hc_t158.out t159 t160 _ A20.out).mono ?_
            rintro e w27 ⟨b_t159, b_t160, hc_t159, hc_t160, rfl, hb⟩
            refine ⟨_, rfl, ?_⟩
            have n0_ := Aside0.mk (blk_below (g := gb148) (o := .cells #[.float .f64 0, .float .f64 0] 34 (0, 0)) (by (with_reducible repeat (first | refine blk_drewN ?_ _ | refine blk_drew ?_ | refine blk_alloc ?_ _)); exact BK148.out) hb)
            have n1_ := Aside0.mk (blk_below (g := gb149) (o := .cells #[.float .f64 b_x150000_2, .float .f64 b_x150001_2] 34 (0, 0)) (by (with_reducible repeat (first | refine blk_drewN ?_ _ | refine blk_drew ?_ | refine blk_alloc ?_ _)); exact BK149.out) hb)
            have n2_ := Aside0.mk (blk_below (g := gb161) (o := .cells #[.float .f64 0, .float .f64 0] 34 (0, 0)) (by (with_reducible repeat (first | refine blk_drewN ?_ _ | refine blk_drew ?_ | refine blk_alloc ?_ _)); exact BK161.out) hb)
            have n3_ := Aside0.mk (below_step (by repeat (first | (with_reducible first | exact HB.out | apply below_alloc | apply pw_below_drewN | apply below_drew1 | refine below_set ?_ GE148.out | refine below_set ?_ GE149.out | refine below_set ?_ GE161.out) | exact HB.out)) hb)
            clear BK148
            clear BK149
            clear BK161
            clear HB
            have BK148 := n0_
            have BK149 := n1_
            have BK161 := n2_
            have HB := n3_
            clear n0_ n1_ n2_ n3_
            (try clear hb)
            (try clear hb2)
            (try clear hk)
            (try clear hi)
            refine hK.out _ _ ⟨((HB.out.cell (World.block_lt_of_cell? w _ hw151_0)).trans hw151_0), ((HB.out.cell (World.block_lt_of_cell? w _ hw151_1)).trans hw151_1), ((HB.out.cell (World.block_lt_of_cell? w _ hw154_0)).trans hw154_0), ((HB.out.cell (World.block_lt_of_cell? w _ hw154_1)).trans hw154_1)⟩ (fun hHeld => ?_)
            clear hK K
            refine norm_ (a' := ?_) ?_ ?_
            rotate_left
            ·show Act.put _ (some 39) _ = _
             simp only [Act.put, List.setIfInBounds_toArray, List.set_cons_zero, List.set_cons_succ, i64_w, i32_w]
             rfl
            exact norm_ (by first | (simp only [putAll, Act.put, List.setIfInBounds_toArray, List.set_cons_zero, List.set_cons_succ]; done) | (simp only [putAll, Act.put, List.setIfInBounds_toArray, List.set_cons_zero, List.set_cons_succ]; rfl)) (hJ4_9_10_11_12 ((gb161), b_t152, b_t153, b_t157, b_t158, b_t159, b_t160) _ ⟨hHeld, (by (with_reducible repeat (first | refine blk_drewN ?_ _ | refine blk_drew ?_ | refine blk_alloc ?_ _)); exact BK148.out), (by (with_reducible repeat (first | refine blk_drewN ?_ _ | refine blk_drew ?_ | refine blk_alloc ?_ _)); exact BK149.out), (by (with_reducible repeat (first | refine blk_drewN ?_ _ | refine blk_drew ?_ | refine blk_alloc ?_ _)); exact BK161.out), GW161.out, GE161.out, NB148_161.out, NB161_148.out, NB149_161.out, NB161_149.out, (by repeat (first | (with_reducible first | exact HB.out | apply below_alloc | apply pw_below_drewN | apply below_drew1 | refine below_set ?_ GE148.out | refine below_set ?_ GE149.out | refine below_set ?_ GE161.out) | exact HB.out)), hc_t152, hc_t153, hc_t157, hc_t158, hc_t159, hc_t160⟩)
          ·skip
           rintro ⟨_, b_t152, b_t153, b_t157, b_t158, b_t159, b_t160⟩ w26 ⟨hS_, h0_, h1_, h2_, hc_t152, hc_t153, hc_t157, hc_t158, hc_t159, hc_t160⟩
           (try dsimp only at hS_)
           (try dsimp only at h0_)
           (try dsimp only at h1_)
           (try dsimp only at h2_)
           (try dsimp only at hc_t152)
           (try dsimp only at hc_t153)
           (try dsimp only at hc_t157)
           (try dsimp only at hc_t158)
           (try dsimp only at hc_t159)
           (try dsimp only at hc_t160)
           (try dsimp only)
           have n0_ : Aside0 (w26.heap[gb148]? = some (.cells #[.float .f64 0, .float .f64 0] 34 (0, 0))) := ⟨h0_⟩
           have n1_ : Aside0 (w26.heap[gb149]? = some (.cells #[.float .f64 b_x150000_2, .float .f64 b_x150001_2] 34 (0, 0))) := ⟨h1_⟩
           have n2_ : Aside0 (Below w.heap.size w w26) := ⟨h2_⟩
           clear BK148
           clear BK149
           clear HB
           clear h0_ h1_ h2_
           have BK148 := n0_
           have BK149 := n1_
           have HB := n2_
           clear n0_ n1_ n2_
           have hHeld : w26.cell? (ad151.add ((x7_2).toNat * 2)) = some (.float .f32 ((rd_T31 l0 x7_2).f0)) ∧ w26.cell? ⟨(ad151.add ((x7_2).toNat * 2)).block, (ad151.add ((x7_2).toNat * 2)).off + 1, none⟩ = some (.float .f32 ((rd_T31 l0 x7_2).f1)) ∧ w26.cell? (ad154.add ((x7_2).toNat * 2)) = some (.float .f32 ((rd_T31 l1 x7_2).f0)) ∧ w26.cell? ⟨(ad154.add ((x7_2).toNat * 2)).block, (ad154.add ((x7_2).toNat * 2)).off + 1, none⟩ = some (.float .f32 ((rd_T31 l1 x7_2).f1)) := hS_
           refine norm_ (a' := ?_) ?_ ?_
           rotate_left
           ·simp only [putAll, Act.put, List.setIfInBounds_toArray, List.set_cons_zero, List.set_cons_succ]
            rfl
           refine one_ (i := 12) (N := some 8) #[true, true, true, true, true, true, true, true, true, true, true, true, true, false] rfl rfl (one_of HT_.out (by kernel_rfl)) (by decide) (fun K hK => ?_)
           refine box_step ?hg (N := 8) ?hd (cs := #[.float .f64 0, .float .f64 0]) (t := 34) ?hr ?_; (case hd => rfl); (case hg => rfl); (case hr => first | (go_simp; done) | (go_simp; rfl))
           intro gb161 hg w27 hbox hb
           have n0_ := Aside0.mk (blk_below (g := gb148) (o := .cells #[.float .f64 0, .float .f64 0] 34 (0, 0)) (by (with_reducible repeat (first | refine blk_drewN ?_ _ | refine blk_drew ?_ | refine blk_alloc ?_ _)); exact BK148.out) hb)
           have n1_ := Aside0.mk (blk_below (g := gb149) (o := .cells #[.float .f64 b_x150000_2, .float .f64 b_x150001_2] 34 (0, 0)) (by (with_reducible repeat (first | refine blk_drewN ?_ _ | refine blk_drew ?_ | refine blk_alloc ?_ _)); exact BK149.out) hb)
           have n2_ := Aside0.mk (below_step (by repeat (first | (with_reducible first | exact HB.out | apply below_alloc | apply pw_below_drewN | apply below_drew1 | refine below_set ?_ GE148.out | refine below_set ?_ GE149.out) | exact HB.out)) hb)
           have n3_ := Aside0.mk (hbox)
           have n4_ := Aside0.mk ((by rw [hg]; exact (below_size (by repeat (first | (with_reducible first | exact HB.out | apply below_alloc | apply pw_below_drewN | apply below_drew1 | refine below_set ?_ GE148.out | refine below_set ?_ GE149.out) | exact HB.out))) : w.heap.size ≤ gb161))
           have n5_ := Aside0.mk ((by rw [hg]; exact (below_size (by repeat (first | (with_reducible first | exact HB.out | apply below_alloc | apply pw_below_drewN | apply below_drew1 | refine below_set ?_ GE148.out | refine below_set ?_ GE149.out) | exact HB.out))) : w.heap.size ≤ gb161))
           have n6_ := Aside0.mk ((by rw [hg]; exact Nat.ne_of_lt (blk_lt (g := gb148) (o := .cells #[.float .f64 0, .float .f64 0] 34 (0, 0)) (by (with_reducible repeat (first | refine blk_drewN ?_ _ | refine blk_drew ?_ | refine blk_alloc ?_ _)); exact BK148.out)) : gb148 ≠ gb161))
           have n7_ := Aside0.mk ((by rw [hg]; exact Nat.ne_of_gt (blk_lt (g := gb148) (o := .cells #[.float .f64 0, .float .f64 0] 34 (0, 0)) (by (with_reducible repeat (first | refine blk_drewN ?_ _ | refine blk_drew ?_ | refine blk_alloc ?_ _)); exact BK148.out)) : gb161 ≠ gb148))
           have n8_ := Aside0.mk ((by rw [hg]; exact Nat.ne_of_lt (blk_lt (g := gb149) (o := .cells #[.float .f64 b_x150000_2, .float .f64 b_x150001_2] 34 (0, 0)) (by (with_reducible repeat (first | refine blk_drewN ?_ _ | refine blk_drew ?_ | refine blk_alloc ?_ _)); exact BK149.out)) : gb149 ≠ gb161))
           have n9_ := Aside0.mk ((by rw [hg]; exact Nat.ne_of_gt (blk_lt (g := gb149) (o := .cells #[.float .f64 b_x150000_2, .float .f64 b_x150001_2] 34 (0, 0)) (by (with_reducible repeat (first | refine blk_drewN ?_ _ | refine blk_drew ?_ | refine blk_alloc ?_ _)); exact BK149.out)) : gb161 ≠ gb149))
           clear BK148
           clear BK149
           clear HB
           have BK148 := n0_
           have BK149 := n1_
           have HB := n2_
           have BK161 := n3_
           have GW161 := n4_
           have GE161 := n5_
           have NB148_161 := n6_
           have NB161_148 := n7_
           have NB149_161 := n8_
           have NB161_149 := n9_
           clear n0_ n1_ n2_ n3_ n4_ n5_ n6_ n7_ n8_ n9_
           clear hb hbox hg
           refine hK.out _ _ ⟨((HB.out.cell (World.block_lt_of_cell? w _ hw151_0)).trans hw151_0), ((HB.out.cell (World.block_lt_of_cell? w _ hw151_1)).trans hw151_1), ((HB.out.cell (World.block_lt_of_cell? w _ hw154_0)).trans hw154_0), ((HB.out.cell (World.block_lt_of_cell? w _ hw154_1)).trans hw154_1)⟩ (fun hHeld => ?_)
           clear hK K
           refine norm_ (a' := ?_) ?_ ?_
           rotate_left
           ·show Act.put _ (some 8) _ = _
            simp only [Act.put, List.setIfInBounds_toArray, List.set_cons_zero, List.set_cons_succ, i64_w, i32_w]
            rfl
           exact norm_ (by first | (simp only [putAll, Act.put, List.setIfInBounds_toArray, List.set_cons_zero, List.set_cons_succ]; done) | (simp only [putAll, Act.put, List.setIfInBounds_toArray, List.set_cons_zero, List.set_cons_succ]; rfl)) (hJ4_9_10_11_12 ((gb161), b_t152, b_t153, b_t157, b_t158, b_t159, b_t160) _ ⟨hHeld, (by (with_reducible repeat (first | refine blk_drewN ?_ _ | refine blk_drew ?_ | refine blk_alloc ?_ _)); exact BK148.out), (by (with_reducible repeat (first | refine blk_drewN ?_ _ | refine blk_drew ?_ | refine blk_alloc ?_ _)); exact BK149.out), (by (with_reducible repeat (first | refine blk_drewN ?_ _ | refine blk_drew ?_ | refine blk_alloc ?_ _)); exact BK161.out), GW161.out, GE161.out, NB148_161.out, NB161_148.out, NB149_161.out, NB161_149.out, (by repeat (first | (with_reducible first | exact HB.out | apply below_alloc | apply pw_below_drewN | apply below_drew1 | refine below_set ?_ GE148.out | refine below_set ?_ GE149.out | refine below_set ?_ GE161.out) | exact HB.out)), hc_t152, hc_t153, hc_t157, hc_t158, hc_t159, hc_t160⟩)
         rintro ⟨gb161, b_t152, b_t153, b_t157, b_t158, b_t159, b_t160⟩ w27 ⟨hS_, h0_, h1_, h2_, h3_, h4_, h5_, h6_, h7_, h8_, h9_, hc_t152, hc_t153, hc_t157, hc_t158, hc_t159, hc_t160⟩
         (try dsimp only at hS_)
         (try dsimp only at h0_)
         (try dsimp only at h1_)
         (try dsimp only at h2_)
         (try dsimp only at h3_)
         (try dsimp only at h4_)
         (try dsimp only at h5_)
         (try dsimp only at h6_)
         (try dsimp only at h7_)
         (try dsimp only at h8_)
         (try dsimp only at h9_)
         (try dsimp only at hc_t152)
         (try dsimp only at hc_t153)
         (try dsimp only at hc_t157)
         (try dsimp only at hc_t158)
         (try dsimp only at hc_t159)
         (try dsimp only at hc_t160)
         (try dsimp only)
         have n0_ : Aside0 (w27.heap[gb148]? = some (.cells #[.float .f64 0, .float .f64 0] 34 (0, 0))) := ⟨h0_⟩
         have n1_ : Aside0 (w27.heap[gb149]? = some (.cells #[.float .f64 b_x150000_2, .float .f64 b_x150001_2] 34 (0, 0))) := ⟨h1_⟩
         have n2_ : Aside0 (w27.heap[gb161]? = some (.cells #[.float .f64 0, .float .f64 0] 34 (0, 0))) := ⟨h2_⟩
         have n3_ : Aside0 (w.heap.size ≤ gb161) := ⟨h3_⟩
         have n4_ : Aside0 (w.heap.size ≤ gb161) := ⟨h4_⟩
         have n5_ : Aside0 (gb148 ≠ gb161) := ⟨h5_⟩
         have n6_ : Aside0 (gb161 ≠ gb148) := ⟨h6_⟩
         have n7_ : Aside0 (gb149 ≠ gb161) := ⟨h7_⟩
         have n8_ : Aside0 (gb161 ≠ gb149) := ⟨h8_⟩
         have n9_ : Aside0 (Below w.heap.size w w27) := ⟨h9_⟩
         clear BK148
         clear BK149
         clear HB
         clear h0_ h1_ h2_ h3_ h4_ h5_ h6_ h7_ h8_ h9_
         have BK148 := n0_
         have BK149 := n1_
         have BK161 := n2_
         have GW161 := n3_
         have GE161 := n4_
         have NB148_161 := n5_
         have NB161_148 := n6_
         have NB149_161 := n7_
         have NB161_149 := n8_
         have HB := n9_
         clear n0_ n1_ n2_ n3_ n4_ n5_ n6_ n7_ n8_ n9_
         have hHeld : w27.cell? (ad151.add ((x7_2).toNat * 2)) = some (.float .f32 ((rd_T31 l0 x7_2).f0)) ∧ w27.cell? ⟨(ad151.add ((x7_2).toNat * 2)).block, (ad151.add ((x7_2).toNat * 2)).off + 1, none⟩ = some (.float .f32 ((rd_T31 l0 x7_2).f1)) ∧ w27.cell? (ad154.add ((x7_2).toNat * 2)) = some (.float .f32 ((rd_T31 l1 x7_2).f0)) ∧ w27.cell? ⟨(ad154.add ((x7_2).toNat * 2)).block, (ad154.add ((x7_2).toNat * 2)).off + 1, none⟩ = some (.float .f32 ((rd_T31 l1 x7_2).f1)) := hS_
         refine norm_ (a' := ?_) ?_ ?_
         rotate_left
         ·simp only [putAll, Act.put, List.setIfInBounds_toArray, List.set_cons_zero, List.set_cons_succ]
          rfl
         refine one_ (i := 13) (N := none) #[true, true, true, true, true, true, true, true, true, true, true, true, true, true] rfl rfl (one_of HT_.out (by kernel_rfl)) (by decide) (fun K hK => ?_)
         have hs28 : w27.cell? ⟨gb161, 0, none⟩ = some (.float .f64 0) := (blk_cell BK161.out 0).trans rfl
         have hfs28 := blk_frozen BK161.out 0
         have hns28_0 := NB148_161.out
         have hns28_1 := NB149_161.out
         have hms28_0 := NB161_148.out
         have hms28_1 := NB161_149.out
         have hs29 : w27.cell? ⟨gb161, 1, none⟩ = some (.float .f64 0) := (blk_cell BK161.out 1).trans rfl
         have hfs29 := blk_frozen BK161.out 1
         have hns29_0 := NB148_161.out
         have hns29_1 := NB149_161.out
         have hms29_0 := NB161_148.out
         have hms29_1 := NB161_149.out
         refine skip_ (w1 := ?_) (by rfl) rfl ?_ ?_
         rotate_left
         ·go_simp
          rfl
         refine hK.out _ _ ⟨((cell_far (p := ⟨gb161, _, none⟩) (by first | exact Nat.ne_of_lt (Nat.lt_of_lt_of_le (by have := World.block_lt_of_cell? _ _ hw151_0; first | rwa [add_block] at this | exact this) GW161.out) | (rw [add_block]; exact Nat.ne_of_lt (Nat.lt_of_lt_of_le (by have := World.block_lt_of_cell? _ _ hw151_0; first | rwa [add_block] at this | exact this) GW161.out)) | (show (Addr.add _ _).block ≠ _; rw [add_block]; exact Nat.ne_of_lt (Nat.lt_of_lt_of_le (by have := World.block_lt_of_cell? _ _ hw151_0; first | rwa [add_block] at this | exact this) GW161.out)) | (dsimp only; exact Nat.ne_of_lt (Nat.lt_of_lt_of_le (by have := World.block_lt_of_cell? _ _ hw151_0; first | rwa [add_block] at this | exact this) GW161.out))) _).trans (((cell_far (p := ⟨gb161, _, none⟩) (by first | exact Nat.ne_of_lt (Nat.lt_of_lt_of_le (by have := World.block_lt_of_cell? _ _ hw151_0; first | rwa [add_block] at this | exact this) GW161.out) | (rw [add_block]; exact Nat.ne_of_lt (Nat.lt_of_lt_of_le (by have := World.block_lt_of_cell? _ _ hw151_0; first | rwa [add_block] at this | exact this) GW161.out)) | (show (Addr.add _ _).block ≠ _; rw [add_block]; exact Nat.ne_of_lt (Nat.lt_of_lt_of_le (by have := World.block_lt_of_cell? _ _ hw151_0; first | rwa [add_block] at this | exact this) GW161.out)) | (dsimp only; exact Nat.ne_of_lt (Nat.lt_of_lt_of_le (by have := World.block_lt_of_cell? _ _ hw151_0; first | rwa [add_block] at this | exact this) GW161.out))) _).trans (hHeld.1)))), ((cell_far (p := ⟨gb161, _, none⟩) (by first | exact Nat.ne_of_lt (Nat.lt_of_lt_of_le (by have := World.block_lt_of_cell? _ _ hw151_1; first | rwa [add_block] at this | exact this) GW161.out) | (rw [add_block]; exact Nat.ne_of_lt (Nat.lt_of_lt_of_le (by have := World.block_lt_of_cell? _ _ hw151_1; first | rwa [add_block] at this | exact this) GW161.out)) | (show (Addr.add _ _).block ≠ _; rw [add_block]; exact Nat.ne_of_lt (Nat.lt_of_lt_of_le (by have := World.block_lt_of_cell? _ _ hw151_1; first | rwa [add_block] at this | exact this) GW161.out)) | (dsimp only; exact Nat.ne_of_lt (Nat.lt_of_lt_of_le (by have := World.block_lt_of_cell? _ _ hw151_1; first | rwa [add_block] at this | exact this) GW161.out))) _).trans (((cell_far (p := ⟨gb161, _, none⟩) (by first | exact Nat.ne_of_lt (Nat.lt_of_lt_of_le (by have := World.block_lt_of_cell? _ _ hw151_1; first | rwa [add_block] at this | exact this) GW161.out) | (rw [add_block]; exact Nat.ne_of_lt (Nat.lt_of_lt_of_le (by have := World.block_lt_of_cell? _ _ hw151_1; first | rwa [add_block] at this | exact this) GW161.out)) | (show (Addr.add _ _).block ≠ _; rw [add_block]; exact Nat.ne_of_lt (Nat.lt_of_lt_of_le (by have := World.block_lt_of_cell? _ _ hw151_1; first | rwa [add_block] at this | exact this) GW161.out)) | (dsimp only; exact Nat.ne_of_lt (Nat.lt_of_lt_of_le (by have := World.block_lt_of_cell? _ _ hw151_1; first | rwa [add_block] at this | exact this) GW161.out))) _).trans (hHeld.2.1)))), ((cell_far (p := ⟨gb161, _, none⟩) (by first | exact Nat.ne_of_lt (Nat.lt_of_lt_of_le (by have := World.block_lt_of_cell? _ _ hw154_0; first | rwa [add_block] at this | exact this) GW161.out) | (rw [add_block]; exact Nat.ne_of_lt (Nat.lt_of_lt_of_le (by have := World.block_lt_of_cell? _ _ hw154_0; first | rwa [add_block] at this | exact this) GW161.out)) | (show (Addr.add _ _).block ≠ _; rw [add_block]; exact Nat.ne_of_lt (Nat.lt_of_lt_of_le (by have := World.block_lt_of_cell? _ _ hw154_0; first | rwa [add_block] at this | exact this) GW161.out)) | (dsimp only; exact Nat.ne_of_lt (Nat.lt_of_lt_of_le (by have := World.block_lt_of_cell? _ _ hw154_0; first | rwa [add_block] at this | exact this) GW161.out))) _).trans (((cell_far (p := ⟨gb161, _, none⟩) (by first | exact Nat.ne_of_lt (Nat.lt_of_lt_of_le (by have := World.block_lt_of_cell? _ _ hw154_0; first | rwa [add_block] at this | exact this) GW161.out) | (rw [add_block]; exact Nat.ne_of_lt (Nat.lt_of_lt_of_le (by have := World.block_lt_of_cell? _ _ hw154_0; first | rwa [add_block] at this | exact this) GW161.out)) | (show (Addr.add _ _).block ≠ _; rw [add_block]; exact Nat.ne_of_lt (Nat.lt_of_lt_of_le (by have := World.block_lt_of_cell? _ _ hw154_0; first | rwa [add_block] at this | exact this) GW161.out)) | (dsimp only; exact Nat.ne_of_lt (Nat.lt_of_lt_of_le (by have := World.block_lt_of_cell? _ _ hw154_0; first | rwa [add_block] at this | exact this) GW161.out))) _).trans (hHeld.2.2.1)))), ((cell_far (p := ⟨gb161, _, none⟩) (by first | exact Nat.ne_of_lt (Nat.lt_of_lt_of_le (by have := World.block_lt_of_cell? _ _ hw154_1; first | rwa [add_block] at this | exact this) GW161.out) | (rw [add_block]; exact Nat.ne_of_lt (Nat.lt_of_lt_of_le (by have := World.block_lt_of_cell? _ _ hw154_1; first | rwa [add_block] at this | exact this) GW161.out)) | (show (Addr.add _ _).block ≠ _; rw [add_block]; exact Nat.ne_of_lt (Nat.lt_of_lt_of_le (by have := World.block_lt_of_cell? _ _ hw154_1; first | rwa [add_block] at this | exact this) GW161.out)) | (dsimp only; exact Nat.ne_of_lt (Nat.lt_of_lt_of_le (by have := World.block_lt_of_cell? _ _ hw154_1; first | rwa [add_block] at this | exact this) GW161.out))) _).trans (((cell_far (p := ⟨gb161, _, none⟩) (by first | exact Nat.ne_of_lt (Nat.lt_of_lt_of_le (by have := World.block_lt_of_cell? _ _ hw154_1; first | rwa [add_block] at this | exact this) GW161.out) | (rw [add_block]; exact Nat.ne_of_lt (Nat.lt_of_lt_of_le (by have := World.block_lt_of_cell? _ _ hw154_1; first | rwa [add_block] at this | exact this) GW161.out)) | (show (Addr.add _ _).block ≠ _; rw [add_block]; exact Nat.ne_of_lt (Nat.lt_of_lt_of_le (by have := World.block_lt_of_cell? _ _ hw154_1; first | rwa [add_block] at this | exact this) GW161.out)) | (dsimp only; exact Nat.ne_of_lt (Nat.lt_of_lt_of_le (by have := World.block_lt_of_cell? _ _ hw154_1; first | rwa [add_block] at this | exact this) GW161.out))) _).trans (hHeld.2.2.2))))⟩ (fun hHeld => ?_)
         clear hK K
         refine done_ (done_of HT_.out (by kernel_rfl)) ?_
         have hnb30 := NB149_148.out
         have hnc30 := NB148_149.out
         have hnb31 := NB149_161.out
         have hnc31 := NB161_149.out
         have hcz32_0 : w27.cell? ⟨gb149, 0, none⟩ = some (.float .f64 b_x150000_2) := (blk_cell BK149.out 0).trans rfl
         have hcz32_1 : w27.cell? ⟨gb149, 1, none⟩ = some (.float .f64 b_x150001_2) := (blk_cell BK149.out 1).trans rfl
         have hfz32_0 := blk_frozen BK149.out 0
         have hfz32_1 := blk_frozen BK149.out 1
         have hnb33 := NB161_148.out
         have hnc33 := NB148_161.out
         have hcz34_0 : w27.cell? ⟨gb161, 0, none⟩ = some (.float .f64 0) := (blk_cell BK161.out 0).trans rfl
         have hcz34_1 : w27.cell? ⟨gb161, 1, none⟩ = some (.float .f64 0) := (blk_cell BK161.out 1).trans rfl
         have hfz34_0 := blk_frozen BK161.out 0
         have hfz34_1 := blk_frozen BK161.out 1
         try go_wp2_with (first | ((with_reducible refine gate_dst (N := 44) rfl ?_); refine Hand.arith_event rfl rfl rfl rfl rfl ?_; intro b_o44 q_o44 h_o44; have hc_o44 : Aside0 (Fl.cls .f64 b_o44 = Fl.cls .f64 (open_add_f64 x150000_2 t159)) := ⟨(h_o44.out.trans (by rw [(hc_x150000_2.out : Fl.cls .f64 b_x150000_2 = Fl.cls .f64 x150000_2), (hc_t159.out : Fl.cls .f64 b_t159 = Fl.cls .f64 t159)])).trans (cls_add64 x150000_2 t159).symm⟩) | ((with_reducible refine gate_dst (N := 49) rfl ?_); refine Hand.arith_event rfl rfl rfl rfl rfl ?_; intro b_o49 q_o49 h_o49; have hc_o49 : Aside0 (Fl.cls .f64 b_o49 = Fl.cls .f64 (open_add_f64 x150001_2 t160)) := ⟨(h_o49.out.trans (by rw [(hc_x150001_2.out : Fl.cls .f64 b_x150001_2 = Fl.cls .f64 x150001_2), (hc_t160.out : Fl.cls .f64 b_t160 = Fl.cls .f64 t160)])).trans (cls_add64 x150001_2 t160).symm⟩))
         go_roundg k2
         case measure => have := HJ2.out; have := HK2.out; omega
         case rel => exact ⟨(wrap64 (x7_2 + 1)), (open_add_f64 x150000_2 t159), b_o44, (open_add_f64 x150001_2 t160), b_o49, (by first | rfl | (simp; done) | (simp [*]; done)), H', ⟨by have := HJ2.out; have := HK2.out; omega⟩, ⟨by (with_reducible repeat (first | refine blk_drewN ?_ _ | refine blk_drew ?_ | refine blk_alloc ?_ _)); refine blk_far ?_ NB148_149.out _; (with_reducible repeat (first | refine blk_drewN ?_ _ | refine blk_drew ?_ | refine blk_alloc ?_ _)); refine blk_far ?_ NB148_149.out _; (with_reducible repeat (first | refine blk_drewN ?_ _ | refine blk_drew ?_ | refine blk_alloc ?_ _)); refine blk_far ?_ NB148_161.out _; (with_reducible repeat (first | refine blk_drewN ?_ _ | refine blk_drew ?_ | refine blk_alloc ?_ _)); refine blk_far ?_ NB148_161.out _; (with_reducible repeat (first | refine blk_drewN ?_ _ | refine blk_drew ?_ | refine blk_alloc ?_ _)); exact BK148.out⟩, ⟨by (with_reducible repeat (first | refine blk_drewN ?_ _ | refine blk_drew ?_ | refine blk_alloc ?_ _)); refine blk_put (cs := #[.float .f64 b_o44, .float .f64 b_x150001_2]) ?_ 1 _ rfl; (with_reducible repeat (first | refine blk_drewN ?_ _ | refine blk_drew ?_ | refine blk_alloc ?_ _)); refine blk_put (cs := #[.float .f64 b_x150000_2, .float .f64 b_x150001_2]) ?_ 0 _ rfl; (with_reducible repeat (first | refine blk_drewN ?_ _ | refine blk_drew ?_ | refine blk_alloc ?_ _)); refine blk_far ?_ NB149_161.out _; (with_reducible repeat (first | refine blk_drewN ?_ _ | refine blk_drew ?_ | refine blk_alloc ?_ _)); refine blk_far ?_ NB149_161.out _; (with_reducible repeat (first | refine blk_drewN ?_ _ | refine blk_drew ?_ | refine blk_alloc ?_ _)); exact BK149.out⟩, ⟨by repeat (first | (with_reducible first | exact HB.out | apply below_alloc | apply pw_below_drewN | apply below_drew1 | refine below_set ?_ GE148.out | refine below_set ?_ GE149.out | refine below_set ?_ GE161.out) | exact HB.out)⟩, ⟨hc_o44.out⟩, ⟨hc_o49.out⟩⟩
        ·rw [if_neg c17] at H
         exact absurd H (by simp)
       ·rw [if_neg c15] at H
        exact absurd H (by simp)
      ·rw [if_neg c14] at H
       have c14b0 : decide (x7_2 < (l0.length : Int)) = false := decide_eq_false c14
       clear c14
       simp only [Option.some.injEq, Prod.mk.injEq] at H
       obtain ⟨rfl, rfl, rfl⟩ := H
       have hnb35 := NB149_148.out
       have hnc35 := NB148_149.out
       have hcz36_0 : wr.cell? ⟨gb149, 0, none⟩ = some (.float .f64 b_x150000_2) := (blk_cell BK149.out 0).trans rfl
       have hcz36_1 : wr.cell? ⟨gb149, 1, none⟩ = some (.float .f64 b_x150001_2) := (blk_cell BK149.out 1).trans rfl
       have hfz36_0 := blk_frozen BK149.out 0
       have hfz36_1 := blk_frozen BK149.out 1
       have hcz37_0 : wr.cell? ⟨gb148, 0, none⟩ = some (.float .f64 0) := (blk_cell BK148.out 0).trans rfl
       have hcz37_1 : wr.cell? ⟨gb148, 1, none⟩ = some (.float .f64 0) := (blk_cell BK148.out 1).trans rfl
       have hfz37_0 := blk_frozen BK148.out 0
       have hfz37_1 := blk_frozen BK148.out 1
       go_wp2_with (first | ((with_reducible refine gate_dst (N := 44) rfl ?_); refine Hand.arith_event rfl rfl rfl rfl rfl ?_; intro b_o44 q_o44 h_o44; have hc_o44 : Aside0 (Fl.cls .f64 b_o44 = Fl.cls .f64 (open_add_f64 x150000_2 t159)) := ⟨(h_o44.out.trans (by rw [(hc_x150000_2.out : Fl.cls .f64 b_x150000_2 = Fl.cls .f64 x150000_2), (hc_t159.out : Fl.cls .f64 b_t159 = Fl.cls .f64 t159)])).trans (cls_add64 x150000_2 t159).symm⟩) | ((with_reducible refine gate_dst (N := 49) rfl ?_); refine Hand.arith_event rfl rfl rfl rfl rfl ?_; intro b_o49 q_o49 h_o49; have hc_o49 : Aside0 (Fl.cls .f64 b_o49 = Fl.cls .f64 (open_add_f64 x150001_2 t160)) := ⟨(h_o49.out.trans (by rw [(hc_x150001_2.out : Fl.cls .f64 b_x150001_2 = Fl.cls .f64 x150001_2), (hc_t160.out : Fl.cls .f64 b_t160 = Fl.cls .f64 t160)])).trans (cls_add64 x150001_2 t160).symm⟩))
       refine bodyPost_ret (results_ct rfl _ _ gb148 34 #[.float .f64 b_x150000_2, .float .f64 b_x150001_2] (0, 0) _ rfl (by (with_reducible repeat (first | refine blk_drewN ?_ _ | refine blk_drew ?_ | refine blk_alloc ?_ _)); refine blk_put (cs := #[.float .f64 b_x150000_2, .float .f64 0]) ?_ 1 _ rfl; (with_reducible repeat (first | refine blk_drewN ?_ _ | refine blk_drew ?_ | refine blk_alloc ?_ _)); refine blk_put (cs := #[.float .f64 0, .float .f64 0]) ?_ 0 _ rfl; (with_reducible repeat (first | refine blk_drewN ?_ _ | refine blk_drew ?_ | refine blk_alloc ?_ _)); exact BK148.out) Try.underlying34 rfl (by kernel_rfl)) rfl ?_
       exact ⟨b_x150000_2, b_x150001_2, ⟨hc_x150000_2.out⟩, ⟨hc_x150001_2.out⟩, by first | rfl | (simp [errW_none, errW_some] <;> rfl) | (simp [*, errW_none, errW_some] <;> rfl), by repeat (first | (with_reducible first | exact HB.out | apply below_alloc | apply pw_below_drewN | apply below_drew1 | refine below_set ?_ GE148.out | refine below_set ?_ GE149.out) | exact HB.out)⟩

end Go.Proofs.Ytigbdfhlpnabdaa.MFnExactBits15
