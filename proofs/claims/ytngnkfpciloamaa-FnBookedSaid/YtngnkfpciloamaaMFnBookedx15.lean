/- What the code of the law FnBooked answers. -/
import Derived.Test.YtngnkfpciloamaaShortFnBooked
import Derived.Test.YtngnkfpciloamaaMFnBookedx0
import Derived.Test.YtngnkfpciloamaaMFnBookedx2
import Derived.Test.YtngnkfpciloamaaMFnBookedx4
import Derived.Test.YtngnkfpciloamaaMFnBookedx5
import Derived.Test.YtngnkfpciloamaaMFnBookedx12
import Derived.Test.YtngnkfpciloamaaMFnBookedx14
namespace Go.Proofs.Ytngnkfpciloamaa.MFnBooked
open Go.RowKit Go.Proofs.YtngnkfpciloamaaW.PrintWords Go.Proofs.YtngnkfpciloamaaW.PrintLast Go.Proofs.YtngnkfpciloamaaW.PrintMore
attribute [local go_sem] max2_int min2_int max_two min_two max_three min_three max_four min_four
set_option linter.unusedVariables false
set_option linter.unusedSimpArgs false
mutual
def spec_Add18.j0 : Nat → Bool → List (S50) → List Int → List Int → Int → Int → Int → Option ((List (S50)) × List Int × List Int × Bool)
 | 0, _, _, _, _, _, _, _ => none
 | k + 1, x55, x400000, x400001, x400002, x401000, x401001, x401002 => if x55 = true then (some (x400000, x400001, x400002, false)) else (spec_Add18.l0 k 0 x400000 x400001 x400002 x401000 x401001 x401002)
def spec_Add18.l0 : Nat → Int → List (S50) → List Int → List Int → Int → Int → Int → Option ((List (S50)) × List Int × List Int × Bool)
 | 0, _, _, _, _, _, _, _ => none
 | k + 1, x6, x400000, x400001, x400002, x401000, x401001, x401002 => if x6 < (x400000.length : Int) then (if 0 ≤ x6 then ((spec_l18Shares.f x401000 x401001 x401002 ((rd_T50 x400000 x6).f0) ((rd_T50 x400000 x6).f1) ((rd_T50 x400000 x6).f2)).bind fun t418 => (if t418 = true then (some (x400000, x400001, x400002, false)) else (spec_Add18.l0 k (wrap64 (x6 + 1)) x400000 x400001 x400002 x401000 x401001 x401002))) else (none)) else (if x400000.length < 5864062014805 then ((spec_l18Write.f k (x400000 ++ [(⟨x401000, x401001, x401002⟩ : S50)]) (x400001.length : Int) (x400002.length : Int)).bind fun bt422 => (some (bt422.1, bt422.2.1, bt422.2.2, true))) else (none))
end
def spec_Add18.f (k : Nat) (lp : List (S50)) (lq : List Int) (lr : List Int) (a1_0 : Int) (a1_1 : Int) (a1_2 : Int) : Option ((List (S50)) × List Int × List Int × Bool) := (spec_l18Copy.f lp lq lr).bind fun bt402 => ((spec_Faults.f k bt402.1 bt402.2.1 bt402.2.2).bind fun t411 => (if (t411.length : Int) > 0 then (spec_Add18.j0 k true bt402.1 bt402.2.1 bt402.2.2 a1_0 a1_1 a1_2) else (if (bt402.1.length : Int) = 30 then (spec_Add18.j0 k true bt402.1 bt402.2.1 bt402.2.2 a1_0 a1_1 a1_2) else (if a1_0 = a1_1 then (spec_Add18.j0 k true bt402.1 bt402.2.1 bt402.2.2 a1_0 a1_1 a1_2) else ((spec_l1In.f a1_0 0 (wrap64 ((bt402.2.1.length : Int) - 1))).bind fun t414 => (if t414 = true then ((spec_l1In.f a1_1 0 (wrap64 ((bt402.2.1.length : Int) - 1))).bind fun t415 => (if t415 = true then ((spec_l1In.f a1_2 (-1) (wrap64 ((bt402.2.2.length : Int) - 1))).bind fun t416 => (spec_Add18.j0 k (!t416) bt402.1 bt402.2.1 bt402.2.2 a1_0 a1_1 a1_2)) else (spec_Add18.j0 k true bt402.1 bt402.2.1 bt402.2.2 a1_0 a1_1 a1_2))) else (spec_Add18.j0 k true bt402.1 bt402.2.1 bt402.2.2 a1_0 a1_1 a1_2)))))))
theorem spec_Add18.mono_l : ∀ k, (∀ y0 y1 y2 y3 y4 y5 y6, LeO (spec_Add18.j0 k y0 y1 y2 y3 y4 y5 y6) (spec_Add18.j0 (k + 1) y0 y1 y2 y3 y4 y5 y6)) ∧ (∀ y0 y1 y2 y3 y4 y5 y6, LeO (spec_Add18.l0 k y0 y1 y2 y3 y4 y5 y6) (spec_Add18.l0 (k + 1) y0 y1 y2 y3 y4 y5 y6))
 | 0 => ⟨fun _ _ _ _ _ _ _ r h => by simp [spec_Add18.j0] at h, fun _ _ _ _ _ _ _ r h => by simp [spec_Add18.l0] at h⟩
 | k + 1 => by
  obtain ⟨ih0, ih1⟩ := spec_Add18.mono_l k
  refine ⟨?_, ?_⟩
  ·intro y0 y1 y2 y3 y4 y5 y6
   unfold spec_Add18.j0
   repeat' first
   | (with_reducible exact ih0 _ _ _ _ _ _ _)
   | (with_reducible exact ih1 _ _ _ _ _ _ _)
   | (with_reducible exact spec_Faults.mono _ _ _ _)
   | (with_reducible exact spec_l18Write.mono _ _ _ _)
   | (with_reducible exact LeO.refl _)
   | (with_reducible exact LeO.none _)
   | (with_reducible refine LeO.ite ?_ ?_)
   | (with_reducible refine LeO.bind ?_ (fun _ => ?_))
   | exact ih0 _ _ _ _ _ _ _
   | exact ih1 _ _ _ _ _ _ _
   | exact spec_Faults.mono _ _ _ _
   | exact spec_l18Write.mono _ _ _ _
   | exact LeO.none _
   | refine LeO.ite ?_ ?_
   | refine LeO.bind ?_ (fun _ => ?_)
  ·intro y0 y1 y2 y3 y4 y5 y6
   unfold spec_Add18.l0
   repeat' first
   | (with_reducible exact ih0 _ _ _ _ _ _ _)
   | (with_reducible exact ih1 _ _ _ _ _ _ _)
   | (with_reducible exact spec_Faults.mono _ _ _ _)
   | (with_reducible exact spec_l18Write.mono _ _ _ _)
   | (with_reducible exact LeO.refl _)
   | (with_reducible exact LeO.none _)
   | (with_reducible refine LeO.ite ?_ ?_)
   | (with_reducible refine LeO.bind ?_ (fun _ => ?_))
   | exact ih0 _ _ _ _ _ _ _
   | exact ih1 _ _ _ _ _ _ _
   | exact spec_Faults.mono _ _ _ _
   | exact spec_l18Write.mono _ _ _ _
   | exact LeO.none _
   | refine LeO.ite ?_ ?_
   | refine LeO.bind ?_ (fun _ => ?_)
theorem spec_Add18.mono : ∀ a0 a1 a2 a3 a4 a5 k, LeO (spec_Add18.f k a0 a1 a2 a3 a4 a5) (spec_Add18.f (k + 1) a0 a1 a2 a3 a4 a5) := by
 intro a0 a1 a2 a3 a4 a5 k
 obtain ⟨ih0, ih1⟩ := spec_Add18.mono_l k
 unfold spec_Add18.f
 repeat' first
   | (with_reducible exact ih0 _ _ _ _ _ _ _)
   | (with_reducible exact ih1 _ _ _ _ _ _ _)
   | (with_reducible exact spec_Faults.mono _ _ _ _)
   | (with_reducible exact spec_l18Write.mono _ _ _ _)
   | (with_reducible exact LeO.refl _)
   | (with_reducible exact LeO.none _)
   | (with_reducible refine LeO.ite ?_ ?_)
   | (with_reducible refine LeO.bind ?_ (fun _ => ?_))
   | exact ih0 _ _ _ _ _ _ _
   | exact ih1 _ _ _ _ _ _ _
   | exact spec_Faults.mono _ _ _ _
   | exact spec_l18Write.mono _ _ _ _
   | exact LeO.none _
   | refine LeO.ite ?_ ?_
   | refine LeO.bind ?_ (fun _ => ?_)
def spec_Add18.T9 : Bool × List (List Nat × List Nat) := (true, [([], []), ([0], [0]), ([], []), ([2], [2]), ([1, 3], [1, 3]), ([], []), ([5], [5]), ([6], [6]), ([], []), ([8], [8]), ([9], [9]), ([4, 7, 10, 4], [4, 7, 10]), ([11, 11, 0, 1, 2, 3, 4, 5, 6, 7, 8, 9, 10, 11], [11]), ([12, 0, 1, 2, 3, 4, 5, 6, 7, 8, 9, 10, 11, 12], [])])
def spec_Add18.B9 : List Nat := [0, 1, 0, 4, 15, 0, 32, 96, 0, 256, 768, 2047, 4095, 8191]
theorem spec_Add18.tab9 : rtab .any (opsOf Try.f32 9) = spec_Add18.T9 := by kernel_rfl
theorem spec_Add18.bits9 : waitsOk spec_Add18.T9.2 spec_Add18.B9 = true := by kernel_rfl
set_option maxHeartbeats 8000000 in
set_option maxRecDepth 100000 in
theorem spec_Add18.calls (k : Nat) (Ap : Option Addr) (cp : Nat) (lp : List (S50)) (Aq : Option Addr) (cq : Nat) (lq : List Int) (Ar : Option Addr) (cr : Nat) (lr : List Int) (a1_0 : Int) (a1_1 : Int) (a1_2 : Int) (r1 : List (S50)) (r2 : List Int) (r3 : List Int) (r4 : Bool) (w : World) (hr0_0 : Kd.C k50 w Ap lp.length lp) (hc0_0 : lp.length ≤ cp) (hr0_1 : Kd.C (Kd.int .i64) w Aq lq.length lq) (hc0_1 : lq.length ≤ cq) (hr0_2 : Kd.C (Kd.int .i64) w Ar lr.length lr) (hc0_2 : lr.length ≤ cr) (h : spec_Add18.f k lp lq lr a1_0 a1_1 a1_2 = some (r1, r2, r3, r4)) :
  Calls Try.prog 32 #[.agg #[.slice Ap lp.length cp, .slice Aq lq.length cq, .slice Ar lr.length cr], .agg #[.int .i64 a1_0, .int .i64 a1_1, .int .i64 a1_2]] w fun e w' => ∃ v0_ v1_ v2_ : Value, e = .returned (.tuple #[.agg #[v0_, v1_, v2_], .bool r4]) ∧ Kd.R k50 50 w' w.heap.size (fun _ => True) v0_ r1 ∧ Kd.R (Kd.int .i64) 3 w' w.heap.size (fun k_ => some k_ ≠ (v2_ : Value).ownBlock) v1_ r2 ∧ Kd.R (Kd.int .i64) 3 w' w.heap.size (fun k_ => some k_ ≠ (v1_ : Value).ownBlock) v2_ r3 ∧ Below w.heap.size w w' := by
 have hu29 := Try.underlying29
 have hu50 := Try.underlying50
 have HR0_0 := mk0 hr0_0
 have HC0_0 := mk0 hc0_0
 clear hr0_0 hc0_0
 have HR0_1 := mk0 hr0_1
 have HC0_1 := mk0 hc0_1
 clear hr0_1 hc0_1
 have HR0_2 := mk0 hr0_2
 have HC0_2 := mk0 hc0_2
 clear hr0_2 hc0_2
 have HB := mk0 (Below.refl w.heap.size w)
 have H : ((spec_l18Copy.f lp lq lr).bind fun bt402 => ((spec_Faults.f k bt402.1 bt402.2.1 bt402.2.2).bind fun t411 => (if (t411.length : Int) > 0 then (spec_Add18.j0 k true bt402.1 bt402.2.1 bt402.2.2 a1_0 a1_1 a1_2) else (if (bt402.1.length : Int) = 30 then (spec_Add18.j0 k true bt402.1 bt402.2.1 bt402.2.2 a1_0 a1_1 a1_2) else (if a1_0 = a1_1 then (spec_Add18.j0 k true bt402.1 bt402.2.1 bt402.2.2 a1_0 a1_1 a1_2) else ((spec_l1In.f a1_0 0 (wrap64 ((bt402.2.1.length : Int) - 1))).bind fun t414 => (if t414 = true then ((spec_l1In.f a1_1 0 (wrap64 ((bt402.2.1.length : Int) - 1))).bind fun t415 => (if t415 = true then ((spec_l1In.f a1_2 (-1) (wrap64 ((bt402.2.2.length : Int) - 1))).bind fun t416 => (spec_Add18.j0 k (!t416) bt402.1 bt402.2.1 bt402.2.2 a1_0 a1_1 a1_2)) else (spec_Add18.j0 k true bt402.1 bt402.2.1 bt402.2.2 a1_0 a1_1 a1_2))) else (spec_Add18.j0 k true bt402.1 bt402.2.1 bt402.2.2 a1_0 a1_1 a1_2)))))))) = some (r1, r2, r3, r4) := h
 clear h
 replace H := Option.bind_eq_some_iff.mp H
 obtain ⟨⟨t402, t405, t408⟩, A30, H⟩ := H
 replace H : ((spec_Faults.f k t402 t405 t408).bind fun t411 => (if (t411.length : Int) > 0 then (spec_Add18.j0 k true t402 t405 t408 a1_0 a1_1 a1_2) else (if (t402.length : Int) = 30 then (spec_Add18.j0 k true t402 t405 t408 a1_0 a1_1 a1_2) else (if a1_0 = a1_1 then (spec_Add18.j0 k true t402 t405 t408 a1_0 a1_1 a1_2) else ((spec_l1In.f a1_0 0 (wrap64 ((t405.length : Int) - 1))).bind fun t414 => (if t414 = true then ((spec_l1In.f a1_1 0 (wrap64 ((t405.length : Int) - 1))).bind fun t415 => (if t415 = true then ((spec_l1In.f a1_2 (-1) (wrap64 ((t408.length : Int) - 1))).bind fun t416 => (spec_Add18.j0 k (!t416) t402 t405 t408 a1_0 a1_1 a1_2)) else (spec_Add18.j0 k true t402 t405 t408 a1_0 a1_1 a1_2))) else (spec_Add18.j0 k true t402 t405 t408 a1_0 a1_1 a1_2))))))) = some (r1, r2, r3, r4) := H
 have A3 := mk0 A30
 clear A30
 have HC4 := mk0 H
 clear H
 go_enter Try.func32, Try.ntmps32
 go_upto_region 2 with (first | ((with_reducible refine gate_dst (N := 2) rfl ?_); (try (refine gate_guard (by rfl) ?_; dsimp only)); refine box_event ?hg (N := 2) ?hd (cs := #[.slice Ap lp.length cp, .slice Aq lq.length cq, .slice Ar lr.length cr]) (t := 29) ?hr ?_; (case hd | hg => rfl); (case hr => first | (go_simp; done) | (go_simp; rfl)); intro gb399 hg w5 hbox hb; have n0_ := mk0 (below_step (hA HB.out) hb); have n1_ := mk0 (hbox); have n2_ := mk0 ((by rw [hg]; exact (below_size (hA HB.out)) : w.heap.size ≤ gb399)); have n3_ := mk0 ((by rw [hg]; exact (below_size (hA HB.out)) : w.heap.size ≤ gb399)); clear HB; have HB := n0_; have BK399 := n1_; have GW399 := n2_; have GE399 := n3_; clear n0_ n1_ n2_ n3_; clear hb hbox hg) | ((with_reducible refine gate_dst (N := 3) rfl ?_); (try (refine gate_guard (by rfl) ?_; dsimp only)); refine box_event ?hg (N := 3) ?hd (cs := #[.int .i64 a1_0, .int .i64 a1_1, .int .i64 a1_2]) (t := 50) ?hr ?_; (case hd | hg => rfl); (case hr => first | (go_simp; done) | (go_simp; rfl)); intro gb400 hg w6 hbox hb; have n0_ := mk0 (bB BK399.out hb); have n1_ := mk0 (below_step (hA HB.out) hb); have n2_ := mk0 (hbox); have n3_ := mk0 ((by rw [hg]; exact (below_size (hA HB.out)) : w.heap.size ≤ gb400)); have n4_ := mk0 ((by rw [hg]; exact (below_size (hA HB.out)) : w.heap.size ≤ gb400)); have n5_ := mk0 ((by rw [hg]; exact Nat.ne_of_lt (blk_lt (g := gb399) (o := .cells #[.slice Ap lp.length cp, .slice Aq lq.length cq, .slice Ar lr.length cr] 29 (0, 0)) (bA BK399.out)) : gb399 ≠ gb400)); have n6_ := mk0 ((by rw [hg]; exact Nat.ne_of_gt (blk_lt (g := gb399) (o := .cells #[.slice Ap lp.length cp, .slice Aq lq.length cq, .slice Ar lr.length cr] 29 (0, 0)) (bA BK399.out)) : gb400 ≠ gb399)); clear BK399; clear HB; have BK399 := n0_; have HB := n1_; have BK400 := n2_; have GW400 := n3_; have GE400 := n4_; have NB399_400 := n5_; have NB400_399 := n6_; clear n0_ n1_ n2_ n3_ n4_ n5_ n6_; clear hb hbox hg) | ((with_reducible refine gate_dst (N := 4) rfl ?_); (try (refine gate_guard (by rfl) ?_; dsimp only)); refine box_event ?hg (N := 4) ?hd (cs := #[.slice none 0 0, .slice none 0 0, .slice none 0 0]) (t := 29) ?hr ?_; (case hd | hg => rfl); (case hr => first | (go_simp; done) | (go_simp; rfl)); intro gb401 hg w7 hbox hb; have n0_ := mk0 (bB BK399.out hb); have n1_ := mk0 (bB BK400.out hb); have n2_ := mk0 (below_step (hA HB.out) hb); have n3_ := mk0 (hbox); have n4_ := mk0 ((by rw [hg]; exact (below_size (hA HB.out)) : w.heap.size ≤ gb401)); have n5_ := mk0 ((by rw [hg]; exact (below_size (hA HB.out)) : w.heap.size ≤ gb401)); have n6_ := mk0 ((by rw [hg]; exact Nat.ne_of_lt (blk_lt (g := gb399) (o := .cells #[.slice Ap lp.length cp, .slice Aq lq.length cq, .slice Ar lr.length cr] 29 (0, 0)) (bA BK399.out)) : gb399 ≠ gb401)); have n7_ := mk0 ((by rw [hg]; exact Nat.ne_of_gt (blk_lt (g := gb399) (o := .cells #[.slice Ap lp.length cp, .slice Aq lq.length cq, .slice Ar lr.length cr] 29 (0, 0)) (bA BK399.out)) : gb401 ≠ gb399)); have n8_ := mk0 ((by rw [hg]; exact Nat.ne_of_lt (blk_lt (g := gb400) (o := .cells #[.int .i64 a1_0, .int .i64 a1_1, .int .i64 a1_2] 50 (0, 0)) (bA BK400.out)) : gb400 ≠ gb401)); have n9_ := mk0 ((by rw [hg]; exact Nat.ne_of_gt (blk_lt (g := gb400) (o := .cells #[.int .i64 a1_0, .int .i64 a1_1, .int .i64 a1_2] 50 (0, 0)) (bA BK400.out)) : gb401 ≠ gb400)); clear BK399; clear BK400; clear HB; have BK399 := n0_; have BK400 := n1_; have HB := n2_; have BK401 := n3_; have GW401 := n4_; have GE401 := n5_; have NB399_401 := n6_; have NB401_399 := n7_; have NB400_401 := n8_; have NB401_400 := n9_; clear n0_ n1_ n2_ n3_ n4_ n5_ n6_ n7_ n8_ n9_; clear hb hbox hg; have hnb8 := NB399_400.out; have hnc8 := NB400_399.out; have hnb9 := NB399_401.out; have hnc9 := NB401_399.out; have hcz10_0 : w7.cell? ⟨gb399, 0, none⟩ = some (.slice Ap lp.length cp) := (blk_cell BK399.out 0).trans rfl; have hcz10_1 : w7.cell? ⟨gb399, 1, none⟩ = some (.slice Aq lq.length cq) := (blk_cell BK399.out 1).trans rfl; have hcz10_2 : w7.cell? ⟨gb399, 2, none⟩ = some (.slice Ar lr.length cr) := (blk_cell BK399.out 2).trans rfl; have hfz10_0 := blk_frozen BK399.out 0; have hfz10_1 := blk_frozen BK399.out 1; have hfz10_2 := blk_frozen BK399.out 2) | ((with_reducible refine gate_callee (f := 56) rfl ?_); refine goesL_ (some 8) rfl rfl Try.func56 (by kernel_rfl) rfl #[.agg #[.slice Ap lp.length cp, .slice Aq lq.length cq, .slice Ar lr.length cr]] rfl ar ?_; (with_reducible refine (spec_l18Copy.calls _ _ lp _ _ lq _ _ lr t402 t405 t408 _ ?side1 ?side2 ?side3 ?side4 ?side5 ?side6 A3.out).mono ?_); (case side1 => exact cA (Kd.C_below HR0_0.out HB.out)); (case side2 => exact HC0_0.out); (case side3 => exact cA (Kd.C_below HR0_1.out HB.out)); (case side4 => exact HC0_1.out); (case side5 => exact cA (Kd.C_below HR0_2.out HB.out)); (case side6 => exact HC0_2.out); rintro e w11 ⟨v403, v406, v409, rfl, ho0, ho1, ho2, hb⟩; refine ⟨_, rfl, ?_⟩; have n0_ := mk0 (Kd.R_lower (Kd.R_newB ho0 (g := gb400) (o := .cells #[.int .i64 a1_0, .int .i64 a1_1, .int .i64 a1_2] 50 (0, 0)) (bA BK400.out)) (below_size (hA HB.out))); have n1_ := mk0 (Kd.R_lower ho1 (below_size (hA HB.out))); have n2_ := mk0 (Kd.R_lower ho2 (below_size (hA HB.out))); have n3_ := mk0 (bB BK399.out hb); have n4_ := mk0 (bB BK400.out hb); have n5_ := mk0 (bB BK401.out hb); have n6_ := mk0 (below_step (hA HB.out) hb); clear BK399; clear BK400; clear BK401; clear HB; have HO404 := n0_; have HO407 := n1_; have HO410 := n2_; have BK399 := n3_; have BK400 := n4_; have BK401 := n5_; have HB := n6_; clear n0_ n1_ n2_ n3_ n4_ n5_ n6_; (try clear hb); (try clear hb2); (try clear hk); (try clear hi); (try clear ho0); (try clear ho1); (try clear ho2); obtain ⟨Ao12, co12, eo12⟩ := Kd.R_slice HO404.out; subst eo12; have hcz13_0 : w11.cell? ⟨gb399, 0, none⟩ = some (.slice Ap lp.length cp) := (blk_cell BK399.out 0).trans rfl; have hcz13_1 : w11.cell? ⟨gb399, 1, none⟩ = some (.slice Aq lq.length cq) := (blk_cell BK399.out 1).trans rfl; have hcz13_2 : w11.cell? ⟨gb399, 2, none⟩ = some (.slice Ar lr.length cr) := (blk_cell BK399.out 2).trans rfl; have hfz13_0 := blk_frozen BK399.out 0; have hfz13_1 := blk_frozen BK399.out 1; have hfz13_2 := blk_frozen BK399.out 2; obtain ⟨Ao14, co14, eo14⟩ := Kd.R_slice HO407.out; subst eo14; obtain ⟨Ao15, co15, eo15⟩ := Kd.R_slice HO410.out; subst eo15))
 (try simp only [Act.put, s1, s2, s3])
 go_cut [55] (fun v55 wc => ∃ (kq : Nat) (x55_3 : Bool), v55 = .bool x55_3 ∧ Aside0 (spec_Add18.j0 kq x55_3 t402 t405 t408 a1_0 a1_1 a1_2 = some (r1, r2, r3, r4)) ∧ Aside0 (kq ≤ k) ∧ Aside0 (Kd.R k50 50 wc w.heap.size (fun k_ => k_ ≠ gb400) (.slice Ao12 t402.length co12) t402) ∧ Aside0 (Kd.R (Kd.int .i64) 3 wc w.heap.size (fun k_ => some k_ ≠ ((.slice Ao15 t408.length co15) : Value).ownBlock) (.slice Ao14 t405.length co14) t405) ∧ Aside0 (Kd.R (Kd.int .i64) 3 wc w.heap.size (fun k_ => some k_ ≠ ((.slice Ao14 t405.length co14) : Value).ownBlock) (.slice Ao15 t408.length co15) t408) ∧ Aside0 (wc.heap[gb399]? = some (.cells #[(.slice Ao12 t402.length co12), (.slice Ao14 t405.length co14), (.slice Ao15 t408.length co15)] 29 (0, 0))) ∧ Aside0 (wc.heap[gb400]? = some (.cells #[.int .i64 a1_0, .int .i64 a1_1, .int .i64 a1_2] 50 (0, 0))) ∧ Aside0 (wc.heap[gb401]? = some (.cells #[(.slice none 0 0), (.slice none 0 0), (.slice none 0 0)] 29 (0, 0))) ∧ Aside0 (Below w.heap.size w wc))
 case first =>
  have H := HC4.out
  clear HC4
  replace H := Option.bind_eq_some_iff.mp H
  obtain ⟨t411, A160, H⟩ := H
  replace H : (if (t411.length : Int) > 0 then (spec_Add18.j0 k true t402 t405 t408 a1_0 a1_1 a1_2) else (if (t402.length : Int) = 30 then (spec_Add18.j0 k true t402 t405 t408 a1_0 a1_1 a1_2) else (if a1_0 = a1_1 then (spec_Add18.j0 k true t402 t405 t408 a1_0 a1_1 a1_2) else ((spec_l1In.f a1_0 0 (wrap64 ((t405.length : Int) - 1))).bind fun t414 => (if t414 = true then ((spec_l1In.f a1_1 0 (wrap64 ((t405.length : Int) - 1))).bind fun t415 => (if t415 = true then ((spec_l1In.f a1_2 (-1) (wrap64 ((t408.length : Int) - 1))).bind fun t416 => (spec_Add18.j0 k (!t416) t402 t405 t408 a1_0 a1_1 a1_2)) else (spec_Add18.j0 k true t402 t405 t408 a1_0 a1_1 a1_2))) else (spec_Add18.j0 k true t402 t405 t408 a1_0 a1_1 a1_2)))))) = some (r1, r2, r3, r4) := H
  have A16 := mk0 A160
  clear A160
  by_cases c17 : (t411.length : Int) > 0
  ·rw [if_pos c17] at H
   have c17b0 : decide (0 < (t411.length : Int)) = true := decide_eq_true c17
   have c17b1 : decide (0 < t411.length) = true := decide_eq_true (by omega)
   clear c17
   (first | rw [c17b0] | (simp only [i64_w]; rw [c17b0]) | skip)
   have H' := mk0 H
   clear H
   have hnb18 := NB399_400.out
   have hnc18 := NB400_399.out
   have hnb19 := NB399_401.out
   have hnc19 := NB401_399.out
   have hcz20_0 : w11.cell? ⟨gb399, 0, none⟩ = some (.slice Ap lp.length cp) := (blk_cell BK399.out 0).trans rfl
   have hcz20_1 : w11.cell? ⟨gb399, 1, none⟩ = some (.slice Aq lq.length cq) := (blk_cell BK399.out 1).trans rfl
   have hcz20_2 : w11.cell? ⟨gb399, 2, none⟩ = some (.slice Ar lr.length cr) := (blk_cell BK399.out 2).trans rfl
   have hfz20_0 := blk_frozen BK399.out 0
   have hfz20_1 := blk_frozen BK399.out 1
   have hfz20_2 := blk_frozen BK399.out 2
   go_wp2_with (first | ((with_reducible refine gate_callee (f := 19) rfl ?_); refine goesL_ (some 10) rfl rfl Try.func19 (by kernel_rfl) rfl #[.agg #[.slice Ao12 t402.length co12, .slice Ao14 t405.length co14, .slice Ao15 t408.length co15]] rfl ar ?_; (with_reducible refine (spec_Faults.calls k _ _ t402 _ _ t405 _ _ t408 t411 _ ?side1 ?side2 ?side3 ?side4 ?side5 ?side6 A16.out).mono ?_); (case side1 => refine (Kd.R_reads' (e := 50) (base := w.heap.size) (ok := fun k_ => (True ∧ k_ ≠ gb400)) (n := t402.length) (c := co12) ?_).2.2; exact (rC (a := by exact (Kd.R_mono (Kd.R_far (p := ⟨gb399, 2, none⟩) (Kd.R_far (p := ⟨gb399, 1, none⟩) (Kd.R_far (p := ⟨gb399, 0, none⟩) (Kd.R_types HO404.out BK399.out (by decide)) (fun _ hk => hk.2) (.slice Ao12 t402.length co12)) (fun _ hk => hk.2) (.slice Ao14 t405.length co14)) (fun _ hk => hk.2) (.slice Ao15 t408.length co15)) (fun _ h_ => h_.1))))); (case side2 => exact (Kd.R_reads' HO404.out).2.1); (case side3 => refine (Kd.R_reads' (e := 3) (base := w.heap.size) (ok := fun k_ => some k_ ≠ (.slice Ao15 t408.length co15 : Value).ownBlock) (n := t405.length) (c := co14) ?_).2.2; exact (rC (a := by exact (Kd.R_mono (Kd.R_far (p := ⟨gb399, 2, none⟩) (Kd.R_far (p := ⟨gb399, 1, none⟩) (Kd.R_far (p := ⟨gb399, 0, none⟩) (Kd.R_types HO407.out BK399.out (by decide)) (fun _ hk => hk.2) (.slice Ao12 t402.length co12)) (fun _ hk => hk.2) (.slice Ao14 t405.length co14)) (fun _ hk => hk.2) (.slice Ao15 t408.length co15)) (fun _ h_ => h_.1))))); (case side4 => exact (Kd.R_reads' HO407.out).2.1); (case side5 => refine (Kd.R_reads' (e := 3) (base := w.heap.size) (ok := fun k_ => some k_ ≠ (.slice Ao14 t405.length co14 : Value).ownBlock) (n := t408.length) (c := co15) ?_).2.2; exact (rC (a := by exact (Kd.R_mono (Kd.R_far (p := ⟨gb399, 2, none⟩) (Kd.R_far (p := ⟨gb399, 1, none⟩) (Kd.R_far (p := ⟨gb399, 0, none⟩) (Kd.R_types HO410.out BK399.out (by decide)) (fun _ hk => hk.2) (.slice Ao12 t402.length co12)) (fun _ hk => hk.2) (.slice Ao14 t405.length co14)) (fun _ hk => hk.2) (.slice Ao15 t408.length co15)) (fun _ h_ => h_.1))))); (case side6 => exact (Kd.R_reads' HO410.out).2.1); rintro e w21 ⟨v412, rfl, ho0, hb⟩; refine ⟨_, rfl, ?_⟩; have n0_ := mk0 (Kd.R_below (rC (a := by exact (Kd.R_mono (Kd.R_far (p := ⟨gb399, 2, none⟩) (Kd.R_far (p := ⟨gb399, 1, none⟩) (Kd.R_far (p := ⟨gb399, 0, none⟩) (Kd.R_types HO404.out BK399.out (by decide)) (fun _ hk => hk.2) (.slice Ao12 t402.length co12)) (fun _ hk => hk.2) (.slice Ao14 t405.length co14)) (fun _ hk => hk.2) (.slice Ao15 t408.length co15)) (fun _ h_ => h_.1)))) hb); have n1_ := mk0 (Kd.R_below (rC (a := by exact (Kd.R_mono (Kd.R_far (p := ⟨gb399, 2, none⟩) (Kd.R_far (p := ⟨gb399, 1, none⟩) (Kd.R_far (p := ⟨gb399, 0, none⟩) (Kd.R_types HO407.out BK399.out (by decide)) (fun _ hk => hk.2) (.slice Ao12 t402.length co12)) (fun _ hk => hk.2) (.slice Ao14 t405.length co14)) (fun _ hk => hk.2) (.slice Ao15 t408.length co15)) (fun _ h_ => h_.1)))) hb); have n2_ := mk0 (Kd.R_below (rC (a := by exact (Kd.R_mono (Kd.R_far (p := ⟨gb399, 2, none⟩) (Kd.R_far (p := ⟨gb399, 1, none⟩) (Kd.R_far (p := ⟨gb399, 0, none⟩) (Kd.R_types HO410.out BK399.out (by decide)) (fun _ hk => hk.2) (.slice Ao12 t402.length co12)) (fun _ hk => hk.2) (.slice Ao14 t405.length co14)) (fun _ hk => hk.2) (.slice Ao15 t408.length co15)) (fun _ h_ => h_.1)))) hb); have n3_ := mk0 (Kd.R_lower ho0 (below_size (hA HB.out))); have n4_ := mk0 (blk_below (g := gb399) (o := .cells #[.slice Ao12 t402.length co12, .slice Ao14 t405.length co14, .slice Ao15 t408.length co15] 29 (0, 0)) (by refine bC (a := ?_); refine blk_put (cs := #[.slice Ao12 t402.length co12, .slice Ao14 t405.length co14, .slice Ar lr.length cr]) ?_ 2 _ rfl; refine bC (a := ?_); refine blk_put (cs := #[.slice Ao12 t402.length co12, .slice Aq lq.length cq, .slice Ar lr.length cr]) ?_ 1 _ rfl; refine bC (a := ?_); refine blk_put (cs := #[.slice Ap lp.length cp, .slice Aq lq.length cq, .slice Ar lr.length cr]) ?_ 0 _ rfl; refine bC (a := ?_); exact BK399.out) hb); have n5_ := mk0 (blk_below (g := gb400) (o := .cells #[.int .i64 a1_0, .int .i64 a1_1, .int .i64 a1_2] 50 (0, 0)) (by refine bC (a := ?_); refine blk_far ?_ NB400_399.out _; refine bC (a := ?_); refine blk_far ?_ NB400_399.out _; refine bC (a := ?_); refine blk_far ?_ NB400_399.out _; refine bC (a := ?_); exact BK400.out) hb); have n6_ := mk0 (blk_below (g := gb401) (o := .cells #[.slice none 0 0, .slice none 0 0, .slice none 0 0] 29 (0, 0)) (by refine bC (a := ?_); refine blk_far ?_ NB401_399.out _; refine bC (a := ?_); refine blk_far ?_ NB401_399.out _; refine bC (a := ?_); refine blk_far ?_ NB401_399.out _; refine bC (a := ?_); exact BK401.out) hb); have n7_ := mk0 (below_step (hA HB.out) hb); clear HO404; clear HO407; clear HO410; clear BK399; clear BK400; clear BK401; clear HB; have HO404 := n0_; have HO407 := n1_; have HO410 := n2_; have HO413 := n3_; have BK399 := n4_; have BK400 := n5_; have BK401 := n6_; have HB := n7_; clear n0_ n1_ n2_ n3_ n4_ n5_ n6_ n7_; (try clear hb); (try clear hb2); (try clear hk); (try clear hi); (try clear ho0); obtain ⟨Ao22, co22, eo22⟩ := Kd.R_slice HO413.out; subst eo22))
   go_meet
   case rel => exact ⟨_, (true), rs, H', ⟨by first | omega | exact Nat.le_refl _⟩, ⟨by refine rC (a := ?_); exact Kd.R_mono HO404.out (fun _ hk => hk.2)⟩, ⟨by refine rC (a := ?_); exact HO407.out⟩, ⟨by refine rC (a := ?_); exact HO410.out⟩, ⟨by refine bC (a := ?_); exact BK399.out⟩, ⟨by refine bC (a := ?_); exact BK400.out⟩, ⟨by refine bC (a := ?_); exact BK401.out⟩, ⟨hA HB.out⟩⟩
  ·rw [if_neg c17] at H
   have c17b0 : decide (0 < (t411.length : Int)) = false := decide_eq_false c17
   have c17b1 : decide (0 < t411.length) = false := decide_eq_false (by omega)
   clear c17
   (first | rw [c17b0] | (simp only [i64_w]; rw [c17b0]) | skip)
   by_cases c23 : (t402.length : Int) = 30
   ·rw [if_pos c23] at H
    have c23b0 : ((t402.length : Int) == 30) = true := beq_iff_eq.mpr c23
    have c23b1 : ((t402.length : Int) != 30) = false := bne_eq_false_iff_eq.mpr c23
    clear c23
    have H' := mk0 H
    clear H
    have hnb24 := NB399_400.out
    have hnc24 := NB400_399.out
    have hnb25 := NB399_401.out
    have hnc25 := NB401_399.out
    have hcz26_0 : w11.cell? ⟨gb399, 0, none⟩ = some (.slice Ap lp.length cp) := (blk_cell BK399.out 0).trans rfl
    have hcz26_1 : w11.cell? ⟨gb399, 1, none⟩ = some (.slice Aq lq.length cq) := (blk_cell BK399.out 1).trans rfl
    have hcz26_2 : w11.cell? ⟨gb399, 2, none⟩ = some (.slice Ar lr.length cr) := (blk_cell BK399.out 2).trans rfl
    have hfz26_0 := blk_frozen BK399.out 0
    have hfz26_1 := blk_frozen BK399.out 1
    have hfz26_2 := blk_frozen BK399.out 2
    go_wp2_with (first | ((with_reducible refine gate_callee (f := 19) rfl ?_); refine goesL_ (some 10) rfl rfl Try.func19 (by kernel_rfl) rfl #[.agg #[.slice Ao12 t402.length co12, .slice Ao14 t405.length co14, .slice Ao15 t408.length co15]] rfl ar ?_; (with_reducible refine (spec_Faults.calls k _ _ t402 _ _ t405 _ _ t408 t411 _ ?side1 ?side2 ?side3 ?side4 ?side5 ?side6 A16.out).mono ?_); (case side1 => refine (Kd.R_reads' (e := 50) (base := w.heap.size) (ok := fun k_ => (True ∧ k_ ≠ gb400)) (n := t402.length) (c := co12) ?_).2.2; exact (rC (a := by exact (Kd.R_mono (Kd.R_far (p := ⟨gb399, 2, none⟩) (Kd.R_far (p := ⟨gb399, 1, none⟩) (Kd.R_far (p := ⟨gb399, 0, none⟩) (Kd.R_types HO404.out BK399.out (by decide)) (fun _ hk => hk.2) (.slice Ao12 t402.length co12)) (fun _ hk => hk.2) (.slice Ao14 t405.length co14)) (fun _ hk => hk.2) (.slice Ao15 t408.length co15)) (fun _ h_ => h_.1))))); (case side2 => exact (Kd.R_reads' HO404.out).2.1); (case side3 => refine (Kd.R_reads' (e := 3) (base := w.heap.size) (ok := fun k_ => some k_ ≠ (.slice Ao15 t408.length co15 : Value).ownBlock) (n := t405.length) (c := co14) ?_).2.2; exact (rC (a := by exact (Kd.R_mono (Kd.R_far (p := ⟨gb399, 2, none⟩) (Kd.R_far (p := ⟨gb399, 1, none⟩) (Kd.R_far (p := ⟨gb399, 0, none⟩) (Kd.R_types HO407.out BK399.out (by decide)) (fun _ hk => hk.2) (.slice Ao12 t402.length co12)) (fun _ hk => hk.2) (.slice Ao14 t405.length co14)) (fun _ hk => hk.2) (.slice Ao15 t408.length co15)) (fun _ h_ => h_.1))))); (case side4 => exact (Kd.R_reads' HO407.out).2.1); (case side5 => refine (Kd.R_reads' (e := 3) (base := w.heap.size) (ok := fun k_ => some k_ ≠ (.slice Ao14 t405.length co14 : Value).ownBlock) (n := t408.length) (c := co15) ?_).2.2; exact (rC (a := by exact (Kd.R_mono (Kd.R_far (p := ⟨gb399, 2, none⟩) (Kd.R_far (p := ⟨gb399, 1, none⟩) (Kd.R_far (p := ⟨gb399, 0, none⟩) (Kd.R_types HO410.out BK399.out (by decide)) (fun _ hk => hk.2) (.slice Ao12 t402.length co12)) (fun _ hk => hk.2) (.slice Ao14 t405.length co14)) (fun _ hk => hk.2) (.slice Ao15 t408.length co15)) (fun _ h_ => h_.1))))); (case side6 => exact (Kd.R_reads' HO410.out).2.1); rintro e w27 ⟨v412, rfl, ho0, hb⟩; refine ⟨_, rfl, ?_⟩; have n0_ := mk0 (Kd.R_below (rC (a := by exact (Kd.R_mono (Kd.R_far (p := ⟨gb399, 2, none⟩) (Kd.R_far (p := ⟨gb399, 1, none⟩) (Kd.R_far (p := ⟨gb399, 0, none⟩) (Kd.R_types HO404.out BK399.out (by decide)) (fun _ hk => hk.2) (.slice Ao12 t402.length co12)) (fun _ hk => hk.2) (.slice Ao14 t405.length co14)) (fun _ hk => hk.2) (.slice Ao15 t408.length co15)) (fun _ h_ => h_.1)))) hb); have n1_ := mk0 (Kd.R_below (rC (a := by exact (Kd.R_mono (Kd.R_far (p := ⟨gb399, 2, none⟩) (Kd.R_far (p := ⟨gb399, 1, none⟩) (Kd.R_far (p := ⟨gb399, 0, none⟩) (Kd.R_types HO407.out BK399.out (by decide)) (fun _ hk => hk.2) (.slice Ao12 t402.length co12)) (fun _ hk => hk.2) (.slice Ao14 t405.length co14)) (fun _ hk => hk.2) (.slice Ao15 t408.length co15)) (fun _ h_ => h_.1)))) hb); have n2_ := mk0 (Kd.R_below (rC (a := by exact (Kd.R_mono (Kd.R_far (p := ⟨gb399, 2, none⟩) (Kd.R_far (p := ⟨gb399, 1, none⟩) (Kd.R_far (p := ⟨gb399, 0, none⟩) (Kd.R_types HO410.out BK399.out (by decide)) (fun _ hk => hk.2) (.slice Ao12 t402.length co12)) (fun _ hk => hk.2) (.slice Ao14 t405.length co14)) (fun _ hk => hk.2) (.slice Ao15 t408.length co15)) (fun _ h_ => h_.1)))) hb); have n3_ := mk0 (Kd.R_lower ho0 (below_size (hA HB.out))); have n4_ := mk0 (blk_below (g := gb399) (o := .cells #[.slice Ao12 t402.length co12, .slice Ao14 t405.length co14, .slice Ao15 t408.length co15] 29 (0, 0)) (by refine bC (a := ?_); refine blk_put (cs := #[.slice Ao12 t402.length co12, .slice Ao14 t405.length co14, .slice Ar lr.length cr]) ?_ 2 _ rfl; refine bC (a := ?_); refine blk_put (cs := #[.slice Ao12 t402.length co12, .slice Aq lq.length cq, .slice Ar lr.length cr]) ?_ 1 _ rfl; refine bC (a := ?_); refine blk_put (cs := #[.slice Ap lp.length cp, .slice Aq lq.length cq, .slice Ar lr.length cr]) ?_ 0 _ rfl; refine bC (a := ?_); exact BK399.out) hb); have n5_ := mk0 (blk_below (g := gb400) (o := .cells #[.int .i64 a1_0, .int .i64 a1_1, .int .i64 a1_2] 50 (0, 0)) (by refine bC (a := ?_); refine blk_far ?_ NB400_399.out _; refine bC (a := ?_); refine blk_far ?_ NB400_399.out _; refine bC (a := ?_); refine blk_far ?_ NB400_399.out _; refine bC (a := ?_); exact BK400.out) hb); have n6_ := mk0 (blk_below (g := gb401) (o := .cells #[.slice none 0 0, .slice none 0 0, .slice none 0 0] 29 (0, 0)) (by refine bC (a := ?_); refine blk_far ?_ NB401_399.out _; refine bC (a := ?_); refine blk_far ?_ NB401_399.out _; refine bC (a := ?_); refine blk_far ?_ NB401_399.out _; refine bC (a := ?_); exact BK401.out) hb); have n7_ := mk0 (below_step (hA HB.out) hb); clear HO404; clear HO407; clear HO410; clear BK399; clear BK400; clear BK401; clear HB; have HO404 := n0_; have HO407 := n1_; have HO410 := n2_; have HO413 := n3_; have BK399 := n4_; have BK400 := n5_; have BK401 := n6_; have HB := n7_; clear n0_ n1_ n2_ n3_ n4_ n5_ n6_ n7_; (try clear hb); (try clear hb2); (try clear hk); (try clear hi); (try clear ho0); obtain ⟨Ao28, co28, eo28⟩ := Kd.R_slice HO413.out; subst eo28; have hcz29_0 : w27.cell? ⟨gb399, 0, none⟩ = some (.slice Ao12 t402.length co12) := (blk_cell BK399.out 0).trans rfl; have hcz29_1 : w27.cell? ⟨gb399, 1, none⟩ = some (.slice Ao14 t405.length co14) := (blk_cell BK399.out 1).trans rfl; have hcz29_2 : w27.cell? ⟨gb399, 2, none⟩ = some (.slice Ao15 t408.length co15) := (blk_cell BK399.out 2).trans rfl; have hfz29_0 := blk_frozen BK399.out 0; have hfz29_1 := blk_frozen BK399.out 1; have hfz29_2 := blk_frozen BK399.out 2))
    go_meet
    case rel => exact ⟨_, (true), rs, H', ⟨by first | omega | exact Nat.le_refl _⟩, ⟨by refine rC (a := ?_); exact Kd.R_mono HO404.out (fun _ hk => hk.2)⟩, ⟨by refine rC (a := ?_); exact HO407.out⟩, ⟨by refine rC (a := ?_); exact HO410.out⟩, ⟨by refine bC (a := ?_); exact BK399.out⟩, ⟨by refine bC (a := ?_); exact BK400.out⟩, ⟨by refine bC (a := ?_); exact BK401.out⟩, ⟨hA HB.out⟩⟩
   ·rw [if_neg c23] at H
    have c23b0 : ((t402.length : Int) == 30) = false := beq_eq_false_iff_ne.mpr c23
    have c23b1 : ((t402.length : Int) != 30) = true := bne_iff_ne.mpr c23
    by_cases c30 : a1_0 = a1_1
    ·rw [if_pos c30] at H
     have c30b0 : (a1_0 == a1_1) = true := beq_iff_eq.mpr c30
     have c30b1 : (a1_0 != a1_1) = false := bne_eq_false_iff_eq.mpr c30
     clear c30
     have H' := mk0 H
     clear H
     have hnb31 := NB399_400.out
     have hnc31 := NB400_399.out
     have hnb32 := NB399_401.out
     have hnc32 := NB401_399.out
     have hcz33_0 : w11.cell? ⟨gb399, 0, none⟩ = some (.slice Ap lp.length cp) := (blk_cell BK399.out 0).trans rfl
     have hcz33_1 : w11.cell? ⟨gb399, 1, none⟩ = some (.slice Aq lq.length cq) := (blk_cell BK399.out 1).trans rfl
     have hcz33_2 : w11.cell? ⟨gb399, 2, none⟩ = some (.slice Ar lr.length cr) := (blk_cell BK399.out 2).trans rfl
     have hfz33_0 := blk_frozen BK399.out 0
     have hfz33_1 := blk_frozen BK399.out 1
     have hfz33_2 := blk_frozen BK399.out 2
     go_wp2_with (first | ((with_reducible refine gate_callee (f := 19) rfl ?_); refine goesL_ (some 10) rfl rfl Try.func19 (by kernel_rfl) rfl #[.agg #[.slice Ao12 t402.length co12, .slice Ao14 t405.length co14, .slice Ao15 t408.length co15]] rfl ar ?_; (with_reducible refine (spec_Faults.calls k _ _ t402 _ _ t405 _ _ t408 t411 _ ?side1 ?side2 ?side3 ?side4 ?side5 ?side6 A16.out).mono ?_); (case side1 => refine (Kd.R_reads' (e := 50) (base := w.heap.size) (ok := fun k_ => (True ∧ k_ ≠ gb400)) (n := t402.length) (c := co12) ?_).2.2; exact (rC (a := by exact (Kd.R_mono (Kd.R_far (p := ⟨gb399, 2, none⟩) (Kd.R_far (p := ⟨gb399, 1, none⟩) (Kd.R_far (p := ⟨gb399, 0, none⟩) (Kd.R_types HO404.out BK399.out (by decide)) (fun _ hk => hk.2) (.slice Ao12 t402.length co12)) (fun _ hk => hk.2) (.slice Ao14 t405.length co14)) (fun _ hk => hk.2) (.slice Ao15 t408.length co15)) (fun _ h_ => h_.1))))); (case side2 => exact (Kd.R_reads' HO404.out).2.1); (case side3 => refine (Kd.R_reads' (e := 3) (base := w.heap.size) (ok := fun k_ => some k_ ≠ (.slice Ao15 t408.length co15 : Value).ownBlock) (n := t405.length) (c := co14) ?_).2.2; exact (rC (a := by exact (Kd.R_mono (Kd.R_far (p := ⟨gb399, 2, none⟩) (Kd.R_far (p := ⟨gb399, 1, none⟩) (Kd.R_far (p := ⟨gb399, 0, none⟩) (Kd.R_types HO407.out BK399.out (by decide)) (fun _ hk => hk.2) (.slice Ao12 t402.length co12)) (fun _ hk => hk.2) (.slice Ao14 t405.length co14)) (fun _ hk => hk.2) (.slice Ao15 t408.length co15)) (fun _ h_ => h_.1))))); (case side4 => exact (Kd.R_reads' HO407.out).2.1); (case side5 => refine (Kd.R_reads' (e := 3) (base := w.heap.size) (ok := fun k_ => some k_ ≠ (.slice Ao14 t405.length co14 : Value).ownBlock) (n := t408.length) (c := co15) ?_).2.2; exact (rC (a := by exact (Kd.R_mono (Kd.R_far (p := ⟨gb399, 2, none⟩) (Kd.R_far (p := ⟨gb399, 1, none⟩) (Kd.R_far (p := ⟨gb399, 0, none⟩) (Kd.R_types HO410.out BK399.out (by decide)) (fun _ hk => hk.2) (.slice Ao12 t402.length co12)) (fun _ hk => hk.2) (.slice Ao14 t405.length co14)) (fun _ hk => hk.2) (.slice Ao15 t408.length co15)) (fun _ h_ => h_.1))))); (case side6 => exact (Kd.R_reads' HO410.out).2.1); rintro e w34 ⟨v412, rfl, ho0, hb⟩; refine ⟨_, rfl, ?_⟩; have n0_ := mk0 (Kd.R_below (rC (a := by exact (Kd.R_mono (Kd.R_far (p := ⟨gb399, 2, none⟩) (Kd.R_far (p := ⟨gb399, 1, none⟩) (Kd.R_far (p := ⟨gb399, 0, none⟩) (Kd.R_types HO404.out BK399.out (by decide)) (fun _ hk => hk.2) (.slice Ao12 t402.length co12)) (fun _ hk => hk.2) (.slice Ao14 t405.length co14)) (fun _ hk => hk.2) (.slice Ao15 t408.length co15)) (fun _ h_ => h_.1)))) hb); have n1_ := mk0 (Kd.R_below (rC (a := by exact (Kd.R_mono (Kd.R_far (p := ⟨gb399, 2, none⟩) (Kd.R_far (p := ⟨gb399, 1, none⟩) (Kd.R_far (p := ⟨gb399, 0, none⟩) (Kd.R_types HO407.out BK399.out (by decide)) (fun _ hk => hk.2) (.slice Ao12 t402.length co12)) (fun _ hk => hk.2) (.slice Ao14 t405.length co14)) (fun _ hk => hk.2) (.slice Ao15 t408.length co15)) (fun _ h_ => h_.1)))) hb); have n2_ := mk0 (Kd.R_below (rC (a := by exact (Kd.R_mono (Kd.R_far (p := ⟨gb399, 2, none⟩) (Kd.R_far (p := ⟨gb399, 1, none⟩) (Kd.R_far (p := ⟨gb399, 0, none⟩) (Kd.R_types HO410.out BK399.out (by decide)) (fun _ hk => hk.2) (.slice Ao12 t402.length co12)) (fun _ hk => hk.2) (.slice Ao14 t405.length co14)) (fun _ hk => hk.2) (.slice Ao15 t408.length co15)) (fun _ h_ => h_.1)))) hb); have n3_ := mk0 (Kd.R_lower ho0 (below_size (hA HB.out))); have n4_ := mk0 (blk_below (g := gb399) (o := .cells #[.slice Ao12 t402.length co12, .slice Ao14 t405.length co14, .slice Ao15 t408.length co15] 29 (0, 0)) (by refine bC (a := ?_); refine blk_put (cs := #[.slice Ao12 t402.length co12, .slice Ao14 t405.length co14, .slice Ar lr.length cr]) ?_ 2 _ rfl; refine bC (a := ?_); refine blk_put (cs := #[.slice Ao12 t402.length co12, .slice Aq lq.length cq, .slice Ar lr.length cr]) ?_ 1 _ rfl; refine bC (a := ?_); refine blk_put (cs := #[.slice Ap lp.length cp, .slice Aq lq.length cq, .slice Ar lr.length cr]) ?_ 0 _ rfl; refine bC (a := ?_); exact BK399.out) hb); have n5_ := mk0 (blk_below (g := gb400) (o := .cells #[.int .i64 a1_0, .int .i64 a1_1, .int .i64 a1_2] 50 (0, 0)) (by refine bC (a := ?_); refine blk_far ?_ NB400_399.out _; refine bC (a := ?_); refine blk_far ?_ NB400_399.out _; refine bC (a := ?_); refine blk_far ?_ NB400_399.out _; refine bC (a := ?_); exact BK400.out) hb); have n6_ := mk0 (blk_below (g := gb401) (o := .cells #[.slice none 0 0, .slice none 0 0, .slice none 0 0] 29 (0, 0)) (by refine bC (a := ?_); refine blk_far ?_ NB401_399.out _; refine bC (a := ?_); refine blk_far ?_ NB401_399.out _; refine bC (a := ?_); refine blk_far ?_ NB401_399.out _; refine bC (a := ?_); exact BK401.out) hb); have n7_ := mk0 (below_step (hA HB.out) hb); clear HO404; clear HO407; clear HO410; clear BK399; clear BK400; clear BK401; clear HB; have HO404 := n0_; have HO407 := n1_; have HO410 := n2_; have HO413 := n3_; have BK399 := n4_; have BK400 := n5_; have BK401 := n6_; have HB := n7_; clear n0_ n1_ n2_ n3_ n4_ n5_ n6_ n7_; (try clear hb); (try clear hb2); (try clear hk); (try clear hi); (try clear ho0); obtain ⟨Ao35, co35, eo35⟩ := Kd.R_slice HO413.out; subst eo35; have hcz36_0 : w34.cell? ⟨gb399, 0, none⟩ = some (.slice Ao12 t402.length co12) := (blk_cell BK399.out 0).trans rfl; have hcz36_1 : w34.cell? ⟨gb399, 1, none⟩ = some (.slice Ao14 t405.length co14) := (blk_cell BK399.out 1).trans rfl; have hcz36_2 : w34.cell? ⟨gb399, 2, none⟩ = some (.slice Ao15 t408.length co15) := (blk_cell BK399.out 2).trans rfl; have hfz36_0 := blk_frozen BK399.out 0; have hfz36_1 := blk_frozen BK399.out 1; have hfz36_2 := blk_frozen BK399.out 2; have hnb37 := NB400_401.out; have hnc37 := NB401_400.out; have hcz38_0 : w34.cell? ⟨gb400, 0, none⟩ = some (.int .i64 a1_0) := (blk_cell BK400.out 0).trans rfl; have hcz38_1 : w34.cell? ⟨gb400, 1, none⟩ = some (.int .i64 a1_1) := (blk_cell BK400.out 1).trans rfl; have hcz38_2 : w34.cell? ⟨gb400, 2, none⟩ = some (.int .i64 a1_2) := (blk_cell BK400.out 2).trans rfl; have hfz38_0 := blk_frozen BK400.out 0; have hfz38_1 := blk_frozen BK400.out 1; have hfz38_2 := blk_frozen BK400.out 2))
     go_meet
     case rel => exact ⟨_, (true), rs, H', ⟨by first | omega | exact Nat.le_refl _⟩, ⟨by refine rC (a := ?_); exact Kd.R_mono HO404.out (fun _ hk => hk.2)⟩, ⟨by refine rC (a := ?_); exact HO407.out⟩, ⟨by refine rC (a := ?_); exact HO410.out⟩, ⟨by refine bC (a := ?_); exact BK399.out⟩, ⟨by refine bC (a := ?_); exact BK400.out⟩, ⟨by refine bC (a := ?_); exact BK401.out⟩, ⟨hA HB.out⟩⟩
    ·rw [if_neg c30] at H
     have c30b0 : (a1_0 == a1_1) = false := beq_eq_false_iff_ne.mpr c30
     have c30b1 : (a1_0 != a1_1) = true := bne_iff_ne.mpr c30
     replace H := Option.bind_eq_some_iff.mp H
     obtain ⟨t414, A390, H⟩ := H
     replace H : (if t414 = true then ((spec_l1In.f a1_1 0 (wrap64 ((t405.length : Int) - 1))).bind fun t415 => (if t415 = true then ((spec_l1In.f a1_2 (-1) (wrap64 ((t408.length : Int) - 1))).bind fun t416 => (spec_Add18.j0 k (!t416) t402 t405 t408 a1_0 a1_1 a1_2)) else (spec_Add18.j0 k true t402 t405 t408 a1_0 a1_1 a1_2))) else (spec_Add18.j0 k true t402 t405 t408 a1_0 a1_1 a1_2)) = some (r1, r2, r3, r4) := H
     have A39 := mk0 A390
     clear A390
     by_cases c40 : t414 = true
     ·subst c40
      have H1 : ((spec_l1In.f a1_1 0 (wrap64 ((t405.length : Int) - 1))).bind fun t415 => (if t415 = true then ((spec_l1In.f a1_2 (-1) (wrap64 ((t408.length : Int) - 1))).bind fun t416 => (spec_Add18.j0 k (!t416) t402 t405 t408 a1_0 a1_1 a1_2)) else (spec_Add18.j0 k true t402 t405 t408 a1_0 a1_1 a1_2))) = some (r1, r2, r3, r4) := by rw [if_pos rfl] at H; exact H
      clear H
      have H := H1
      clear H1
      replace H := Option.bind_eq_some_iff.mp H
      obtain ⟨t415, A410, H⟩ := H
      replace H : (if t415 = true then ((spec_l1In.f a1_2 (-1) (wrap64 ((t408.length : Int) - 1))).bind fun t416 => (spec_Add18.j0 k (!t416) t402 t405 t408 a1_0 a1_1 a1_2)) else (spec_Add18.j0 k true t402 t405 t408 a1_0 a1_1 a1_2)) = some (r1, r2, r3, r4) := H
      have A41 := mk0 A410
      clear A410
      by_cases c42 : t415 = true
      ·subst c42
       have H1 : ((spec_l1In.f a1_2 (-1) (wrap64 ((t408.length : Int) - 1))).bind fun t416 => (spec_Add18.j0 k (!t416) t402 t405 t408 a1_0 a1_1 a1_2)) = some (r1, r2, r3, r4) := by rw [if_pos rfl] at H; exact H
       clear H
       have H := H1
       clear H1
       replace H := Option.bind_eq_some_iff.mp H
       obtain ⟨t416, A430, H⟩ := H
       replace H : (spec_Add18.j0 k (!t416) t402 t405 t408 a1_0 a1_1 a1_2) = some (r1, r2, r3, r4) := H
       have A43 := mk0 A430
       clear A430
       have H' := mk0 H
       clear H
       have hnb44 := NB399_400.out
       have hnc44 := NB400_399.out
       have hnb45 := NB399_401.out
       have hnc45 := NB401_399.out
       have hcz46_0 : w11.cell? ⟨gb399, 0, none⟩ = some (.slice Ap lp.length cp) := (blk_cell BK399.out 0).trans rfl
       have hcz46_1 : w11.cell? ⟨gb399, 1, none⟩ = some (.slice Aq lq.length cq) := (blk_cell BK399.out 1).trans rfl
       have hcz46_2 : w11.cell? ⟨gb399, 2, none⟩ = some (.slice Ar lr.length cr) := (blk_cell BK399.out 2).trans rfl
       have hfz46_0 := blk_frozen BK399.out 0
       have hfz46_1 := blk_frozen BK399.out 1
       have hfz46_2 := blk_frozen BK399.out 2
       go_wp2_with (first | ((with_reducible refine gate_callee (f := 19) rfl ?_); refine goesL_ (some 10) rfl rfl Try.func19 (by kernel_rfl) rfl #[.agg #[.slice Ao12 t402.length co12, .slice Ao14 t405.length co14, .slice Ao15 t408.length co15]] rfl ar ?_; (with_reducible refine (spec_Faults.calls k _ _ t402 _ _ t405 _ _ t408 t411 _ ?side1 ?side2 ?side3 ?side4 ?side5 ?side6 A16.out).mono ?_); (case side1 => refine (Kd.R_reads' (e := 50) (base := w.heap.size) (ok := fun k_ => (True ∧ k_ ≠ gb400)) (n := t402.length) (c := co12) ?_).2.2; exact (rC (a := by exact (Kd.R_mono (Kd.R_far (p := ⟨gb399, 2, none⟩) (Kd.R_far (p := ⟨gb399, 1, none⟩) (Kd.R_far (p := ⟨gb399, 0, none⟩) (Kd.R_types HO404.out BK399.out (by decide)) (fun _ hk => hk.2) (.slice Ao12 t402.length co12)) (fun _ hk => hk.2) (.slice Ao14 t405.length co14)) (fun _ hk => hk.2) (.slice Ao15 t408.length co15)) (fun _ h_ => h_.1))))); (case side2 => exact (Kd.R_reads' HO404.out).2.1); (case side3 => refine (Kd.R_reads' (e := 3) (base := w.heap.size) (ok := fun k_ => some k_ ≠ (.slice Ao15 t408.length co15 : Value).ownBlock) (n := t405.length) (c := co14) ?_).2.2; exact (rC (a := by exact (Kd.R_mono (Kd.R_far (p := ⟨gb399, 2, none⟩) (Kd.R_far (p := ⟨gb399, 1, none⟩) (Kd.R_far (p := ⟨gb399, 0, none⟩) (Kd.R_types HO407.out BK399.out (by decide)) (fun _ hk => hk.2) (.slice Ao12 t402.length co12)) (fun _ hk => hk.2) (.slice Ao14 t405.length co14)) (fun _ hk => hk.2) (.slice Ao15 t408.length co15)) (fun _ h_ => h_.1))))); (case side4 => exact (Kd.R_reads' HO407.out).2.1); (case side5 => refine (Kd.R_reads' (e := 3) (base := w.heap.size) (ok := fun k_ => some k_ ≠ (.slice Ao14 t405.length co14 : Value).ownBlock) (n := t408.length) (c := co15) ?_).2.2; exact (rC (a := by exact (Kd.R_mono (Kd.R_far (p := ⟨gb399, 2, none⟩) (Kd.R_far (p := ⟨gb399, 1, none⟩) (Kd.R_far (p := ⟨gb399, 0, none⟩) (Kd.R_types HO410.out BK399.out (by decide)) (fun _ hk => hk.2) (.slice Ao12 t402.length co12)) (fun _ hk => hk.2) (.slice Ao14 t405.length co14)) (fun _ hk => hk.2) (.slice Ao15 t408.length co15)) (fun _ h_ => h_.1))))); (case side6 => exact (Kd.R_reads' HO410.out).2.1); rintro e w47 ⟨v412, rfl, ho0, hb⟩; refine ⟨_, rfl, ?_⟩; have n0_ := mk0 (Kd.R_below (rC (a := by exact (Kd.R_mono (Kd.R_far (p := ⟨gb399, 2, none⟩) (Kd.R_far (p := ⟨gb399, 1, none⟩) (Kd.R_far (p := ⟨gb399, 0, none⟩) (Kd.R_types HO404.out BK399.out (by decide)) (fun _ hk => hk.2) (.slice Ao12 t402.length co12)) (fun _ hk => hk.2) (.slice Ao14 t405.length co14)) (fun _ hk => hk.2) (.slice Ao15 t408.length co15)) (fun _ h_ => h_.1)))) hb); have n1_ := mk0 (Kd.R_below (rC (a := by exact (Kd.R_mono (Kd.R_far (p := ⟨gb399, 2, none⟩) (Kd.R_far (p := ⟨gb399, 1, none⟩) (Kd.R_far (p := ⟨gb399, 0, none⟩) (Kd.R_types HO407.out BK399.out (by decide)) (fun _ hk => hk.2) (.slice Ao12 t402.length co12)) (fun _ hk => hk.2) (.slice Ao14 t405.length co14)) (fun _ hk => hk.2) (.slice Ao15 t408.length co15)) (fun _ h_ => h_.1)))) hb); have n2_ := mk0 (Kd.R_below (rC (a := by exact (Kd.R_mono (Kd.R_far (p := ⟨gb399, 2, none⟩) (Kd.R_far (p := ⟨gb399, 1, none⟩) (Kd.R_far (p := ⟨gb399, 0, none⟩) (Kd.R_types HO410.out BK399.out (by decide)) (fun _ hk => hk.2) (.slice Ao12 t402.length co12)) (fun _ hk => hk.2) (.slice Ao14 t405.length co14)) (fun _ hk => hk.2) (.slice Ao15 t408.length co15)) (fun _ h_ => h_.1)))) hb); have n3_ := mk0 (Kd.R_lower ho0 (below_size (hA HB.out))); have n4_ := mk0 (blk_below (g := gb399) (o := .cells #[.slice Ao12 t402.length co12, .slice Ao14 t405.length co14, .slice Ao15 t408.length co15] 29 (0, 0)) (by refine bC (a := ?_); refine blk_put (cs := #[.slice Ao12 t402.length co12, .slice Ao14 t405.length co14, .slice Ar lr.length cr]) ?_ 2 _ rfl; refine bC (a := ?_); refine blk_put (cs := #[.slice Ao12 t402.length co12, .slice Aq lq.length cq, .slice Ar lr.length cr]) ?_ 1 _ rfl; refine bC (a := ?_); refine blk_put (cs := #[.slice Ap lp.length cp, .slice Aq lq.length cq, .slice Ar lr.length cr]) ?_ 0 _ rfl; refine bC (a := ?_); exact BK399.out) hb); have n5_ := mk0 (blk_below (g := gb400) (o := .cells #[.int .i64 a1_0, .int .i64 a1_1, .int .i64 a1_2] 50 (0, 0)) (by refine bC (a := ?_); refine blk_far ?_ NB400_399.out _; refine bC (a := ?_); refine blk_far ?_ NB400_399.out _; refine bC (a := ?_); refine blk_far ?_ NB400_399.out _; refine bC (a := ?_); exact BK400.out) hb); have n6_ := mk0 (blk_below (g := gb401) (o := .cells #[.slice none 0 0, .slice none 0 0, .slice none 0 0] 29 (0, 0)) (by refine bC (a := ?_); refine blk_far ?_ NB401_399.out _; refine bC (a := ?_); refine blk_far ?_ NB401_399.out _; refine bC (a := ?_); refine blk_far ?_ NB401_399.out _; refine bC (a := ?_); exact BK401.out) hb); have n7_ := mk0 (below_step (hA HB.out) hb); clear HO404; clear HO407; clear HO410; clear BK399; clear BK400; clear BK401; clear HB; have HO404 := n0_; have HO407 := n1_; have HO410 := n2_; have HO413 := n3_; have BK399 := n4_; have BK400 := n5_; have BK401 := n6_; have HB := n7_; clear n0_ n1_ n2_ n3_ n4_ n5_ n6_ n7_; (try clear hb); (try clear hb2); (try clear hk); (try clear hi); (try clear ho0); obtain ⟨Ao48, co48, eo48⟩ := Kd.R_slice HO413.out; subst eo48; have hcz49_0 : w47.cell? ⟨gb399, 0, none⟩ = some (.slice Ao12 t402.length co12) := (blk_cell BK399.out 0).trans rfl; have hcz49_1 : w47.cell? ⟨gb399, 1, none⟩ = some (.slice Ao14 t405.length co14) := (blk_cell BK399.out 1).trans rfl; have hcz49_2 : w47.cell? ⟨gb399, 2, none⟩ = some (.slice Ao15 t408.length co15) := (blk_cell BK399.out 2).trans rfl; have hfz49_0 := blk_frozen BK399.out 0; have hfz49_1 := blk_frozen BK399.out 1; have hfz49_2 := blk_frozen BK399.out 2; have hnb50 := NB400_401.out; have hnc50 := NB401_400.out; have hcz51_0 : w47.cell? ⟨gb400, 0, none⟩ = some (.int .i64 a1_0) := (blk_cell BK400.out 0).trans rfl; have hcz51_1 : w47.cell? ⟨gb400, 1, none⟩ = some (.int .i64 a1_1) := (blk_cell BK400.out 1).trans rfl; have hcz51_2 : w47.cell? ⟨gb400, 2, none⟩ = some (.int .i64 a1_2) := (blk_cell BK400.out 2).trans rfl; have hfz51_0 := blk_frozen BK400.out 0; have hfz51_1 := blk_frozen BK400.out 1; have hfz51_2 := blk_frozen BK400.out 2) | (go_at_call 53; (with_reducible refine (spec_l1In.calls a1_0 0 (wrap64 ((t405.length : Int) - 1)) true _ A39.out).mono ?_); rintro e w' ⟨rfl, ⟨nd, rfl⟩⟩) | (go_at_call 53; (with_reducible refine (spec_l1In.calls a1_1 0 (wrap64 ((t405.length : Int) - 1)) true _ A41.out).mono ?_); rintro e w' ⟨rfl, ⟨nd, rfl⟩⟩) | (go_at_call 53; (with_reducible refine (spec_l1In.calls a1_2 (-1) (wrap64 ((t408.length : Int) - 1)) t416 _ A43.out).mono ?_); rintro e w' ⟨rfl, ⟨nd, rfl⟩⟩))
       go_meet
       case rel => exact ⟨_, (!t416), rs, H', ⟨by first | omega | exact Nat.le_refl _⟩, ⟨by refine rC (a := ?_); exact Kd.R_mono HO404.out (fun _ hk => hk.2)⟩, ⟨by refine rC (a := ?_); exact HO407.out⟩, ⟨by refine rC (a := ?_); exact HO410.out⟩, ⟨by refine bC (a := ?_); exact BK399.out⟩, ⟨by refine bC (a := ?_); exact BK400.out⟩, ⟨by refine bC (a := ?_); exact BK401.out⟩, ⟨hA HB.out⟩⟩
      ·replace c42 := Bool.eq_false_iff.mpr c42
       subst c42
       have H1 : (spec_Add18.j0 k true t402 t405 t408 a1_0 a1_1 a1_2) = some (r1, r2, r3, r4) := by rw [if_neg (show ¬ (false = true) by decide)] at H; exact H
       clear H
       have H := H1
       clear H1
       have H' := mk0 H
       clear H
       have hnb52 := NB399_400.out
       have hnc52 := NB400_399.out
       have hnb53 := NB399_401.out
       have hnc53 := NB401_399.out
       have hcz54_0 : w11.cell? ⟨gb399, 0, none⟩ = some (.slice Ap lp.length cp) := (blk_cell BK399.out 0).trans rfl
       have hcz54_1 : w11.cell? ⟨gb399, 1, none⟩ = some (.slice Aq lq.length cq) := (blk_cell BK399.out 1).trans rfl
       have hcz54_2 : w11.cell? ⟨gb399, 2, none⟩ = some (.slice Ar lr.length cr) := (blk_cell BK399.out 2).trans rfl
       have hfz54_0 := blk_frozen BK399.out 0
       have hfz54_1 := blk_frozen BK399.out 1
       have hfz54_2 := blk_frozen BK399.out 2
       go_wp2_with (first | ((with_reducible refine gate_callee (f := 19) rfl ?_); refine goesL_ (some 10) rfl rfl Try.func19 (by kernel_rfl) rfl #[.agg #[.slice Ao12 t402.length co12, .slice Ao14 t405.length co14, .slice Ao15 t408.length co15]] rfl ar ?_; (with_reducible refine (spec_Faults.calls k _ _ t402 _ _ t405 _ _ t408 t411 _ ?side1 ?side2 ?side3 ?side4 ?side5 ?side6 A16.out).mono ?_); (case side1 => refine (Kd.R_reads' (e := 50) (base := w.heap.size) (ok := fun k_ => (True ∧ k_ ≠ gb400)) (n := t402.length) (c := co12) ?_).2.2; exact (rC (a := by exact (Kd.R_mono (Kd.R_far (p := ⟨gb399, 2, none⟩) (Kd.R_far (p := ⟨gb399, 1, none⟩) (Kd.R_far (p := ⟨gb399, 0, none⟩) (Kd.R_types HO404.out BK399.out (by decide)) (fun _ hk => hk.2) (.slice Ao12 t402.length co12)) (fun _ hk => hk.2) (.slice Ao14 t405.length co14)) (fun _ hk => hk.2) (.slice Ao15 t408.length co15)) (fun _ h_ => h_.1))))); (case side2 => exact (Kd.R_reads' HO404.out).2.1); (case side3 => refine (Kd.R_reads' (e := 3) (base := w.heap.size) (ok := fun k_ => some k_ ≠ (.slice Ao15 t408.length co15 : Value).ownBlock) (n := t405.length) (c := co14) ?_).2.2; exact (rC (a := by exact (Kd.R_mono (Kd.R_far (p := ⟨gb399, 2, none⟩) (Kd.R_far (p := ⟨gb399, 1, none⟩) (Kd.R_far (p := ⟨gb399, 0, none⟩) (Kd.R_types HO407.out BK399.out (by decide)) (fun _ hk => hk.2) (.slice Ao12 t402.length co12)) (fun _ hk => hk.2) (.slice Ao14 t405.length co14)) (fun _ hk => hk.2) (.slice Ao15 t408.length co15)) (fun _ h_ => h_.1))))); (case side4 => exact (Kd.R_reads' HO407.out).2.1); (case side5 => refine (Kd.R_reads' (e := 3) (base := w.heap.size) (ok := fun k_ => some k_ ≠ (.slice Ao14 t405.length co14 : Value).ownBlock) (n := t408.length) (c := co15) ?_).2.2; exact (rC (a := by exact (Kd.R_mono (Kd.R_far (p := ⟨gb399, 2, none⟩) (Kd.R_far (p := ⟨gb399, 1, none⟩) (Kd.R_far (p := ⟨gb399, 0, none⟩) (Kd.R_types HO410.out BK399.out (by decide)) (fun _ hk => hk.2) (.slice Ao12 t402.length co12)) (fun _ hk => hk.2) (.slice Ao14 t405.length co14)) (fun _ hk => hk.2) (.slice Ao15 t408.length co15)) (fun _ h_ => h_.1))))); (case side6 => exact (Kd.R_reads' HO410.out).2.1); rintro e w55 ⟨v412, rfl, ho0, hb⟩; refine ⟨_, rfl, ?_⟩; have n0_ := mk0 (Kd.R_below (rC (a := by exact (Kd.R_mono (Kd.R_far (p := ⟨gb399, 2, none⟩) (Kd.R_far (p := ⟨gb399, 1, none⟩) (Kd.R_far (p := ⟨gb399, 0, none⟩) (Kd.R_types HO404.out BK399.out (by decide)) (fun _ hk => hk.2) (.slice Ao12 t402.length co12)) (fun _ hk => hk.2) (.slice Ao14 t405.length co14)) (fun _ hk => hk.2) (.slice Ao15 t408.length co15)) (fun _ h_ => h_.1)))) hb); have n1_ := mk0 (Kd.R_below (rC (a := by exact (Kd.R_mono (Kd.R_far (p := ⟨gb399, 2, none⟩) (Kd.R_far (p := ⟨gb399, 1, none⟩) (Kd.R_far (p := ⟨gb399, 0, none⟩) (Kd.R_types HO407.out BK399.out (by decide)) (fun _ hk => hk.2) (.slice Ao12 t402.length co12)) (fun _ hk => hk.2) (.slice Ao14 t405.length co14)) (fun _ hk => hk.2) (.slice Ao15 t408.length co15)) (fun _ h_ => h_.1)))) hb); have n2_ := mk0 (Kd.R_below (rC (a := by exact (Kd.R_mono (Kd.R_far (p := ⟨gb399, 2, none⟩) (Kd.R_far (p := ⟨gb399, 1, none⟩) (Kd.R_far (p := ⟨gb399, 0, none⟩) (Kd.R_types HO410.out BK399.out (by decide)) (fun _ hk => hk.2) (.slice Ao12 t402.length co12)) (fun _ hk => hk.2) (.slice Ao14 t405.length co14)) (fun _ hk => hk.2) (.slice Ao15 t408.length co15)) (fun _ h_ => h_.1)))) hb); have n3_ := mk0 (Kd.R_lower ho0 (below_size (hA HB.out))); have n4_ := mk0 (blk_below (g := gb399) (o := .cells #[.slice Ao12 t402.length co12, .slice Ao14 t405.length co14, .slice Ao15 t408.length co15] 29 (0, 0)) (by refine bC (a := ?_); refine blk_put (cs := #[.slice Ao12 t402.length co12, .slice Ao14 t405.length co14, .slice Ar lr.length cr]) ?_ 2 _ rfl; refine bC (a := ?_); refine blk_put (cs := #[.slice Ao12 t402.length co12, .slice Aq lq.length cq, .slice Ar lr.length cr]) ?_ 1 _ rfl; refine bC (a := ?_); refine blk_put (cs := #[.slice Ap lp.length cp, .slice Aq lq.length cq, .slice Ar lr.length cr]) ?_ 0 _ rfl; refine bC (a := ?_); exact BK399.out) hb); have n5_ := mk0 (blk_below (g := gb400) (o := .cells #[.int .i64 a1_0, .int .i64 a1_1, .int .i64 a1_2] 50 (0, 0)) (by refine bC (a := ?_); refine blk_far ?_ NB400_399.out _; refine bC (a := ?_); refine blk_far ?_ NB400_399.out _; refine bC (a := ?_); refine blk_far ?_ NB400_399.out _; refine bC (a := ?_); exact BK400.out) hb); have n6_ := mk0 (blk_below (g := gb401) (o := .cells #[.slice none 0 0, .slice none 0 0, .slice none 0 0] 29 (0, 0)) (by refine bC (a := ?_); refine blk_far ?_ NB401_399.out _; refine bC (a := ?_); refine blk_far ?_ NB401_399.out _; refine bC (a := ?_); refine blk_far ?_ NB401_399.out _; refine bC (a := ?_); exact BK401.out) hb); have n7_ := mk0 (below_step (hA HB.out) hb); clear HO404; clear HO407; clear HO410; clear BK399; clear BK400; clear BK401; clear HB; have HO404 := n0_; have HO407 := n1_; have HO410 := n2_; have HO413 := n3_; have BK399 := n4_; have BK400 := n5_; have BK401 := n6_; have HB := n7_; clear n0_ n1_ n2_ n3_ n4_ n5_ n6_ n7_; (try clear hb); (try clear hb2); (try clear hk); (try clear hi); (try clear ho0); obtain ⟨Ao56, co56, eo56⟩ := Kd.R_slice HO413.out; subst eo56; have hcz57_0 : w55.cell? ⟨gb399, 0, none⟩ = some (.slice Ao12 t402.length co12) := (blk_cell BK399.out 0).trans rfl; have hcz57_1 : w55.cell? ⟨gb399, 1, none⟩ = some (.slice Ao14 t405.length co14) := (blk_cell BK399.out 1).trans rfl; have hcz57_2 : w55.cell? ⟨gb399, 2, none⟩ = some (.slice Ao15 t408.length co15) := (blk_cell BK399.out 2).trans rfl; have hfz57_0 := blk_frozen BK399.out 0; have hfz57_1 := blk_frozen BK399.out 1; have hfz57_2 := blk_frozen BK399.out 2; have hnb58 := NB400_401.out; have hnc58 := NB401_400.out; have hcz59_0 : w55.cell? ⟨gb400, 0, none⟩ = some (.int .i64 a1_0) := (blk_cell BK400.out 0).trans rfl; have hcz59_1 : w55.cell? ⟨gb400, 1, none⟩ = some (.int .i64 a1_1) := (blk_cell BK400.out 1).trans rfl; have hcz59_2 : w55.cell? ⟨gb400, 2, none⟩ = some (.int .i64 a1_2) := (blk_cell BK400.out 2).trans rfl; have hfz59_0 := blk_frozen BK400.out 0; have hfz59_1 := blk_frozen BK400.out 1; have hfz59_2 := blk_frozen BK400.out 2) | (go_at_call 53; (with_reducible refine (spec_l1In.calls a1_0 0 (wrap64 ((t405.length : Int) - 1)) true _ A39.out).mono ?_); rintro e w' ⟨rfl, ⟨nd, rfl⟩⟩) | (go_at_call 53; (with_reducible refine (spec_l1In.calls a1_1 0 (wrap64 ((t405.length : Int) - 1)) false _ A41.out).mono ?_); rintro e w' ⟨rfl, ⟨nd, rfl⟩⟩))
       go_meet
       case rel => exact ⟨_, (true), rs, H', ⟨by first | omega | exact Nat.le_refl _⟩, ⟨by refine rC (a := ?_); exact Kd.R_mono HO404.out (fun _ hk => hk.2)⟩, ⟨by refine rC (a := ?_); exact HO407.out⟩, ⟨by refine rC (a := ?_); exact HO410.out⟩, ⟨by refine bC (a := ?_); exact BK399.out⟩, ⟨by refine bC (a := ?_); exact BK400.out⟩, ⟨by refine bC (a := ?_); exact BK401.out⟩, ⟨hA HB.out⟩⟩
     ·replace c40 := Bool.eq_false_iff.mpr c40
      subst c40
      have H1 : (spec_Add18.j0 k true t402 t405 t408 a1_0 a1_1 a1_2) = some (r1, r2, r3, r4) := by rw [if_neg (show ¬ (false = true) by decide)] at H; exact H
      clear H
      have H := H1
      clear H1
      have H' := mk0 H
      clear H
      have hnb60 := NB399_400.out
      have hnc60 := NB400_399.out
      have hnb61 := NB399_401.out
      have hnc61 := NB401_399.out
      have hcz62_0 : w11.cell? ⟨gb399, 0, none⟩ = some (.slice Ap lp.length cp) := (blk_cell BK399.out 0).trans rfl
      have hcz62_1 : w11.cell? ⟨gb399, 1, none⟩ = some (.slice Aq lq.length cq) := (blk_cell BK399.out 1).trans rfl
      have hcz62_2 : w11.cell? ⟨gb399, 2, none⟩ = some (.slice Ar lr.length cr) := (blk_cell BK399.out 2).trans rfl
      have hfz62_0 := blk_frozen BK399.out 0
      have hfz62_1 := blk_frozen BK399.out 1
      have hfz62_2 := blk_frozen BK399.out 2
      go_wp2_with (first | ((with_reducible refine gate_callee (f := 19) rfl ?_); refine goesL_ (some 10) rfl rfl Try.func19 (by kernel_rfl) rfl #[.agg #[.slice Ao12 t402.length co12, .slice Ao14 t405.length co14, .slice Ao15 t408.length co15]] rfl ar ?_; (with_reducible refine (spec_Faults.calls k _ _ t402 _ _ t405 _ _ t408 t411 _ ?side1 ?side2 ?side3 ?side4 ?side5 ?side6 A16.out).mono ?_); (case side1 => refine (Kd.R_reads' (e := 50) (base := w.heap.size) (ok := fun k_ => (True ∧ k_ ≠ gb400)) (n := t402.length) (c := co12) ?_).2.2; exact (rC (a := by exact (Kd.R_mono (Kd.R_far (p := ⟨gb399, 2, none⟩) (Kd.R_far (p := ⟨gb399, 1, none⟩) (Kd.R_far (p := ⟨gb399, 0, none⟩) (Kd.R_types HO404.out BK399.out (by decide)) (fun _ hk => hk.2) (.slice Ao12 t402.length co12)) (fun _ hk => hk.2) (.slice Ao14 t405.length co14)) (fun _ hk => hk.2) (.slice Ao15 t408.length co15)) (fun _ h_ => h_.1))))); (case side2 => exact (Kd.R_reads' HO404.out).2.1); (case side3 => refine (Kd.R_reads' (e := 3) (base := w.heap.size) (ok := fun k_ => some k_ ≠ (.slice Ao15 t408.length co15 : Value).ownBlock) (n := t405.length) (c := co14) ?_).2.2; exact (rC (a := by exact (Kd.R_mono (Kd.R_far (p := ⟨gb399, 2, none⟩) (Kd.R_far (p := ⟨gb399, 1, none⟩) (Kd.R_far (p := ⟨gb399, 0, none⟩) (Kd.R_types HO407.out BK399.out (by decide)) (fun _ hk => hk.2) (.slice Ao12 t402.length co12)) (fun _ hk => hk.2) (.slice Ao14 t405.length co14)) (fun _ hk => hk.2) (.slice Ao15 t408.length co15)) (fun _ h_ => h_.1))))); (case side4 => exact (Kd.R_reads' HO407.out).2.1); (case side5 => refine (Kd.R_reads' (e := 3) (base := w.heap.size) (ok := fun k_ => some k_ ≠ (.slice Ao14 t405.length co14 : Value).ownBlock) (n := t408.length) (c := co15) ?_).2.2; exact (rC (a := by exact (Kd.R_mono (Kd.R_far (p := ⟨gb399, 2, none⟩) (Kd.R_far (p := ⟨gb399, 1, none⟩) (Kd.R_far (p := ⟨gb399, 0, none⟩) (Kd.R_types HO410.out BK399.out (by decide)) (fun _ hk => hk.2) (.slice Ao12 t402.length co12)) (fun _ hk => hk.2) (.slice Ao14 t405.length co14)) (fun _ hk => hk.2) (.slice Ao15 t408.length co15)) (fun _ h_ => h_.1))))); (case side6 => exact (Kd.R_reads' HO410.out).2.1); rintro e w63 ⟨v412, rfl, ho0, hb⟩; refine ⟨_, rfl, ?_⟩; have n0_ := mk0 (Kd.R_below (rC (a := by exact (Kd.R_mono (Kd.R_far (p := ⟨gb399, 2, none⟩) (Kd.R_far (p := ⟨gb399, 1, none⟩) (Kd.R_far (p := ⟨gb399, 0, none⟩) (Kd.R_types HO404.out BK399.out (by decide)) (fun _ hk => hk.2) (.slice Ao12 t402.length co12)) (fun _ hk => hk.2) (.slice Ao14 t405.length co14)) (fun _ hk => hk.2) (.slice Ao15 t408.length co15)) (fun _ h_ => h_.1)))) hb); have n1_ := mk0 (Kd.R_below (rC (a := by exact (Kd.R_mono (Kd.R_far (p := ⟨gb399, 2, none⟩) (Kd.R_far (p := ⟨gb399, 1, none⟩) (Kd.R_far (p := ⟨gb399, 0, none⟩) (Kd.R_types HO407.out BK399.out (by decide)) (fun _ hk => hk.2) (.slice Ao12 t402.length co12)) (fun _ hk => hk.2) (.slice Ao14 t405.length co14)) (fun _ hk => hk.2) (.slice Ao15 t408.length co15)) (fun _ h_ => h_.1)))) hb); have n2_ := mk0 (Kd.R_below (rC (a := by exact (Kd.R_mono (Kd.R_far (p := ⟨gb399, 2, none⟩) (Kd.R_far (p := ⟨gb399, 1, none⟩) (Kd.R_far (p := ⟨gb399, 0, none⟩) (Kd.R_types HO410.out BK399.out (by decide)) (fun _ hk => hk.2) (.slice Ao12 t402.length co12)) (fun _ hk => hk.2) (.slice Ao14 t405.length co14)) (fun _ hk => hk.2) (.slice Ao15 t408.length co15)) (fun _ h_ => h_.1)))) hb); have n3_ := mk0 (Kd.R_lower ho0 (below_size (hA HB.out))); have n4_ := mk0 (blk_below (g := gb399) (o := .cells #[.slice Ao12 t402.length co12, .slice Ao14 t405.length co14, .slice Ao15 t408.length co15] 29 (0, 0)) (by refine bC (a := ?_); refine blk_put (cs := #[.slice Ao12 t402.length co12, .slice Ao14 t405.length co14, .slice Ar lr.length cr]) ?_ 2 _ rfl; refine bC (a := ?_); refine blk_put (cs := #[.slice Ao12 t402.length co12, .slice Aq lq.length cq, .slice Ar lr.length cr]) ?_ 1 _ rfl; refine bC (a := ?_); refine blk_put (cs := #[.slice Ap lp.length cp, .slice Aq lq.length cq, .slice Ar lr.length cr]) ?_ 0 _ rfl; refine bC (a := ?_); exact BK399.out) hb); have n5_ := mk0 (blk_below (g := gb400) (o := .cells #[.int .i64 a1_0, .int .i64 a1_1, .int .i64 a1_2] 50 (0, 0)) (by refine bC (a := ?_); refine blk_far ?_ NB400_399.out _; refine bC (a := ?_); refine blk_far ?_ NB400_399.out _; refine bC (a := ?_); refine blk_far ?_ NB400_399.out _; refine bC (a := ?_); exact BK400.out) hb); have n6_ := mk0 (blk_below (g := gb401) (o := .cells #[.slice none 0 0, .slice none 0 0, .slice none 0 0] 29 (0, 0)) (by refine bC (a := ?_); refine blk_far ?_ NB401_399.out _; refine bC (a := ?_); refine blk_far ?_ NB401_399.out _; refine bC (a := ?_); refine blk_far ?_ NB401_399.out _; refine bC (a := ?_); exact BK401.out) hb); have n7_ := mk0 (below_step (hA HB.out) hb); clear HO404; clear HO407; clear HO410; clear BK399; clear BK400; clear BK401; clear HB; have HO404 := n0_; have HO407 := n1_; have HO410 := n2_; have HO413 := n3_; have BK399 := n4_; have BK400 := n5_; have BK401 := n6_; have HB := n7_; clear n0_ n1_ n2_ n3_ n4_ n5_ n6_ n7_; (try clear hb); (try clear hb2); (try clear hk); (try clear hi); (try clear ho0); obtain ⟨Ao64, co64, eo64⟩ := Kd.R_slice HO413.out; subst eo64; have hcz65_0 : w63.cell? ⟨gb399, 0, none⟩ = some (.slice Ao12 t402.length co12) := (blk_cell BK399.out 0).trans rfl; have hcz65_1 : w63.cell? ⟨gb399, 1, none⟩ = some (.slice Ao14 t405.length co14) := (blk_cell BK399.out 1).trans rfl; have hcz65_2 : w63.cell? ⟨gb399, 2, none⟩ = some (.slice Ao15 t408.length co15) := (blk_cell BK399.out 2).trans rfl; have hfz65_0 := blk_frozen BK399.out 0; have hfz65_1 := blk_frozen BK399.out 1; have hfz65_2 := blk_frozen BK399.out 2; have hnb66 := NB400_401.out; have hnc66 := NB401_400.out; have hcz67_0 : w63.cell? ⟨gb400, 0, none⟩ = some (.int .i64 a1_0) := (blk_cell BK400.out 0).trans rfl; have hcz67_1 : w63.cell? ⟨gb400, 1, none⟩ = some (.int .i64 a1_1) := (blk_cell BK400.out 1).trans rfl; have hcz67_2 : w63.cell? ⟨gb400, 2, none⟩ = some (.int .i64 a1_2) := (blk_cell BK400.out 2).trans rfl; have hfz67_0 := blk_frozen BK400.out 0; have hfz67_1 := blk_frozen BK400.out 1; have hfz67_2 := blk_frozen BK400.out 2) | (go_at_call 53; (with_reducible refine (spec_l1In.calls a1_0 0 (wrap64 ((t405.length : Int) - 1)) false _ A39.out).mono ?_); rintro e w' ⟨rfl, ⟨nd, rfl⟩⟩))
      go_meet
      case rel => exact ⟨_, (true), rs, H', ⟨by first | omega | exact Nat.le_refl _⟩, ⟨by refine rC (a := ?_); exact Kd.R_mono HO404.out (fun _ hk => hk.2)⟩, ⟨by refine rC (a := ?_); exact HO407.out⟩, ⟨by refine rC (a := ?_); exact HO410.out⟩, ⟨by refine bC (a := ?_); exact BK399.out⟩, ⟨by refine bC (a := ?_); exact BK400.out⟩, ⟨by refine bC (a := ?_); exact BK401.out⟩, ⟨hA HB.out⟩⟩
 case rest =>
  clear HC4
  (try clear c1); (try clear c2); (try clear p2); (try clear c3); (try clear c4); (try clear c5); (try clear c6); (try clear p6); (try clear c8); (try clear c9); (try clear c17); (try clear c17b0); (try clear c17b1); (try clear c18); (try clear c19); (try clear c23); (try clear c23b0); (try clear c23b1); (try clear c24); (try clear c25); (try clear c30); (try clear c30b0); (try clear c30b1); (try clear c31); (try clear c32); (try clear c37); (try clear c40); (try clear c42); (try clear c44); (try clear c45); (try clear c50); (try clear c52); (try clear c53); (try clear c56); (try clear c58); (try clear c60); (try clear c61); (try clear p64); (try clear c66); (try clear hcz10_0); (try clear hcz10_1); (try clear hcz10_2); (try clear hcz13_0); (try clear hcz13_1); (try clear hcz13_2); (try clear hcz20_0); (try clear hcz20_1); (try clear hcz20_2); (try clear hcz26_0); (try clear hcz26_1); (try clear hcz26_2); (try clear hcz29_0); (try clear hcz29_1); (try clear hcz29_2); (try clear hcz33_0); (try clear hcz33_1); (try clear hcz33_2); (try clear hcz36_0); (try clear hcz36_1); (try clear hcz36_2); (try clear hcz38_0); (try clear hcz38_1); (try clear hcz38_2); (try clear hcz46_0); (try clear hcz46_1); (try clear hcz46_2); (try clear hcz49_0); (try clear hcz49_1); (try clear hcz49_2); (try clear hcz51_0); (try clear hcz51_1); (try clear hcz51_2); (try clear hcz54_0); (try clear hcz54_1); (try clear hcz54_2); (try clear hcz57_0); (try clear hcz57_1); (try clear hcz57_2); (try clear hcz59_0); (try clear hcz59_1); (try clear hcz59_2); (try clear hcz62_0); (try clear hcz62_1); (try clear hcz62_2); (try clear hcz65_0); (try clear hcz65_1); (try clear hcz65_2); (try clear hcz67_0); (try clear hcz67_1); (try clear hcz67_2); (try clear hfz10_0); (try clear hfz10_1); (try clear hfz10_2); (try clear hfz13_0); (try clear hfz13_1); (try clear hfz13_2); (try clear hfz20_0); (try clear hfz20_1); (try clear hfz20_2); (try clear hfz26_0); (try clear hfz26_1); (try clear hfz26_2); (try clear hfz29_0); (try clear hfz29_1); (try clear hfz29_2); (try clear hfz33_0); (try clear hfz33_1); (try clear hfz33_2); (try clear hfz36_0); (try clear hfz36_1); (try clear hfz36_2); (try clear hfz38_0); (try clear hfz38_1); (try clear hfz38_2); (try clear hfz46_0); (try clear hfz46_1); (try clear hfz46_2); (try clear hfz49_0); (try clear hfz49_1); (try clear hfz49_2); (try clear hfz51_0); (try clear hfz51_1); (try clear hfz51_2); (try clear hfz54_0); (try clear hfz54_1); (try clear hfz54_2); (try clear hfz57_0); (try clear hfz57_1); (try clear hfz57_2); (try clear hfz59_0); (try clear hfz59_1); (try clear hfz59_2); (try clear hfz62_0); (try clear hfz62_1); (try clear hfz62_2); (try clear hfz65_0); (try clear hfz65_1); (try clear hfz65_2); (try clear hfz67_0); (try clear hfz67_1); (try clear hfz67_2)
  obtain ⟨kq, x55_3, rfl, HA, HJ3, HO_400000, HO_400001, HO_400002, BK399, BK400, BK401, HB⟩ := hcut
  cases kq with
  | zero => exact absurd HA.out (by simp [spec_Add18.j0])
  | succ kj3 =>
   have H := HA.out
   clear HA
   simp only [spec_Add18.j0] at H
   by_cases c68 : x55_3 = true
   ·subst c68
    have H1 : (some (t402, t405, t408, false)) = some (r1, r2, r3, r4) := by rw [if_pos rfl] at H; exact H
    clear H
    have H := H1
    clear H1
    simp only [Option.some.injEq, Prod.mk.injEq] at H
    obtain ⟨rfl, rfl, rfl, rfl⟩ := H
    have hnb69 := NB399_400.out
    have hnc69 := NB400_399.out
    have hnb70 := NB399_401.out
    have hnc70 := NB401_399.out
    have hcz71_0 : wc.cell? ⟨gb399, 0, none⟩ = some (.slice Ao12 t402.length co12) := (blk_cell BK399.out 0).trans rfl
    have hcz71_1 : wc.cell? ⟨gb399, 1, none⟩ = some (.slice Ao14 t405.length co14) := (blk_cell BK399.out 1).trans rfl
    have hcz71_2 : wc.cell? ⟨gb399, 2, none⟩ = some (.slice Ao15 t408.length co15) := (blk_cell BK399.out 2).trans rfl
    have hfz71_0 := blk_frozen BK399.out 0
    have hfz71_1 := blk_frozen BK399.out 1
    have hfz71_2 := blk_frozen BK399.out 2
    have hnb72 := NB401_400.out
    have hnc72 := NB400_401.out
    have hcz73_0 : wc.cell? ⟨gb401, 0, none⟩ = some (.slice none 0 0) := (blk_cell BK401.out 0).trans rfl
    have hcz73_1 : wc.cell? ⟨gb401, 1, none⟩ = some (.slice none 0 0) := (blk_cell BK401.out 1).trans rfl
    have hcz73_2 : wc.cell? ⟨gb401, 2, none⟩ = some (.slice none 0 0) := (blk_cell BK401.out 2).trans rfl
    have hfz73_0 := blk_frozen BK401.out 0
    have hfz73_1 := blk_frozen BK401.out 1
    have hfz73_2 := blk_frozen BK401.out 2
    go_wp2
    refine bodyPost_ret (results_ct rfl _ _ gb401 29 #[.slice Ao12 t402.length co12, .slice Ao14 t405.length co14, .slice Ao15 t408.length co15] (0, 0) _ rfl (by refine bC (a := ?_); refine blk_put (cs := #[.slice Ao12 t402.length co12, .slice Ao14 t405.length co14, .slice none 0 0]) ?_ 2 _ rfl; refine bC (a := ?_); refine blk_put (cs := #[.slice Ao12 t402.length co12, .slice none 0 0, .slice none 0 0]) ?_ 1 _ rfl; refine bC (a := ?_); refine blk_put (cs := #[.slice none 0 0, .slice none 0 0, .slice none 0 0]) ?_ 0 _ rfl; refine bC (a := ?_); exact BK401.out) Try.underlying29 rfl (by kernel_rfl)) rfl ?_
    exact ⟨_, _, _, er, by refine rC (a := ?_); exact Kd.R_mono (Kd.R_far (p := ⟨gb401, 2, none⟩) (Kd.R_far (p := ⟨gb401, 1, none⟩) (Kd.R_far (p := ⟨gb401, 0, none⟩) (Kd.R_types HO_400000.out BK401.out (by decide)) (fun _ hk => hk.2) (.slice Ao12 t402.length co12)) (fun _ hk => hk.2) (.slice Ao14 t405.length co14)) (fun _ hk => hk.2) (.slice Ao15 t408.length co15)) (fun _ hk => trivial), by refine rC (a := ?_); exact Kd.R_mono (Kd.R_far (p := ⟨gb401, 2, none⟩) (Kd.R_far (p := ⟨gb401, 1, none⟩) (Kd.R_far (p := ⟨gb401, 0, none⟩) (Kd.R_types HO_400001.out BK401.out (by decide)) (fun _ hk => hk.2) (.slice Ao12 t402.length co12)) (fun _ hk => hk.2) (.slice Ao14 t405.length co14)) (fun _ hk => hk.2) (.slice Ao15 t408.length co15)) (fun _ hk => hk.1), by refine rC (a := ?_); exact Kd.R_mono (Kd.R_far (p := ⟨gb401, 2, none⟩) (Kd.R_far (p := ⟨gb401, 1, none⟩) (Kd.R_far (p := ⟨gb401, 0, none⟩) (Kd.R_types HO_400002.out BK401.out (by decide)) (fun _ hk => hk.2) (.slice Ao12 t402.length co12)) (fun _ hk => hk.2) (.slice Ao14 t405.length co14)) (fun _ hk => hk.2) (.slice Ao15 t408.length co15)) (fun _ hk => hk.1), hA HB.out⟩
   ·replace c68 := Bool.eq_false_iff.mpr c68
    subst c68
    have H1 : (spec_Add18.l0 kj3 0 t402 t405 t408 a1_0 a1_1 a1_2) = some (r1, r2, r3, r4) := by rw [if_neg (show ¬ (false = true) by decide)] at H; exact H
    clear H
    have H := H1
    clear H1
    have H' := mk0 H
    clear H
    go_wp2
    go_loopg [6] kj3 (fun kq v6 w' => ∃ (x6_2 : Int), v6 = .int .i64 x6_2 ∧ Aside0 (spec_Add18.l0 kq x6_2 t402 t405 t408 a1_0 a1_1 a1_2 = some (r1, r2, r3, r4)) ∧ Aside0 (kq ≤ kj3) ∧ Aside0 (Kd.R k50 50 w' w.heap.size (fun k_ => k_ ≠ gb400) (.slice Ao12 t402.length co12) t402) ∧ Aside0 (Kd.R (Kd.int .i64) 3 w' w.heap.size (fun k_ => some k_ ≠ ((.slice Ao15 t408.length co15) : Value).ownBlock) (.slice Ao14 t405.length co14) t405) ∧ Aside0 (Kd.R (Kd.int .i64) 3 w' w.heap.size (fun k_ => some k_ ≠ ((.slice Ao14 t405.length co14) : Value).ownBlock) (.slice Ao15 t408.length co15) t408) ∧ Aside0 (w'.heap[gb399]? = some (.cells #[(.slice Ao12 t402.length co12), (.slice Ao14 t405.length co14), (.slice Ao15 t408.length co15)] 29 (0, 0))) ∧ Aside0 (w'.heap[gb400]? = some (.cells #[.int .i64 a1_0, .int .i64 a1_1, .int .i64 a1_2] 50 (0, 0))) ∧ Aside0 (w'.heap[gb401]? = some (.cells #[(.slice none 0 0), (.slice none 0 0), (.slice none 0 0)] 29 (0, 0))) ∧ Aside0 (Below w.heap.size w w'))
    case atStart => exact ⟨(0), rs, H', ⟨Nat.le_refl _⟩, ⟨by refine rC (a := ?_); exact HO_400000.out⟩, ⟨by refine rC (a := ?_); exact HO_400001.out⟩, ⟨by refine rC (a := ?_); exact HO_400002.out⟩, ⟨by refine bC (a := ?_); exact BK399.out⟩, ⟨by refine bC (a := ?_); exact BK400.out⟩, ⟨by refine bC (a := ?_); exact BK401.out⟩, ⟨hA HB.out⟩⟩
    case round =>
     clear H'
     (try clear c1); (try clear c2); (try clear p2); (try clear c3); (try clear c4); (try clear c5); (try clear c6); (try clear p6); (try clear c7); (try clear c8); (try clear c9); (try clear c17); (try clear c17b0); (try clear c17b1); (try clear c18); (try clear c19); (try clear c23); (try clear c23b0); (try clear c23b1); (try clear c24); (try clear c25); (try clear c30); (try clear c30b0); (try clear c30b1); (try clear c31); (try clear c32); (try clear c37); (try clear c40); (try clear c42); (try clear c44); (try clear c45); (try clear c50); (try clear c52); (try clear c53); (try clear c56); (try clear c58); (try clear c60); (try clear c61); (try clear p64); (try clear c66); (try clear c68); (try clear c69); (try clear c70); (try clear c72); (try clear hcz10_0); (try clear hcz10_1); (try clear hcz10_2); (try clear hcz13_0); (try clear hcz13_1); (try clear hcz13_2); (try clear hcz20_0); (try clear hcz20_1); (try clear hcz20_2); (try clear hcz26_0); (try clear hcz26_1); (try clear hcz26_2); (try clear hcz29_0); (try clear hcz29_1); (try clear hcz29_2); (try clear hcz33_0); (try clear hcz33_1); (try clear hcz33_2); (try clear hcz36_0); (try clear hcz36_1); (try clear hcz36_2); (try clear hcz38_0); (try clear hcz38_1); (try clear hcz38_2); (try clear hcz46_0); (try clear hcz46_1); (try clear hcz46_2); (try clear hcz49_0); (try clear hcz49_1); (try clear hcz49_2); (try clear hcz51_0); (try clear hcz51_1); (try clear hcz51_2); (try clear hcz54_0); (try clear hcz54_1); (try clear hcz54_2); (try clear hcz57_0); (try clear hcz57_1); (try clear hcz57_2); (try clear hcz59_0); (try clear hcz59_1); (try clear hcz59_2); (try clear hcz62_0); (try clear hcz62_1); (try clear hcz62_2); (try clear hcz65_0); (try clear hcz65_1); (try clear hcz65_2); (try clear hcz67_0); (try clear hcz67_1); (try clear hcz67_2); (try clear hcz71_0); (try clear hcz71_1); (try clear hcz71_2); (try clear hcz73_0); (try clear hcz73_1); (try clear hcz73_2); (try clear hfz10_0); (try clear hfz10_1); (try clear hfz10_2); (try clear hfz13_0); (try clear hfz13_1); (try clear hfz13_2); (try clear hfz20_0); (try clear hfz20_1); (try clear hfz20_2); (try clear hfz26_0); (try clear hfz26_1); (try clear hfz26_2); (try clear hfz29_0); (try clear hfz29_1); (try clear hfz29_2); (try clear hfz33_0); (try clear hfz33_1); (try clear hfz33_2); (try clear hfz36_0); (try clear hfz36_1); (try clear hfz36_2); (try clear hfz38_0); (try clear hfz38_1); (try clear hfz38_2); (try clear hfz46_0); (try clear hfz46_1); (try clear hfz46_2); (try clear hfz49_0); (try clear hfz49_1); (try clear hfz49_2); (try clear hfz51_0); (try clear hfz51_1); (try clear hfz51_2); (try clear hfz54_0); (try clear hfz54_1); (try clear hfz54_2); (try clear hfz57_0); (try clear hfz57_1); (try clear hfz57_2); (try clear hfz59_0); (try clear hfz59_1); (try clear hfz59_2); (try clear hfz62_0); (try clear hfz62_1); (try clear hfz62_2); (try clear hfz65_0); (try clear hfz65_1); (try clear hfz65_2); (try clear hfz67_0); (try clear hfz67_1); (try clear hfz67_2); (try clear hfz71_0); (try clear hfz71_1); (try clear hfz71_2); (try clear hfz73_0); (try clear hfz73_1); (try clear hfz73_2); (try clear p2); (try clear p6); (try clear p64)
     obtain ⟨x6_2, rfl, HA, HK2, HO_400000, HO_400001, HO_400002, BK399, BK400, BK401, HB⟩ := hrel
     cases gk with
     | zero => exact absurd HA.out (by simp [spec_Add18.l0])
     | succ k2 =>
      have H := HA.out
      clear HA
      simp only [spec_Add18.l0] at H
      by_cases c74 : x6_2 < (t402.length : Int)
      ·rw [if_pos c74] at H
       have c74b0 : decide (x6_2 < (t402.length : Int)) = true := decide_eq_true c74
       clear c74
       by_cases c75 : 0 ≤ x6_2
       ·rw [if_pos c75] at H
        have c75b0 : decide (0 ≤ x6_2) = true := decide_eq_true c75
        clear c75
        replace H := Option.bind_eq_some_iff.mp H
        obtain ⟨t418, A760, H⟩ := H
        replace H : (if t418 = true then (some (t402, t405, t408, false)) else (spec_Add18.l0 k2 (wrap64 (x6_2 + 1)) t402 t405 t408 a1_0 a1_1 a1_2)) = some (r1, r2, r3, r4) := H
        have A76 := mk0 A760
        clear A760
        by_cases c77 : t418 = true
        ·subst c77
         have H1 : (some (t402, t405, t408, false)) = some (r1, r2, r3, r4) := by rw [if_pos rfl] at H; exact H
         clear H
         have H := H1
         clear H1
         simp only [Option.some.injEq, Prod.mk.injEq] at H
         obtain ⟨rfl, rfl, rfl, rfl⟩ := H
         have hnb78 := NB399_400.out
         have hnc78 := NB400_399.out
         have hnb79 := NB399_401.out
         have hnc79 := NB401_399.out
         have hcz80_0 : wr.cell? ⟨gb399, 0, none⟩ = some (.slice Ao12 t402.length co12) := (blk_cell BK399.out 0).trans rfl
         have hcz80_1 : wr.cell? ⟨gb399, 1, none⟩ = some (.slice Ao14 t405.length co14) := (blk_cell BK399.out 1).trans rfl
         have hcz80_2 : wr.cell? ⟨gb399, 2, none⟩ = some (.slice Ao15 t408.length co15) := (blk_cell BK399.out 2).trans rfl
         have hfz80_0 := blk_frozen BK399.out 0
         have hfz80_1 := blk_frozen BK399.out 1
         have hfz80_2 := blk_frozen BK399.out 2
         try go_wp2
         have n0_ := mk0 (Kd.R_drew HO_400000.out)
         have n1_ := mk0 (Kd.R_drew HO_400001.out)
         have n2_ := mk0 (Kd.R_drew HO_400002.out)
         have n3_ := mk0 (blk_drew BK399.out)
         have n4_ := mk0 (blk_drew BK400.out)
         have n5_ := mk0 (blk_drew BK401.out)
         have n6_ := mk0 (below_drew1 HB.out)
         clear HO_400000
         clear HO_400001
         clear HO_400002
         clear BK399
         clear BK400
         clear BK401
         clear HB
         have HO_400000 := n0_
         have HO_400001 := n1_
         have HO_400002 := n2_
         have BK399 := n3_
         have BK400 := n4_
         have BK401 := n5_
         have HB := n6_
         clear n0_ n1_ n2_ n3_ n4_ n5_ n6_
         have p417 : 0 ≤ (x6_2 : Int) := of_decide_eq_true sm
         have q417 : x6_2 < (t402.length : Int) := of_decide_eq_true sm
         obtain ⟨ad417, e417, hx417_0, hx417_1, hx417_2⟩ := at_T50 (Kd.R_reads' HO_400000.out).2.2 x6_2 p417 q417
         cases e417
         replace p417 := eq_true p417
         replace q417 := eq_true q417
         refine start_ (n := 7) (S := fun w' => w'.cell? ⟨gb400, 0, none⟩ = some (.int .i64 a1_0) ∧ w'.cell? ⟨gb400, 1, none⟩ = some (.int .i64 a1_1) ∧ w'.cell? ⟨gb400, 2, none⟩ = some (.int .i64 a1_2) ∧ w'.cell? ⟨gb399, 0, none⟩ = some (.slice (some ad417) t402.length co12) ∧ w'.cell? ⟨gb399, 1, none⟩ = some (.slice Ao14 t405.length co14) ∧ w'.cell? ⟨gb399, 2, none⟩ = some (.slice Ao15 t408.length co15) ∧ w'.cell? (ad417.add ((x6_2).toNat * 3)) = some (.int .i64 ((rd_T50 t402 x6_2).f0)) ∧ w'.cell? ⟨(ad417.add ((x6_2).toNat * 3)).block, (ad417.add ((x6_2).toNat * 3)).off + 1, none⟩ = some (.int .i64 ((rd_T50 t402 x6_2).f1)) ∧ w'.cell? ⟨(ad417.add ((x6_2).toNat * 3)).block, (ad417.add ((x6_2).toNat * 3)).off + 2, none⟩ = some (.int .i64 ((rd_T50 t402 x6_2).f2))) (ds := []) #[O,O,O,O,O,O,O] (by kernel_rfl) rfl rfl ⟨(blk_cell BK400.out 0).trans rfl, (blk_cell BK400.out 1).trans rfl, (blk_cell BK400.out 2).trans rfl, (blk_cell BK399.out 0).trans rfl, (blk_cell BK399.out 1).trans rfl, (blk_cell BK399.out 2).trans rfl, hx417_0, hx417_1, hx417_2⟩ (fun hHeld => ?_)
         generalize wr.drew = w81 at HO_400000 HO_400001 HO_400002 BK399 BK400 BK401 HB hx417_0 hx417_1 hx417_2 hHeld ⊢
         refine pure_ (i := 1) (N := some 65) (v := ?_) (a' := ?_) #[O,I,O,O,O,O,O] rfl rfl (by kernel_rfl) (fun _ _ _ h => h) (Or.inl ⟨by rfl, ?_⟩) ?_ ?_
         rotate_left
         ·intro w'
          go_simp
          with_reducible rfl
         rotate_left
         ·simp only [Act.put, s1, s2, s3, i64_w]
          rfl
         refine pure_ (i := 3) (N := some 67) (v := ?_) (a' := ?_) #[O,I,O,I,O,O,O] rfl rfl (by kernel_rfl) (fun _ _ _ h => h) (Or.inl ⟨by rfl, ?_⟩) ?_ ?_
         rotate_left
         ·intro w'
          go_simp
          with_reducible rfl
         rotate_left
         ·simp only [Act.put, s1, s2, s3, i64_w]
          rfl
         refine take_ (i := 0) (N := some 64) (v := ?_) (a' := ?_) #[I,I,O,I,O,O,O] rfl rfl (by kernel_rfl) (fun _ _ _ h => h) (Or.inl ⟨by rfl, ?_⟩) hHeld ?_ ?_
         rotate_left
         ·rintro w' ⟨s0, s1, s2, s3, s4, s5, s6, s7, s8⟩
          go_simp
          with_reducible rfl
         rotate_left
         ·simp only [Act.put, s1, s2, s3, i64_w]
          rfl
         refine take_ (i := 2) (N := some 66) (v := ?_) (a' := ?_) #[I,I,I,I,O,O,O] rfl rfl (by kernel_rfl) (fun _ _ _ h => h) (Or.inl ⟨by rfl, ?_⟩) hHeld ?_ ?_
         rotate_left
         ·rintro w' ⟨s0, s1, s2, s3, s4, s5, s6, s7, s8⟩
          go_simp
          with_reducible rfl
         rotate_left
         ·simp only [Act.put, s1, s2, s3, i64_w]
          rfl
         refine pure_ (i := 4) (N := some 68) (v := ?_) (a' := ?_) #[I,I,I,I,I,O,O] rfl rfl (by kernel_rfl) (fun _ _ _ h => h) (Or.inl ⟨by rfl, ?_⟩) ?_ ?_
         rotate_left
         ·intro w'
          go_simp
          with_reducible rfl
         rotate_left
         ·simp only [Act.put, s1, s2, s3, i64_w]
          rfl
         refine take_ (i := 5) (N := some 69) (v := ?_) (a' := ?_) #[I,I,I,I,I,I,O] rfl rfl (by kernel_rfl) (fun _ _ _ h => h) (Or.inl ⟨by rfl, ?_⟩) hHeld ?_ ?_
         rotate_left
         ·rintro w' ⟨s0, s1, s2, s3, s4, s5, s6, s7, s8⟩
          go_simp
          with_reducible rfl
         rotate_left
         ·simp only [Act.put, s1, s2, s3, i64_w]
          rfl
         refine one_ (i := 6) (N := some 70) #[I,I,I,I,I,I,I] rfl rfl (by kernel_rfl) (by decide) (fun K hK => ?_)
         refine goes_ Try.func36 (by kernel_rfl) rfl #[.agg #[.int .i64 a1_0, .int .i64 a1_1, .int .i64 a1_2], .agg #[.int .i64 ((rd_T50 t402 x6_2).f0), .int .i64 ((rd_T50 t402 x6_2).f1), .int .i64 ((rd_T50 t402 x6_2).f2)]] (by rfl) rfl rfl ar ?_
         with_reducible refine (spec_l18Shares.calls a1_0 a1_1 a1_2 ((rd_T50 t402 x6_2).f0) ((rd_T50 t402 x6_2).f1) ((rd_T50 t402 x6_2).f2) true _ A76.out).mono ?_
         rintro e w82 ⟨rfl, hb⟩
         have HS6_ := (hb.cell (World.block_lt_of_cell? _ _ (hHeld.2.2.2.2.2.2.1))).trans (hHeld.2.2.2.2.2.2.1)
         have HS7_ := (hb.cell (World.block_lt_of_cell? _ _ (hHeld.2.2.2.2.2.2.2.1))).trans (hHeld.2.2.2.2.2.2.2.1)
         have HS8_ := (hb.cell (World.block_lt_of_cell? _ _ (hHeld.2.2.2.2.2.2.2.2))).trans (hHeld.2.2.2.2.2.2.2.2)
         refine ⟨_, rfl, ?_⟩
         have n0_ := mk0 (Kd.R_below (rA HO_400000.out) hb)
         have n1_ := mk0 (Kd.R_below (rA HO_400001.out) hb)
         have n2_ := mk0 (Kd.R_below (rA HO_400002.out) hb)
         have n3_ := mk0 (bB BK399.out hb)
         have n4_ := mk0 (bB BK400.out hb)
         have n5_ := mk0 (bB BK401.out hb)
         have n6_ := mk0 (below_step (hA HB.out) hb)
         clear HO_400000
         clear HO_400001
         clear HO_400002
         clear BK399
         clear BK400
         clear BK401
         clear HB
         have HO_400000 := n0_
         have HO_400001 := n1_
         have HO_400002 := n2_
         have BK399 := n3_
         have BK400 := n4_
         have BK401 := n5_
         have HB := n6_
         clear n0_ n1_ n2_ n3_ n4_ n5_ n6_
         (try clear hb); (try clear hb2); (try clear hk); (try clear hi)
         refine hK.out _ _ ⟨(blk_cell BK400.out 0).trans rfl, (blk_cell BK400.out 1).trans rfl, (blk_cell BK400.out 2).trans rfl, (blk_cell BK399.out 0).trans rfl, (blk_cell BK399.out 1).trans rfl, (blk_cell BK399.out 2).trans rfl, HS6_, HS7_, HS8_⟩ (fun hHeld => ?_)
         clear hK K
         refine norm_ (a' := ?_) ?_ ?_
         rotate_left
         ·show Act.put _ (some 70) _ = _
          simp only [Act.put, s1, s2, s3, i64_w]
          rfl
         refine done_ (by kernel_rfl) ?_
         have hcz83_0 : w82.cell? ⟨gb399, 0, none⟩ = some (.slice (some ad417) t402.length co12) := (blk_cell BK399.out 0).trans rfl
         have hcz83_1 : w82.cell? ⟨gb399, 1, none⟩ = some (.slice Ao14 t405.length co14) := (blk_cell BK399.out 1).trans rfl
         have hcz83_2 : w82.cell? ⟨gb399, 2, none⟩ = some (.slice Ao15 t408.length co15) := (blk_cell BK399.out 2).trans rfl
         have hfz83_0 := blk_frozen BK399.out 0
         have hfz83_1 := blk_frozen BK399.out 1
         have hfz83_2 := blk_frozen BK399.out 2
         have hnb84 := NB401_400.out
         have hnc84 := NB400_401.out
         have hcz85_0 : w82.cell? ⟨gb401, 0, none⟩ = some (.slice none 0 0) := (blk_cell BK401.out 0).trans rfl
         have hcz85_1 : w82.cell? ⟨gb401, 1, none⟩ = some (.slice none 0 0) := (blk_cell BK401.out 1).trans rfl
         have hcz85_2 : w82.cell? ⟨gb401, 2, none⟩ = some (.slice none 0 0) := (blk_cell BK401.out 2).trans rfl
         have hfz85_0 := blk_frozen BK401.out 0
         have hfz85_1 := blk_frozen BK401.out 1
         have hfz85_2 := blk_frozen BK401.out 2
         try go_wp2
         refine bodyPost_ret (results_ct rfl _ _ gb401 29 #[.slice (some ad417) t402.length co12, .slice Ao14 t405.length co14, .slice Ao15 t408.length co15] (0, 0) _ rfl (by refine bC (a := ?_); refine blk_put (cs := #[.slice (some ad417) t402.length co12, .slice Ao14 t405.length co14, .slice none 0 0]) ?_ 2 _ rfl; refine bC (a := ?_); refine blk_put (cs := #[.slice (some ad417) t402.length co12, .slice none 0 0, .slice none 0 0]) ?_ 1 _ rfl; refine bC (a := ?_); refine blk_put (cs := #[.slice none 0 0, .slice none 0 0, .slice none 0 0]) ?_ 0 _ rfl; refine bC (a := ?_); exact BK401.out) Try.underlying29 rfl (by kernel_rfl)) rfl ?_
         exact ⟨_, _, _, er, by refine rC (a := ?_); exact Kd.R_mono (Kd.R_far (p := ⟨gb401, 2, none⟩) (Kd.R_far (p := ⟨gb401, 1, none⟩) (Kd.R_far (p := ⟨gb401, 0, none⟩) (Kd.R_types HO_400000.out BK401.out (by decide)) (fun _ hk => hk.2) (.slice (some ad417) t402.length co12)) (fun _ hk => hk.2) (.slice Ao14 t405.length co14)) (fun _ hk => hk.2) (.slice Ao15 t408.length co15)) (fun _ hk => trivial), by refine rC (a := ?_); exact Kd.R_mono (Kd.R_far (p := ⟨gb401, 2, none⟩) (Kd.R_far (p := ⟨gb401, 1, none⟩) (Kd.R_far (p := ⟨gb401, 0, none⟩) (Kd.R_types HO_400001.out BK401.out (by decide)) (fun _ hk => hk.2) (.slice (some ad417) t402.length co12)) (fun _ hk => hk.2) (.slice Ao14 t405.length co14)) (fun _ hk => hk.2) (.slice Ao15 t408.length co15)) (fun _ hk => hk.1), by refine rC (a := ?_); exact Kd.R_mono (Kd.R_far (p := ⟨gb401, 2, none⟩) (Kd.R_far (p := ⟨gb401, 1, none⟩) (Kd.R_far (p := ⟨gb401, 0, none⟩) (Kd.R_types HO_400002.out BK401.out (by decide)) (fun _ hk => hk.2) (.slice (some ad417) t402.length co12)) (fun _ hk => hk.2) (.slice Ao14 t405.length co14)) (fun _ hk => hk.2) (.slice Ao15 t408.length co15)) (fun _ hk => hk.1), hA HB.out⟩
        ·replace c77 := Bool.eq_false_iff.mpr c77
         subst c77
         have H1 : (spec_Add18.l0 k2 (wrap64 (x6_2 + 1)) t402 t405 t408 a1_0 a1_1 a1_2) = some (r1, r2, r3, r4) := by rw [if_neg (show ¬ (false = true) by decide)] at H; exact H
         clear H
         have H := H1
         clear H1
         have H' := mk0 H
         clear H
         have hnb86 := NB399_400.out
         have hnc86 := NB400_399.out
         have hnb87 := NB399_401.out
         have hnc87 := NB401_399.out
         have hcz88_0 : wr.cell? ⟨gb399, 0, none⟩ = some (.slice Ao12 t402.length co12) := (blk_cell BK399.out 0).trans rfl
         have hcz88_1 : wr.cell? ⟨gb399, 1, none⟩ = some (.slice Ao14 t405.length co14) := (blk_cell BK399.out 1).trans rfl
         have hcz88_2 : wr.cell? ⟨gb399, 2, none⟩ = some (.slice Ao15 t408.length co15) := (blk_cell BK399.out 2).trans rfl
         have hfz88_0 := blk_frozen BK399.out 0
         have hfz88_1 := blk_frozen BK399.out 1
         have hfz88_2 := blk_frozen BK399.out 2
         try go_wp2
         have n0_ := mk0 (Kd.R_drew HO_400000.out)
         have n1_ := mk0 (Kd.R_drew HO_400001.out)
         have n2_ := mk0 (Kd.R_drew HO_400002.out)
         have n3_ := mk0 (blk_drew BK399.out)
         have n4_ := mk0 (blk_drew BK400.out)
         have n5_ := mk0 (blk_drew BK401.out)
         have n6_ := mk0 (below_drew1 HB.out)
         clear HO_400000
         clear HO_400001
         clear HO_400002
         clear BK399
         clear BK400
         clear BK401
         clear HB
         have HO_400000 := n0_
         have HO_400001 := n1_
         have HO_400002 := n2_
         have BK399 := n3_
         have BK400 := n4_
         have BK401 := n5_
         have HB := n6_
         clear n0_ n1_ n2_ n3_ n4_ n5_ n6_
         have p417 : 0 ≤ (x6_2 : Int) := of_decide_eq_true sm
         have q417 : x6_2 < (t402.length : Int) := of_decide_eq_true sm
         obtain ⟨ad417, e417, hx417_0, hx417_1, hx417_2⟩ := at_T50 (Kd.R_reads' HO_400000.out).2.2 x6_2 p417 q417
         cases e417
         replace p417 := eq_true p417
         replace q417 := eq_true q417
         refine start_ (n := 7) (S := fun w' => w'.cell? ⟨gb400, 0, none⟩ = some (.int .i64 a1_0) ∧ w'.cell? ⟨gb400, 1, none⟩ = some (.int .i64 a1_1) ∧ w'.cell? ⟨gb400, 2, none⟩ = some (.int .i64 a1_2) ∧ w'.cell? ⟨gb399, 0, none⟩ = some (.slice (some ad417) t402.length co12) ∧ w'.cell? ⟨gb399, 1, none⟩ = some (.slice Ao14 t405.length co14) ∧ w'.cell? ⟨gb399, 2, none⟩ = some (.slice Ao15 t408.length co15) ∧ w'.cell? (ad417.add ((x6_2).toNat * 3)) = some (.int .i64 ((rd_T50 t402 x6_2).f0)) ∧ w'.cell? ⟨(ad417.add ((x6_2).toNat * 3)).block, (ad417.add ((x6_2).toNat * 3)).off + 1, none⟩ = some (.int .i64 ((rd_T50 t402 x6_2).f1)) ∧ w'.cell? ⟨(ad417.add ((x6_2).toNat * 3)).block, (ad417.add ((x6_2).toNat * 3)).off + 2, none⟩ = some (.int .i64 ((rd_T50 t402 x6_2).f2))) (ds := []) #[O,O,O,O,O,O,O] (by kernel_rfl) rfl rfl ⟨(blk_cell BK400.out 0).trans rfl, (blk_cell BK400.out 1).trans rfl, (blk_cell BK400.out 2).trans rfl, (blk_cell BK399.out 0).trans rfl, (blk_cell BK399.out 1).trans rfl, (blk_cell BK399.out 2).trans rfl, hx417_0, hx417_1, hx417_2⟩ (fun hHeld => ?_)
         generalize wr.drew = w89 at HO_400000 HO_400001 HO_400002 BK399 BK400 BK401 HB hx417_0 hx417_1 hx417_2 hHeld ⊢
         refine pure_ (i := 1) (N := some 65) (v := ?_) (a' := ?_) #[O,I,O,O,O,O,O] rfl rfl (by kernel_rfl) (fun _ _ _ h => h) (Or.inl ⟨by rfl, ?_⟩) ?_ ?_
         rotate_left
         ·intro w'
          go_simp
          with_reducible rfl
         rotate_left
         ·simp only [Act.put, s1, s2, s3, i64_w]
          rfl
         refine pure_ (i := 3) (N := some 67) (v := ?_) (a' := ?_) #[O,I,O,I,O,O,O] rfl rfl (by kernel_rfl) (fun _ _ _ h => h) (Or.inl ⟨by rfl, ?_⟩) ?_ ?_
         rotate_left
         ·intro w'
          go_simp
          with_reducible rfl
         rotate_left
         ·simp only [Act.put, s1, s2, s3, i64_w]
          rfl
         refine take_ (i := 0) (N := some 64) (v := ?_) (a' := ?_) #[I,I,O,I,O,O,O] rfl rfl (by kernel_rfl) (fun _ _ _ h => h) (Or.inl ⟨by rfl, ?_⟩) hHeld ?_ ?_
         rotate_left
         ·rintro w' ⟨s0, s1, s2, s3, s4, s5, s6, s7, s8⟩
          go_simp
          with_reducible rfl
         rotate_left
         ·simp only [Act.put, s1, s2, s3, i64_w]
          rfl
         refine take_ (i := 2) (N := some 66) (v := ?_) (a' := ?_) #[I,I,I,I,O,O,O] rfl rfl (by kernel_rfl) (fun _ _ _ h => h) (Or.inl ⟨by rfl, ?_⟩) hHeld ?_ ?_
         rotate_left
         ·rintro w' ⟨s0, s1, s2, s3, s4, s5, s6, s7, s8⟩
          go_simp
          with_reducible rfl
         rotate_left
         ·simp only [Act.put, s1, s2, s3, i64_w]
          rfl
         refine pure_ (i := 4) (N := some 68) (v := ?_) (a' := ?_) #[I,I,I,I,I,O,O] rfl rfl (by kernel_rfl) (fun _ _ _ h => h) (Or.inl ⟨by rfl, ?_⟩) ?_ ?_
         rotate_left
         ·intro w'
          go_simp
          with_reducible rfl
         rotate_left
         ·simp only [Act.put, s1, s2, s3, i64_w]
          rfl
         refine take_ (i := 5) (N := some 69) (v := ?_) (a' := ?_) #[I,I,I,I,I,I,O] rfl rfl (by kernel_rfl) (fun _ _ _ h => h) (Or.inl ⟨by rfl, ?_⟩) hHeld ?_ ?_
         rotate_left
         ·rintro w' ⟨s0, s1, s2, s3, s4, s5, s6, s7, s8⟩
          go_simp
          with_reducible rfl
         rotate_left
         ·simp only [Act.put, s1, s2, s3, i64_w]
          rfl
         refine one_ (i := 6) (N := some 70) #[I,I,I,I,I,I,I] rfl rfl (by kernel_rfl) (by decide) (fun K hK => ?_)
         refine goes_ Try.func36 (by kernel_rfl) rfl #[.agg #[.int .i64 a1_0, .int .i64 a1_1, .int .i64 a1_2], .agg #[.int .i64 ((rd_T50 t402 x6_2).f0), .int .i64 ((rd_T50 t402 x6_2).f1), .int .i64 ((rd_T50 t402 x6_2).f2)]] (by rfl) rfl rfl ar ?_
         with_reducible refine (spec_l18Shares.calls a1_0 a1_1 a1_2 ((rd_T50 t402 x6_2).f0) ((rd_T50 t402 x6_2).f1) ((rd_T50 t402 x6_2).f2) false _ A76.out).mono ?_
         rintro e w90 ⟨rfl, hb⟩
         have HS6_ := (hb.cell (World.block_lt_of_cell? _ _ (hHeld.2.2.2.2.2.2.1))).trans (hHeld.2.2.2.2.2.2.1)
         have HS7_ := (hb.cell (World.block_lt_of_cell? _ _ (hHeld.2.2.2.2.2.2.2.1))).trans (hHeld.2.2.2.2.2.2.2.1)
         have HS8_ := (hb.cell (World.block_lt_of_cell? _ _ (hHeld.2.2.2.2.2.2.2.2))).trans (hHeld.2.2.2.2.2.2.2.2)
         refine ⟨_, rfl, ?_⟩
         have n0_ := mk0 (Kd.R_below (rA HO_400000.out) hb)
         have n1_ := mk0 (Kd.R_below (rA HO_400001.out) hb)
         have n2_ := mk0 (Kd.R_below (rA HO_400002.out) hb)
         have n3_ := mk0 (bB BK399.out hb)
         have n4_ := mk0 (bB BK400.out hb)
         have n5_ := mk0 (bB BK401.out hb)
         have n6_ := mk0 (below_step (hA HB.out) hb)
         clear HO_400000
         clear HO_400001
         clear HO_400002
         clear BK399
         clear BK400
         clear BK401
         clear HB
         have HO_400000 := n0_
         have HO_400001 := n1_
         have HO_400002 := n2_
         have BK399 := n3_
         have BK400 := n4_
         have BK401 := n5_
         have HB := n6_
         clear n0_ n1_ n2_ n3_ n4_ n5_ n6_
         (try clear hb); (try clear hb2); (try clear hk); (try clear hi)
         refine hK.out _ _ ⟨(blk_cell BK400.out 0).trans rfl, (blk_cell BK400.out 1).trans rfl, (blk_cell BK400.out 2).trans rfl, (blk_cell BK399.out 0).trans rfl, (blk_cell BK399.out 1).trans rfl, (blk_cell BK399.out 2).trans rfl, HS6_, HS7_, HS8_⟩ (fun hHeld => ?_)
         clear hK K
         refine norm_ (a' := ?_) ?_ ?_
         rotate_left
         ·show Act.put _ (some 70) _ = _
          simp only [Act.put, s1, s2, s3, i64_w]
          rfl
         refine done_ (by kernel_rfl) ?_
         try go_wp2
         go_roundg k2
         case measure => have := HJ3.out; have := HK2.out; omega
         case rel => exact ⟨(wrap64 (x6_2 + 1)), rs, H', ⟨by have := HJ3.out; have := HK2.out; omega⟩, ⟨by refine rC (a := ?_); exact HO_400000.out⟩, ⟨by refine rC (a := ?_); exact HO_400001.out⟩, ⟨by refine rC (a := ?_); exact HO_400002.out⟩, ⟨by refine bC (a := ?_); exact BK399.out⟩, ⟨by refine bC (a := ?_); exact BK400.out⟩, ⟨by refine bC (a := ?_); exact BK401.out⟩, ⟨hA HB.out⟩⟩
       ·rw [if_neg c75] at H
        exact absurd H (by simp)
      ·rw [if_neg c74] at H
       have c74b0 : decide (x6_2 < (t402.length : Int)) = false := decide_eq_false c74
       clear c74
       by_cases c91 : t402.length < 5864062014805
       ·rw [if_pos c91] at H
        have LMc91 := mk0 c91
        clear c91
        obtain ⟨y419, hy419⟩ : ∃ y_ : List (S50), y_ = (t402 ++ [(⟨a1_0, a1_1, a1_2⟩ : S50)]) := ⟨_, rfl⟩
        replace H : ((spec_l18Write.f k2 y419 (t405.length : Int) (t408.length : Int)).bind fun bt422 => (some (bt422.1, bt422.2.1, bt422.2.2, true))) = some (r1, r2, r3, r4) := by first | (rw [hy419]; with_reducible exact H) | (have H2_ := (Option.bind_some _ _).symm.trans H; rw [hy419]; with_reducible exact H2_) | (have H2_ := (Option.bind_some _ _).symm.trans H; with_reducible exact H2_) | with_reducible exact H | (rw [hy419]; exact H) | exact H
        have Ny419 := mk0 hy419
        clear hy419
        replace H := Option.bind_eq_some_iff.mp H
        obtain ⟨⟨t422, t425, t428⟩, A920, H⟩ := H
        replace H : (some (t422, t425, t428, true)) = some (r1, r2, r3, r4) := H
        have A92 := mk0 A920
        clear A920
        simp only [Option.some.injEq, Prod.mk.injEq] at H
        obtain ⟨rfl, rfl, rfl, rfl⟩ := H
        have hnb93 := NB399_400.out
        have hnc93 := NB400_399.out
        have hnb94 := NB399_401.out
        have hnc94 := NB401_399.out
        have hcz95_0 : wr.cell? ⟨gb399, 0, none⟩ = some (.slice Ao12 t402.length co12) := (blk_cell BK399.out 0).trans rfl
        have hcz95_1 : wr.cell? ⟨gb399, 1, none⟩ = some (.slice Ao14 t405.length co14) := (blk_cell BK399.out 1).trans rfl
        have hcz95_2 : wr.cell? ⟨gb399, 2, none⟩ = some (.slice Ao15 t408.length co15) := (blk_cell BK399.out 2).trans rfl
        have hfz95_0 := blk_frozen BK399.out 0
        have hfz95_1 := blk_frozen BK399.out 1
        have hfz95_2 := blk_frozen BK399.out 2
        try go_wp2
        have n0_ := mk0 (Kd.R_drew HO_400000.out)
        have n1_ := mk0 (Kd.R_drew HO_400001.out)
        have n2_ := mk0 (Kd.R_drew HO_400002.out)
        have n3_ := mk0 (blk_drew BK399.out)
        have n4_ := mk0 (blk_drew BK400.out)
        have n5_ := mk0 (blk_drew BK401.out)
        have n6_ := mk0 (below_drew1 HB.out)
        clear HO_400000
        clear HO_400001
        clear HO_400002
        clear BK399
        clear BK400
        clear BK401
        clear HB
        have HO_400000 := n0_
        have HO_400001 := n1_
        have HO_400002 := n2_
        have BK399 := n3_
        have BK400 := n4_
        have BK401 := n5_
        have HB := n6_
        clear n0_ n1_ n2_ n3_ n4_ n5_ n6_
        refine start_ (n := 14) (S := fun w' => w'.cell? ⟨gb399, 0, none⟩ = some (.slice Ao12 t402.length co12) ∧ w'.cell? ⟨gb399, 1, none⟩ = some (.slice Ao14 t405.length co14) ∧ w'.cell? ⟨gb399, 2, none⟩ = some (.slice Ao15 t408.length co15) ∧ w'.cell? ⟨gb400, 0, none⟩ = some (.int .i64 a1_0) ∧ w'.cell? ⟨gb400, 1, none⟩ = some (.int .i64 a1_1) ∧ w'.cell? ⟨gb400, 2, none⟩ = some (.int .i64 a1_2)) (ds := []) #[O,O,O,O,O,O,O,O,O,O,O,O,O,O] (by kernel_rfl) rfl rfl ⟨(blk_cell BK399.out 0).trans rfl, (blk_cell BK399.out 1).trans rfl, (blk_cell BK399.out 2).trans rfl, (blk_cell BK400.out 0).trans rfl, (blk_cell BK400.out 1).trans rfl, (blk_cell BK400.out 2).trans rfl⟩ (fun hHeld => ?_); refine with_tabW spec_Add18.tab9 spec_Add18.bits9 (fun HT_ HW_ => ?_)
        generalize wr.drew = w96 at HO_400000 HO_400001 HO_400002 BK399 BK400 BK401 HB hHeld ⊢
        refine pure_ (i := 0) (N := some 72) (v := ?_) (a' := ?_) #[I,O,O,O,O,O,O,O,O,O,O,O,O,O] rfl rfl (any_of HT_.out (by kernel_rfl)) (fun _ _ _ h => h) (Or.inl ⟨by rfl, ?_⟩) ?_ ?_
        rotate_left
        ·intro w'
         go_simp
         with_reducible rfl
        rotate_left
        ·simp only [Act.put, s1, s2, s3, i64_w]
         rfl
        refine pure_ (i := 5) (N := some 77) (v := ?_) (a' := ?_) #[I,O,O,O,O,I,O,O,O,O,O,O,O,O] rfl rfl (any_of HT_.out (by kernel_rfl)) (fun _ _ _ h => h) (Or.inl ⟨by rfl, ?_⟩) ?_ ?_
        rotate_left
        ·intro w'
         go_simp
         with_reducible rfl
        rotate_left
        ·simp only [Act.put, s1, s2, s3, i64_w]
         rfl
        refine pure_ (i := 8) (N := some 80) (v := ?_) (a' := ?_) #[I,O,O,O,O,I,O,O,I,O,O,O,O,O] rfl rfl (any_of HT_.out (by kernel_rfl)) (fun _ _ _ h => h) (Or.inl ⟨by rfl, ?_⟩) ?_ ?_
        rotate_left
        ·intro w'
         go_simp
         with_reducible rfl
        rotate_left
        ·simp only [Act.put, s1, s2, s3, i64_w]
         rfl
        refine take_ (i := 1) (N := some 73) (v := ?_) (a' := ?_) #[I,I,O,O,O,I,O,O,I,O,O,O,O,O] rfl rfl (take_ofW HT_.out HW_.out (by kernel_rfl)) (fun _ _ _ h => h) (Or.inl ⟨by rfl, ?_⟩) hHeld ?_ ?_
        rotate_left
        ·rintro w' ⟨s0, s1, s2, s3, s4, s5⟩
         go_simp
         with_reducible rfl
        rotate_left
        ·simp only [Act.put, s1, s2, s3, i64_w]
         rfl
        refine take_ (i := 2) (N := some 74) (v := ?_) (a' := ?_) #[I,I,I,O,O,I,O,O,I,O,O,O,O,O] rfl rfl (take_ofW HT_.out HW_.out (by kernel_rfl)) (fun _ _ _ h => h) (Or.inl ⟨by rfl, ?_⟩) hHeld ?_ ?_
        rotate_left
        ·rintro w' ⟨s0, s1, s2, s3, s4, s5⟩
         go_simp
         with_reducible rfl
        rotate_left
        ·simp only [Act.put, s1, s2, s3, i64_w]
         rfl
        refine take_ (i := 6) (N := some 78) (v := ?_) (a' := ?_) #[I,I,I,O,O,I,I,O,I,O,O,O,O,O] rfl rfl (take_ofW HT_.out HW_.out (by kernel_rfl)) (fun _ _ _ h => h) (Or.inl ⟨by rfl, ?_⟩) hHeld ?_ ?_
        rotate_left
        ·rintro w' ⟨s0, s1, s2, s3, s4, s5⟩
         go_simp
         with_reducible rfl
        rotate_left
        ·simp only [Act.put, s1, s2, s3, i64_w]
         rfl
        refine pure_ (i := 7) (N := some 79) (v := ?_) (a' := ?_) #[I,I,I,O,O,I,I,I,I,O,O,O,O,O] rfl rfl (any_of HT_.out (by kernel_rfl)) (fun _ _ _ h => h) (Or.inl ⟨by rfl, ?_⟩) ?_ ?_
        rotate_left
        ·intro w'
         go_simp
         with_reducible rfl
        rotate_left
        ·simp only [Act.put, s1, s2, s3, i64_w]
         rfl
        refine take_ (i := 9) (N := some 81) (v := ?_) (a' := ?_) #[I,I,I,O,O,I,I,I,I,I,O,O,O,O] rfl rfl (take_ofW HT_.out HW_.out (by kernel_rfl)) (fun _ _ _ h => h) (Or.inl ⟨by rfl, ?_⟩) hHeld ?_ ?_
        rotate_left
        ·rintro w' ⟨s0, s1, s2, s3, s4, s5⟩
         go_simp
         with_reducible rfl
        rotate_left
        ·simp only [Act.put, s1, s2, s3, i64_w]
         rfl
        refine pure_ (i := 10) (N := some 82) (v := ?_) (a' := ?_) #[I,I,I,O,O,I,I,I,I,I,I,O,O,O] rfl rfl (any_of HT_.out (by kernel_rfl)) (fun _ _ _ h => h) (Or.inl ⟨by rfl, ?_⟩) ?_ ?_
        rotate_left
        ·intro w'
         go_simp
         with_reducible rfl
        rotate_left
        ·simp only [Act.put, s1, s2, s3, i64_w]
         rfl
        refine one_ (i := 3) (N := some 75) #[I,I,I,I,O,I,I,I,I,I,I,O,O,O] rfl rfl (one_of HT_.out (by kernel_rfl)) (by decide) (fun K hK => ?_)
        refine value_ (w1 := ?_) (v := ?_) (by rfl) rfl ?_ ?_
        rotate_left 2
        ·go_simp
         constructor
         ·rfl
         ·rfl
        refine hK.out _ _ ⟨(blk_cell (blk_alloc BK399.out _) 0).trans rfl, (blk_cell (blk_alloc BK399.out _) 1).trans rfl, (blk_cell (blk_alloc BK399.out _) 2).trans rfl, (blk_cell (blk_alloc BK400.out _) 0).trans rfl, (blk_cell (blk_alloc BK400.out _) 1).trans rfl, (blk_cell (blk_alloc BK400.out _) 2).trans rfl⟩ (fun hHeld => ?_)
        clear hK K
        refine norm_ (a' := ?_) ?_ ?_
        rotate_left
        ·show Act.put _ (some 75) _ = _
         simp only [Act.put, s1, s2, s3, i64_w]
         rfl
        refine one_ (i := 4) (N := some 76) #[I,I,I,I,I,I,I,I,I,I,I,O,O,O] rfl rfl (one_of HT_.out (by kernel_rfl)) (by decide) (fun K hK => ?_)
        refine Kd.R_append_step k50 (w0 := w) w.heap.size (by rfl) (.tmp 73) (.tmp 75) 27 50 (.agg #[(.int .i64 0), (.int .i64 0), (.int .i64 0)]) 24 rfl Try.underlying27 info50 rfl (by decide) (by omega) (.slice Ao12 t402.length co12) t402 (⟨a1_0, a1_1, a1_2⟩ : S50) [.int .i64 a1_0, .int .i64 a1_1, .int .i64 a1_2] (fun k_ => k_ ≠ gb400) (fun _ => False) rfl rfl ?aP (fun _ hk => hk.elim) ?aF ?aO ?aB ?aS ?aL ?_
        (case aP => exact k50_mkM _ _ _ (⟨a1_0, a1_1, a1_2⟩ : S50))
        (case aB => exact (hA HB.out))
        (case aF => exact (fun k_ hk => Kd.freshB (g := gb400) (o := .cells #[.int .i64 a1_0, .int .i64 a1_1, .int .i64 a1_2] 50 (0, 0)) (bA BK400.out) k_ hk))
        (case aO => exact (rA HO_400000.out))
        (case aS => exact (below_size (hA HB.out)))
        (case aL => have := LMc91.out; omega)
        intro v420 w97 ho hb hg hat
        rw [← Ny419.out] at ho
        have n0_ := mk0 (Kd.R_over' (rA HO_400001.out) (Kd.R_typed (rA HO_400000.out)) (by decide) hg)
        have n1_ := mk0 (Kd.R_over' (rA HO_400002.out) (Kd.R_typed (rA HO_400000.out)) (by decide) hg)
        have n2_ := mk0 (blk_grown (g := gb399) (o := .cells #[.slice Ao12 t402.length co12, .slice Ao14 t405.length co14, .slice Ao15 t408.length co15] 29 (0, 0)) (bA BK399.out) hg (Kd.R_ne HO_400000.out BK399.out (by decide)))
        have n3_ := mk0 (blk_grown (g := gb400) (o := .cells #[.int .i64 a1_0, .int .i64 a1_1, .int .i64 a1_2] 50 (0, 0)) (bA BK400.out) hg (Kd.R_away HO_400000.out (fun _ hk => hk)))
        have n4_ := mk0 (blk_grown (g := gb401) (o := .cells #[.slice none 0 0, .slice none 0 0, .slice none 0 0] 29 (0, 0)) (bA BK401.out) hg (Kd.R_ne HO_400000.out BK401.out (by decide)))
        have n5_ := mk0 (hb)
        have n6_ := mk0 (ho)
        clear HO_400001
        clear HO_400002
        clear BK399
        clear BK400
        clear BK401
        clear HB
        clear HO_400000
        have HO_400001 := n0_
        have HO_400002 := n1_
        have BK399 := n2_
        have BK400 := n3_
        have BK401 := n4_
        have HB := n5_
        have HO421 := n6_
        clear n0_ n1_ n2_ n3_ n4_ n5_ n6_
        clear ho hb hg hat
        obtain ⟨Ao98, co98, eo98⟩ := Kd.R_slice HO421.out
        (first | subst eo98 | (injection eo98 with f1_ f2_ f3_; have f4_ := f1_.symm; have f5_ := f3_.symm; clear f1_ f2_ f3_; subst f4_; subst f5_))
        refine hK.out _ _ ⟨(blk_cell BK399.out 0).trans rfl, (blk_cell BK399.out 1).trans rfl, (blk_cell BK399.out 2).trans rfl, (blk_cell BK400.out 0).trans rfl, (blk_cell BK400.out 1).trans rfl, (blk_cell BK400.out 2).trans rfl⟩ (fun hHeld => ?_)
        clear hK K
        refine norm_ (a' := ?_) ?_ ?_
        rotate_left
        ·show Act.put _ (some 76) _ = _
         simp only [Act.put, s1, s2, s3, i64_w]
         rfl
        refine one_ (i := 11) (N := some 83) #[I,I,I,I,I,I,I,I,I,I,I,I,O,O] rfl rfl (one_of HT_.out (by kernel_rfl)) (by decide) (fun K hK => ?_)
        refine goes_ Try.func37 (by kernel_rfl) rfl #[.slice Ao98 y419.length co98, .int .i64 (t405.length : Int), .int .i64 (t408.length : Int)] (by rfl) rfl rfl ar ?_
        with_reducible refine (spec_l18Write.calls k2 _ _ y419 (t405.length : Int) (t408.length : Int) t422 t425 t428 _ w.heap.size _ HO421.out ?side1 ?side2 A92.out).mono ?_
        (case side1 => exact cA (Kd.R_reads' HO421.out).2.2)
        (case side2 => exact (Kd.R_reads' HO421.out).2.1)
        rintro e w99 ⟨v423, v426, v429, rfl, ho0, ho1, ho2, hb⟩
        refine ⟨_, rfl, ?_⟩
        have n0_ := mk0 (Kd.R_mono (Kd.R_told (Kd.R_told (Kd.R_old (rA HO_400001.out) hb) (Kd.R_base ho1)) (Kd.R_base ho2)) (fun _ h_ => h_.1))
        have n1_ := mk0 (Kd.R_mono (Kd.R_told (Kd.R_told (Kd.R_old (rA HO_400002.out) hb) (Kd.R_base ho1)) (Kd.R_base ho2)) (fun _ h_ => h_.1))
        have n2_ := mk0 (Kd.R_below HO421.out hb)
        have n3_ := mk0 ho0
        have n4_ := mk0 (Kd.R_lower (Kd.R_new' (Kd.R_new' ho1 (Kd.R_lt (rA HO_400001.out))) (Kd.R_lt (rA HO_400002.out))) (below_size (hA HB.out)))
        have n5_ := mk0 (Kd.R_lower (Kd.R_new' (Kd.R_new' ho2 (Kd.R_lt (rA HO_400001.out))) (Kd.R_lt (rA HO_400002.out))) (below_size (hA HB.out)))
        have n6_ := mk0 (bB BK399.out hb)
        have n7_ := mk0 (bB BK400.out hb)
        have n8_ := mk0 (bB BK401.out hb)
        have n9_ := mk0 (below_step (hA HB.out) hb)
        clear HO_400001
        clear HO_400002
        clear HO421
        clear BK399
        clear BK400
        clear BK401
        clear HB
        have HO_400001 := n0_
        have HO_400002 := n1_
        have HO421 := n2_
        have HO424 := n3_
        have HO427 := n4_
        have HO430 := n5_
        have BK399 := n6_
        have BK400 := n7_
        have BK401 := n8_
        have HB := n9_
        clear n0_ n1_ n2_ n3_ n4_ n5_ n6_ n7_ n8_ n9_
        (try clear hb); (try clear hb2); (try clear hk); (try clear hi); (try clear ho0); (try clear ho1); (try clear ho2)
        obtain ⟨Ao100, co100, eo100⟩ := Kd.R_slice HO424.out
        (first | subst eo100 | (injection eo100 with f1_ f2_ f3_; have f4_ := f1_.symm; have f5_ := f3_.symm; clear f1_ f2_ f3_; subst f4_; subst f5_))
        obtain ⟨Ao102, co102, eo102⟩ := Kd.R_slice HO427.out
        (first | subst eo102 | (injection eo102 with f1_ f2_ f3_; have f4_ := f1_.symm; have f5_ := f3_.symm; clear f1_ f2_ f3_; subst f4_; subst f5_))
        obtain ⟨Ao104, co104, eo104⟩ := Kd.R_slice HO430.out
        (first | subst eo104 | (injection eo104 with f1_ f2_ f3_; have f4_ := f1_.symm; have f5_ := f3_.symm; clear f1_ f2_ f3_; subst f4_; subst f5_))
        refine hK.out _ _ ⟨(blk_cell BK399.out 0).trans rfl, (blk_cell BK399.out 1).trans rfl, (blk_cell BK399.out 2).trans rfl, (blk_cell BK400.out 0).trans rfl, (blk_cell BK400.out 1).trans rfl, (blk_cell BK400.out 2).trans rfl⟩ (fun hHeld => ?_)
        clear hK K
        refine norm_ (a' := ?_) ?_ ?_
        rotate_left
        ·show Act.put _ (some 83) _ = _
         simp only [Act.put, s1, s2, s3, i64_w]
         rfl
        refine one_ (i := 12) (N := none) #[I,I,I,I,I,I,I,I,I,I,I,I,I,O] rfl rfl (one_of HT_.out (by kernel_rfl)) (by decide) (fun K hK => ?_)
        have hs101 : w99.cell? ⟨gb401, 0, none⟩ = some (.slice none 0 0) := (blk_cell BK401.out 0).trans rfl
        have hfs101 := blk_frozen BK401.out 0
        have hns101_0 := NB399_401.out
        have hns101_1 := NB400_401.out
        have hms101_0 := NB401_399.out
        have hms101_1 := NB401_400.out
        have hs103 : w99.cell? ⟨gb401, 1, none⟩ = some (.slice none 0 0) := (blk_cell BK401.out 1).trans rfl
        have hfs103 := blk_frozen BK401.out 1
        have hns103_0 := NB399_401.out
        have hns103_1 := NB400_401.out
        have hms103_0 := NB401_399.out
        have hms103_1 := NB401_400.out
        have hs105 : w99.cell? ⟨gb401, 2, none⟩ = some (.slice none 0 0) := (blk_cell BK401.out 2).trans rfl
        have hfs105 := blk_frozen BK401.out 2
        have hns105_0 := NB399_401.out
        have hns105_1 := NB400_401.out
        have hms105_0 := NB401_399.out
        have hms105_1 := NB401_400.out
        refine skip_ (w1 := ?_) (by rfl) rfl ?_ ?_
        rotate_left
        ·go_simp
         rfl
        refine hK.out _ _ ⟨((cell_far (p := ⟨gb401, _, none⟩) NB399_401.out _).trans (((cell_far (p := ⟨gb401, _, none⟩) NB399_401.out _).trans (((cell_far (p := ⟨gb401, _, none⟩) NB399_401.out _).trans (hHeld.1)))))), ((cell_far (p := ⟨gb401, _, none⟩) NB399_401.out _).trans (((cell_far (p := ⟨gb401, _, none⟩) NB399_401.out _).trans (((cell_far (p := ⟨gb401, _, none⟩) NB399_401.out _).trans (hHeld.2.1)))))), ((cell_far (p := ⟨gb401, _, none⟩) NB399_401.out _).trans (((cell_far (p := ⟨gb401, _, none⟩) NB399_401.out _).trans (((cell_far (p := ⟨gb401, _, none⟩) NB399_401.out _).trans (hHeld.2.2.1)))))), ((cell_far (p := ⟨gb401, _, none⟩) NB400_401.out _).trans (((cell_far (p := ⟨gb401, _, none⟩) NB400_401.out _).trans (((cell_far (p := ⟨gb401, _, none⟩) NB400_401.out _).trans (hHeld.2.2.2.1)))))), ((cell_far (p := ⟨gb401, _, none⟩) NB400_401.out _).trans (((cell_far (p := ⟨gb401, _, none⟩) NB400_401.out _).trans (((cell_far (p := ⟨gb401, _, none⟩) NB400_401.out _).trans (hHeld.2.2.2.2.1)))))), ((cell_far (p := ⟨gb401, _, none⟩) NB400_401.out _).trans (((cell_far (p := ⟨gb401, _, none⟩) NB400_401.out _).trans (((cell_far (p := ⟨gb401, _, none⟩) NB400_401.out _).trans (hHeld.2.2.2.2.2))))))⟩ (fun hHeld => ?_)
        clear hK K
        refine pure_ (i := 13) (N := some 5) (v := ?_) (a' := ?_) #[I,I,I,I,I,I,I,I,I,I,I,I,I,I] rfl rfl (any_of HT_.out (by kernel_rfl)) (fun _ _ _ h => h) (Or.inl ⟨by rfl, ?_⟩) ?_ ?_
        rotate_left
        ·intro w'
         go_simp
         with_reducible rfl
        rotate_left
        ·simp only [Act.put, s1, s2, s3, i64_w]
         rfl
        refine done_ (done_of HT_.out (by kernel_rfl)) ?_
        try go_wp2
        refine bodyPost_ret (results_ct rfl _ _ gb401 29 #[.slice Ao100 t422.length co100, .slice Ao102 t425.length co102, .slice Ao104 t428.length co104] (0, 0) _ rfl (by refine bC (a := ?_); refine blk_put (cs := #[.slice Ao100 t422.length co100, .slice Ao102 t425.length co102, .slice none 0 0]) ?_ 2 _ rfl; refine bC (a := ?_); refine blk_put (cs := #[.slice Ao100 t422.length co100, .slice none 0 0, .slice none 0 0]) ?_ 1 _ rfl; refine bC (a := ?_); refine blk_put (cs := #[.slice none 0 0, .slice none 0 0, .slice none 0 0]) ?_ 0 _ rfl; refine bC (a := ?_); exact BK401.out) Try.underlying29 rfl (by kernel_rfl)) rfl ?_
        exact ⟨_, _, _, er, by refine rC (a := ?_); exact Kd.R_mono (Kd.R_far (p := ⟨gb401, 2, none⟩) (Kd.R_far (p := ⟨gb401, 1, none⟩) (Kd.R_far (p := ⟨gb401, 0, none⟩) (Kd.R_types HO424.out BK401.out (by decide)) (fun _ hk => hk.2) (.slice Ao100 t422.length co100)) (fun _ hk => hk.2) (.slice Ao102 t425.length co102)) (fun _ hk => hk.2) (.slice Ao104 t428.length co104)) (fun _ hk => trivial), by refine rC (a := ?_); exact Kd.R_mono (Kd.R_far (p := ⟨gb401, 2, none⟩) (Kd.R_far (p := ⟨gb401, 1, none⟩) (Kd.R_far (p := ⟨gb401, 0, none⟩) (Kd.R_types HO427.out BK401.out (by decide)) (fun _ hk => hk.2) (.slice Ao100 t422.length co100)) (fun _ hk => hk.2) (.slice Ao102 t425.length co102)) (fun _ hk => hk.2) (.slice Ao104 t428.length co104)) (fun _ hk => hk.1.1.1), by refine rC (a := ?_); exact Kd.R_mono (Kd.R_far (p := ⟨gb401, 2, none⟩) (Kd.R_far (p := ⟨gb401, 1, none⟩) (Kd.R_far (p := ⟨gb401, 0, none⟩) (Kd.R_types HO430.out BK401.out (by decide)) (fun _ hk => hk.2) (.slice Ao100 t422.length co100)) (fun _ hk => hk.2) (.slice Ao102 t425.length co102)) (fun _ hk => hk.2) (.slice Ao104 t428.length co104)) (fun _ hk => hk.1.1.1), hA HB.out⟩
       ·rw [if_neg c91] at H
        exact absurd H (by simp)
end Go.Proofs.Ytngnkfpciloamaa.MFnBooked
