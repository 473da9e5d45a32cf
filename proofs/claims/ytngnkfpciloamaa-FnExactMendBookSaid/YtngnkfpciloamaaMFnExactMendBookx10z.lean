/- A piece of the law FnExactMendBook: begun as a text of the print over stubs; turned and cut by wip/split.py. -/
import Derived.Test.YtngnkfpciloamaaShortFnExactMendBook
import Derived.Test.YtngnkfpciloamaaMFnExactMendBookx0
import Derived.Test.YtngnkfpciloamaaMFnExactMendBookx1
import Derived.Test.YtngnkfpciloamaaMFnExactMendBookx4
import Derived.Test.YtngnkfpciloamaaMFnExactMendBookx5
import Derived.Test.YtngnkfpciloamaaMFnExactMendBookx7
import Derived.Test.YtngnkfpciloamaaMFnExactMendBookx8
import Derived.Test.YtngnkfpciloamaaMFnExactMendBookx9
import Derived.Test.YtngnkfpciloamaaMFnExactMendBookx10
import Derived.Test.YtngnkfpciloamaaMFnExactMendBookx10a
import Derived.Test.YtngnkfpciloamaaMFnExactMendBookx10b
namespace Go.Proofs.Ytngnkfpciloamaa.MFnExactMendBook
open Go.RowKit Go.Proofs.YtngnkfpciloamaaW.PrintWords Go.Proofs.YtngnkfpciloamaaW.PrintLast Go.Proofs.YtngnkfpciloamaaW.PrintMore
attribute [local go_sem] max2_int min2_int max_two min_two max_three min_three max_four min_four   -- for this text's walks alone
set_option linter.unusedVariables false
set_option linter.unusedSimpArgs false
set_option maxRecDepth 20000
set_option maxHeartbeats 0
theorem laws_FnExactMendBook.calls (k : Nat) (A0_0 : Option Addr) (c0_0 : Nat) (l0_0 : List (S54)) (A0_1 : Option Addr) (c0_1 : Nat) (l0_1 : List Int) (A0_2 : Option Addr) (c0_2 : Nat) (l0_2 : List Int) (r : Bool) (w : World) (hr0_0 : Kd.C k54 w A0_0 l0_0.length l0_0) (hc0_0 : l0_0.length ≤ c0_0) (hr0_1 : Kd.C (Kd.int .i64) w A0_1 l0_1.length l0_1) (hc0_1 : l0_1.length ≤ c0_1) (hr0_2 : Kd.C (Kd.int .i64) w A0_2 l0_2.length l0_2) (hc0_2 : l0_2.length ≤ c0_2) (h : laws_FnExactMendBook.f k l0_0 l0_1 l0_2 = some r) :
  Calls Try.prog 3 #[.agg #[.slice A0_0 l0_0.length c0_0, .slice A0_1 l0_1.length c0_1, .slice A0_2 l0_2.length c0_2]] w fun e w' => e = .returned (.bool r) ∧ Below w.heap.size w w' := by
 have hu25 := Try.underlying25
 have hu29 := Try.underlying29
 have HR0_0 := Aside0.mk hr0_0
 have HC0_0 := Aside0.mk hc0_0
 clear hr0_0 hc0_0
 have HR0_1 := Aside0.mk hr0_1
 have HC0_1 := Aside0.mk hc0_1
 clear hr0_1 hc0_1
 have HR0_2 := Aside0.mk hr0_2
 have HC0_2 := Aside0.mk hc0_2
 clear hr0_2 hc0_2
 have HB := Aside0.mk (Below.refl w.heap.size w)
 have H : ((laws_szBook.f l0_0 l0_1 l0_2 1048576).bind fun t297 => (if t297 < 0 then (some true) else ((laws_toBook.f k l0_0 l0_1 l0_2).bind fun bt298 => ((spec_MendBook.f k bt298.1 bt298.2.1 bt298.2.2).bind fun bt307 => ((laws_toBook.f k l0_0 l0_1 l0_2).bind fun bt320 => ((impl_MendBook.f k bt320.1 bt320.2.1 bt320.2.2).bind fun bt330 => ((laws_eqBook.f k bt330.1 bt330.2.1 bt330.2.2.1 bt307.1 bt307.2.1 bt307.2.2.1).bind fun t343 => (if t343 = true then ((laws_eqIntS.f k bt330.2.2.2 bt307.2.2.2).bind fun t344 => (laws_FnExactMendBook.j0 k bt307.2.2.2 bt330.2.2.2 (!t344) l0_0 l0_1 l0_2 bt307.1 bt307.2.1 bt307.2.2.1 bt320.1 bt320.2.1 bt320.2.2 bt330.1 bt330.2.1 bt330.2.2.1)) else (laws_FnExactMendBook.j0 k bt307.2.2.2 bt330.2.2.2 true l0_0 l0_1 l0_2 bt307.1 bt307.2.1 bt307.2.2.1 bt320.1 bt320.2.1 bt320.2.2 bt330.1 bt330.2.1 bt330.2.2.1))))))))) = some r := h
 clear h
 replace H := Option.bind_eq_some_iff.mp H
 obtain ⟨t297, A20, H⟩ := H
 replace H : (if t297 < 0 then (some true) else ((laws_toBook.f k l0_0 l0_1 l0_2).bind fun bt298 => ((spec_MendBook.f k bt298.1 bt298.2.1 bt298.2.2).bind fun bt307 => ((laws_toBook.f k l0_0 l0_1 l0_2).bind fun bt320 => ((impl_MendBook.f k bt320.1 bt320.2.1 bt320.2.2).bind fun bt330 => ((laws_eqBook.f k bt330.1 bt330.2.1 bt330.2.2.1 bt307.1 bt307.2.1 bt307.2.2.1).bind fun t343 => (if t343 = true then ((laws_eqIntS.f k bt330.2.2.2 bt307.2.2.2).bind fun t344 => (laws_FnExactMendBook.j0 k bt307.2.2.2 bt330.2.2.2 (!t344) l0_0 l0_1 l0_2 bt307.1 bt307.2.1 bt307.2.2.1 bt320.1 bt320.2.1 bt320.2.2 bt330.1 bt330.2.1 bt330.2.2.1)) else (laws_FnExactMendBook.j0 k bt307.2.2.2 bt330.2.2.2 true l0_0 l0_1 l0_2 bt307.1 bt307.2.1 bt307.2.2.1 bt320.1 bt320.2.1 bt320.2.2 bt330.1 bt330.2.1 bt330.2.2.1)))))))) = some r := H
 have A2 := Aside0.mk A20
 clear A20
 by_cases c3 : t297 < 0
 ·rw [if_pos c3] at H
  have c3b0 : decide (t297 < 0) = true := decide_eq_true c3
  clear c3
  obtain rfl := Option.some.inj H
  go_enter Try.func3, Try.ntmps3
  go_wp2_with (first | ((with_reducible refine gate_dst (N := 1) rfl ?_); refine box_event ?hg (N := 1) ?hd (cs := #[.slice A0_0 l0_0.length c0_0, .slice A0_1 l0_1.length c0_1, .slice A0_2 l0_2.length c0_2]) (t := 25) ?hr ?_; (case hd => rfl); (case hg => rfl); (case hr => first | (go_simp; done) | (go_simp; rfl)); intro gb296 hg w4 hbox hb; have n0_ := Aside0.mk (below_step (hA HB.out) hb); have n1_ := Aside0.mk (hbox); have n2_ := Aside0.mk ((by rw [hg]; exact (below_size (hA HB.out)) : w.heap.size ≤ gb296)); have n3_ := Aside0.mk ((by rw [hg]; exact (below_size (hA HB.out)) : w.heap.size ≤ gb296)); clear HB; have HB := n0_; have BK296 := n1_; have GW296 := n2_; have GE296 := n3_; clear n0_ n1_ n2_ n3_; clear hb hbox hg; have hcz5_0 : w4.cell? ⟨gb296, 0, none⟩ = some (.slice A0_0 l0_0.length c0_0) := (blk_cell BK296.out 0).trans rfl; have hcz5_1 : w4.cell? ⟨gb296, 1, none⟩ = some (.slice A0_1 l0_1.length c0_1) := (blk_cell BK296.out 1).trans rfl; have hcz5_2 : w4.cell? ⟨gb296, 2, none⟩ = some (.slice A0_2 l0_2.length c0_2) := (blk_cell BK296.out 2).trans rfl; have hfz5_0 := blk_frozen BK296.out 0; have hfz5_1 := blk_frozen BK296.out 1; have hfz5_2 := blk_frozen BK296.out 2) | ((with_reducible refine gate_callee (f := 9) rfl ?_); refine goesL_ (some 16) rfl rfl Try.func9 (by kernel_rfl) rfl #[.agg #[.slice A0_0 l0_0.length c0_0, .slice A0_1 l0_1.length c0_1, .slice A0_2 l0_2.length c0_2], .int .i64 1048576] rfl ar ?_; (with_reducible refine (laws_szBook.calls _ _ l0_0 _ _ l0_1 _ _ l0_2 1048576 t297 _ ?side1 ?side2 ?side3 ?side4 ?side5 ?side6 A2.out).mono ?_); (case side1 => repeat (first | exact (Kd.C_below HR0_0.out HB.out) | (with_reducible refine Kd.C_alloc ?_ _) | (with_reducible refine Kd.C_drewN ?_ _) | (with_reducible refine Kd.C_drew ?_))); (case side2 => exact HC0_0.out); (case side3 => repeat (first | exact (Kd.C_below HR0_1.out HB.out) | (with_reducible refine Kd.C_alloc ?_ _) | (with_reducible refine Kd.C_drewN ?_ _) | (with_reducible refine Kd.C_drew ?_))); (case side4 => exact HC0_1.out); (case side5 => repeat (first | exact (Kd.C_below HR0_2.out HB.out) | (with_reducible refine Kd.C_alloc ?_ _) | (with_reducible refine Kd.C_drewN ?_ _) | (with_reducible refine Kd.C_drew ?_))); (case side6 => exact HC0_2.out); rintro e w6 ⟨rfl, hb⟩; refine ⟨_, rfl, ?_⟩; have n0_ := Aside0.mk (blk_below (g := gb296) (o := .cells #[.slice A0_0 l0_0.length c0_0, .slice A0_1 l0_1.length c0_1, .slice A0_2 l0_2.length c0_2] 25 (0, 0)) (bA BK296.out) hb); have n1_ := Aside0.mk (below_step (hA HB.out) hb); clear BK296; clear HB; have BK296 := n0_; have HB := n1_; clear n0_ n1_; (try clear hb); (try clear hb2); (try clear hk); (try clear hi)))
  go_ret
  exact ⟨by first | rfl | (simp [errW_none, errW_some] <;> rfl) | (simp [*, errW_none, errW_some] <;> rfl), hA HB.out⟩
 ·rw [if_neg c3] at H
  have c3b0 : decide (t297 < 0) = false := decide_eq_false c3
  clear c3
  replace H := Option.bind_eq_some_iff.mp H
  obtain ⟨⟨t298, t301, t304⟩, A70, H⟩ := H
  replace H : ((spec_MendBook.f k t298 t301 t304).bind fun bt307 => ((laws_toBook.f k l0_0 l0_1 l0_2).bind fun bt320 => ((impl_MendBook.f k bt320.1 bt320.2.1 bt320.2.2).bind fun bt330 => ((laws_eqBook.f k bt330.1 bt330.2.1 bt330.2.2.1 bt307.1 bt307.2.1 bt307.2.2.1).bind fun t343 => (if t343 = true then ((laws_eqIntS.f k bt330.2.2.2 bt307.2.2.2).bind fun t344 => (laws_FnExactMendBook.j0 k bt307.2.2.2 bt330.2.2.2 (!t344) l0_0 l0_1 l0_2 bt307.1 bt307.2.1 bt307.2.2.1 bt320.1 bt320.2.1 bt320.2.2 bt330.1 bt330.2.1 bt330.2.2.1)) else (laws_FnExactMendBook.j0 k bt307.2.2.2 bt330.2.2.2 true l0_0 l0_1 l0_2 bt307.1 bt307.2.1 bt307.2.2.1 bt320.1 bt320.2.1 bt320.2.2 bt330.1 bt330.2.1 bt330.2.2.1)))))) = some r := H
  have A7 := Aside0.mk A70
  clear A70
  replace H := Option.bind_eq_some_iff.mp H
  obtain ⟨⟨t307, t310, t313, t316⟩, A80, H⟩ := H
  replace H : ((laws_toBook.f k l0_0 l0_1 l0_2).bind fun bt320 => ((impl_MendBook.f k bt320.1 bt320.2.1 bt320.2.2).bind fun bt330 => ((laws_eqBook.f k bt330.1 bt330.2.1 bt330.2.2.1 t307 t310 t313).bind fun t343 => (if t343 = true then ((laws_eqIntS.f k bt330.2.2.2 t316).bind fun t344 => (laws_FnExactMendBook.j0 k t316 bt330.2.2.2 (!t344) l0_0 l0_1 l0_2 t307 t310 t313 bt320.1 bt320.2.1 bt320.2.2 bt330.1 bt330.2.1 bt330.2.2.1)) else (laws_FnExactMendBook.j0 k t316 bt330.2.2.2 true l0_0 l0_1 l0_2 t307 t310 t313 bt320.1 bt320.2.1 bt320.2.2 bt330.1 bt330.2.1 bt330.2.2.1))))) = some r := H
  have A8 := Aside0.mk A80
  clear A80
  replace H := Option.bind_eq_some_iff.mp H
  obtain ⟨⟨t320, t323, t326⟩, A90, H⟩ := H
  replace H : ((impl_MendBook.f k t320 t323 t326).bind fun bt330 => ((laws_eqBook.f k bt330.1 bt330.2.1 bt330.2.2.1 t307 t310 t313).bind fun t343 => (if t343 = true then ((laws_eqIntS.f k bt330.2.2.2 t316).bind fun t344 => (laws_FnExactMendBook.j0 k t316 bt330.2.2.2 (!t344) l0_0 l0_1 l0_2 t307 t310 t313 t320 t323 t326 bt330.1 bt330.2.1 bt330.2.2.1)) else (laws_FnExactMendBook.j0 k t316 bt330.2.2.2 true l0_0 l0_1 l0_2 t307 t310 t313 t320 t323 t326 bt330.1 bt330.2.1 bt330.2.2.1)))) = some r := H
  have A9 := Aside0.mk A90
  clear A90
  replace H := Option.bind_eq_some_iff.mp H
  obtain ⟨⟨t330, t333, t336, t339⟩, A100, H⟩ := H
  replace H : ((laws_eqBook.f k t330 t333 t336 t307 t310 t313).bind fun t343 => (if t343 = true then ((laws_eqIntS.f k t339 t316).bind fun t344 => (laws_FnExactMendBook.j0 k t316 t339 (!t344) l0_0 l0_1 l0_2 t307 t310 t313 t320 t323 t326 t330 t333 t336)) else (laws_FnExactMendBook.j0 k t316 t339 true l0_0 l0_1 l0_2 t307 t310 t313 t320 t323 t326 t330 t333 t336))) = some r := H
  have A10 := Aside0.mk A100
  clear A100
  have HC11 := Aside0.mk H
  clear H
  go_enter Try.func3, Try.ntmps3
  go_upto_region 8 with (first | ((with_reducible refine gate_dst (N := 1) rfl ?_); refine box_event ?hg (N := 1) ?hd (cs := #[.slice A0_0 l0_0.length c0_0, .slice A0_1 l0_1.length c0_1, .slice A0_2 l0_2.length c0_2]) (t := 25) ?hr ?_; (case hd => rfl); (case hg => rfl); (case hr => first | (go_simp; done) | (go_simp; rfl)); intro gb296 hg w12 hbox hb; have n0_ := Aside0.mk (below_step (hA HB.out) hb); have n1_ := Aside0.mk (hbox); have n2_ := Aside0.mk ((by rw [hg]; exact (below_size (hA HB.out)) : w.heap.size ≤ gb296)); have n3_ := Aside0.mk ((by rw [hg]; exact (below_size (hA HB.out)) : w.heap.size ≤ gb296)); clear HB; have HB := n0_; have BK296 := n1_; have GW296 := n2_; have GE296 := n3_; clear n0_ n1_ n2_ n3_; clear hb hbox hg; have hcz13_0 : w12.cell? ⟨gb296, 0, none⟩ = some (.slice A0_0 l0_0.length c0_0) := (blk_cell BK296.out 0).trans rfl; have hcz13_1 : w12.cell? ⟨gb296, 1, none⟩ = some (.slice A0_1 l0_1.length c0_1) := (blk_cell BK296.out 1).trans rfl; have hcz13_2 : w12.cell? ⟨gb296, 2, none⟩ = some (.slice A0_2 l0_2.length c0_2) := (blk_cell BK296.out 2).trans rfl; have hfz13_0 := blk_frozen BK296.out 0; have hfz13_1 := blk_frozen BK296.out 1; have hfz13_2 := blk_frozen BK296.out 2) | ((with_reducible refine gate_callee (f := 9) rfl ?_); refine goesL_ (some 16) rfl rfl Try.func9 (by kernel_rfl) rfl #[.agg #[.slice A0_0 l0_0.length c0_0, .slice A0_1 l0_1.length c0_1, .slice A0_2 l0_2.length c0_2], .int .i64 1048576] rfl ar ?_; (with_reducible refine (laws_szBook.calls _ _ l0_0 _ _ l0_1 _ _ l0_2 1048576 t297 _ ?side1 ?side2 ?side3 ?side4 ?side5 ?side6 A2.out).mono ?_); (case side1 => repeat (first | exact (Kd.C_below HR0_0.out HB.out) | (with_reducible refine Kd.C_alloc ?_ _) | (with_reducible refine Kd.C_drewN ?_ _) | (with_reducible refine Kd.C_drew ?_))); (case side2 => exact HC0_0.out); (case side3 => repeat (first | exact (Kd.C_below HR0_1.out HB.out) | (with_reducible refine Kd.C_alloc ?_ _) | (with_reducible refine Kd.C_drewN ?_ _) | (with_reducible refine Kd.C_drew ?_))); (case side4 => exact HC0_1.out); (case side5 => repeat (first | exact (Kd.C_below HR0_2.out HB.out) | (with_reducible refine Kd.C_alloc ?_ _) | (with_reducible refine Kd.C_drewN ?_ _) | (with_reducible refine Kd.C_drew ?_))); (case side6 => exact HC0_2.out); rintro e w14 ⟨rfl, hb⟩; refine ⟨_, rfl, ?_⟩; have n0_ := Aside0.mk (blk_below (g := gb296) (o := .cells #[.slice A0_0 l0_0.length c0_0, .slice A0_1 l0_1.length c0_1, .slice A0_2 l0_2.length c0_2] 25 (0, 0)) (bA BK296.out) hb); have n1_ := Aside0.mk (below_step (hA HB.out) hb); clear BK296; clear HB; have BK296 := n0_; have HB := n1_; clear n0_ n1_; (try clear hb); (try clear hb2); (try clear hk); (try clear hi); have hcz15_0 : w14.cell? ⟨gb296, 0, none⟩ = some (.slice A0_0 l0_0.length c0_0) := (blk_cell BK296.out 0).trans rfl; have hcz15_1 : w14.cell? ⟨gb296, 1, none⟩ = some (.slice A0_1 l0_1.length c0_1) := (blk_cell BK296.out 1).trans rfl; have hcz15_2 : w14.cell? ⟨gb296, 2, none⟩ = some (.slice A0_2 l0_2.length c0_2) := (blk_cell BK296.out 2).trans rfl; have hfz15_0 := blk_frozen BK296.out 0; have hfz15_1 := blk_frozen BK296.out 1; have hfz15_2 := blk_frozen BK296.out 2) | ((with_reducible refine gate_callee (f := 11) rfl ?_); refine goesL_ (some 21) rfl rfl Try.func11 (by kernel_rfl) rfl #[.agg #[.slice A0_0 l0_0.length c0_0, .slice A0_1 l0_1.length c0_1, .slice A0_2 l0_2.length c0_2]] rfl ar ?_; (with_reducible refine (laws_toBook.calls k _ _ l0_0 _ _ l0_1 _ _ l0_2 t298 t301 t304 _ ?side1 ?side2 ?side3 ?side4 ?side5 ?side6 A7.out).mono ?_); (case side1 => repeat (first | exact (Kd.C_below HR0_0.out HB.out) | (with_reducible refine Kd.C_alloc ?_ _) | (with_reducible refine Kd.C_drewN ?_ _) | (with_reducible refine Kd.C_drew ?_))); (case side2 => exact HC0_0.out); (case side3 => repeat (first | exact (Kd.C_below HR0_1.out HB.out) | (with_reducible refine Kd.C_alloc ?_ _) | (with_reducible refine Kd.C_drewN ?_ _) | (with_reducible refine Kd.C_drew ?_))); (case side4 => exact HC0_1.out); (case side5 => repeat (first | exact (Kd.C_below HR0_2.out HB.out) | (with_reducible refine Kd.C_alloc ?_ _) | (with_reducible refine Kd.C_drewN ?_ _) | (with_reducible refine Kd.C_drew ?_))); (case side6 => exact HC0_2.out); rintro e w16 ⟨v299, v302, v305, rfl, ho0, ho1, ho2, hb⟩; refine ⟨_, rfl, ?_⟩; have n0_ := Aside0.mk (Kd.R_lower ho0 (below_size (hA HB.out))); have n1_ := Aside0.mk (Kd.R_lower ho1 (below_size (hA HB.out))); have n2_ := Aside0.mk (Kd.R_lower ho2 (below_size (hA HB.out))); have n3_ := Aside0.mk (blk_below (g := gb296) (o := .cells #[.slice A0_0 l0_0.length c0_0, .slice A0_1 l0_1.length c0_1, .slice A0_2 l0_2.length c0_2] 25 (0, 0)) (bA BK296.out) hb); have n4_ := Aside0.mk (below_step (hA HB.out) hb); clear BK296; clear HB; have HO300 := n0_; have HO303 := n1_; have HO306 := n2_; have BK296 := n3_; have HB := n4_; clear n0_ n1_ n2_ n3_ n4_; (try clear hb); (try clear hb2); (try clear hk); (try clear hi); (try clear ho0); (try clear ho1); (try clear ho2); obtain ⟨Ao17, co17, eo17⟩ := Kd.R_slice HO300.out; subst eo17; obtain ⟨Ao18, co18, eo18⟩ := Kd.R_slice HO303.out; subst eo18; obtain ⟨Ao19, co19, eo19⟩ := Kd.R_slice HO306.out; subst eo19) | ((with_reducible refine gate_callee (f := 10) rfl ?_); refine goesL_ (some 22) rfl rfl Try.func10 (by kernel_rfl) rfl #[.agg #[.slice Ao17 t298.length co17, .slice Ao18 t301.length co18, .slice Ao19 t304.length co19]] rfl ar ?_; (with_reducible refine (spec_MendBook.calls k _ _ t298 _ _ t301 _ _ t304 t307 t310 t313 t316 _ ?side1 ?side2 ?side3 ?side4 ?side5 ?side6 A8.out).mono ?_); (case side1 => repeat (first | exact (Kd.R_reads' HO300.out).2.2 | (with_reducible refine Kd.C_alloc ?_ _) | (with_reducible refine Kd.C_drewN ?_ _) | (with_reducible refine Kd.C_drew ?_))); (case side2 => exact (Kd.R_reads' HO300.out).2.1); (case side3 => repeat (first | exact (Kd.R_reads' HO303.out).2.2 | (with_reducible refine Kd.C_alloc ?_ _) | (with_reducible refine Kd.C_drewN ?_ _) | (with_reducible refine Kd.C_drew ?_))); (case side4 => exact (Kd.R_reads' HO303.out).2.1); (case side5 => repeat (first | exact (Kd.R_reads' HO306.out).2.2 | (with_reducible refine Kd.C_alloc ?_ _) | (with_reducible refine Kd.C_drewN ?_ _) | (with_reducible refine Kd.C_drew ?_))); (case side6 => exact (Kd.R_reads' HO306.out).2.1); rintro e w20 ⟨v308, v311, v314, v317, rfl, ho0, ho1, ho2, ho3, hb⟩; refine ⟨_, rfl, ?_⟩; have n0_ := Aside0.mk (Kd.R_elder' (rA HO300.out) (Kd.R_base ho0) hb); have n1_ := Aside0.mk (Kd.R_mono (Kd.R_told (Kd.R_told (Kd.R_told (Kd.R_old (rA HO303.out) hb) (Kd.R_base ho1)) (Kd.R_base ho2)) (Kd.R_base ho3)) (fun _ h_ => h_.1)); have n2_ := Aside0.mk (Kd.R_mono (Kd.R_told (Kd.R_told (Kd.R_told (Kd.R_old (rA HO306.out) hb) (Kd.R_base ho1)) (Kd.R_base ho2)) (Kd.R_base ho3)) (fun _ h_ => h_.1)); have n3_ := Aside0.mk (Kd.R_lower (Kd.R_new' ho0 (Kd.R_lt (rA HO300.out))) (below_size (hA HB.out))); have n4_ := Aside0.mk (Kd.R_lower (Kd.R_new' (Kd.R_new' ho1 (Kd.R_lt (rA HO303.out))) (Kd.R_lt (rA HO306.out))) (below_size (hA HB.out))); have n5_ := Aside0.mk (Kd.R_lower (Kd.R_new' (Kd.R_new' ho2 (Kd.R_lt (rA HO303.out))) (Kd.R_lt (rA HO306.out))) (below_size (hA HB.out))); have n6_ := Aside0.mk (Kd.R_lower (Kd.R_new' (Kd.R_new' ho3 (Kd.R_lt (rA HO303.out))) (Kd.R_lt (rA HO306.out))) (below_size (hA HB.out))); have n7_ := Aside0.mk (blk_below (g := gb296) (o := .cells #[.slice A0_0 l0_0.length c0_0, .slice A0_1 l0_1.length c0_1, .slice A0_2 l0_2.length c0_2] 25 (0, 0)) (bA BK296.out) hb); have n8_ := Aside0.mk (below_step (hA HB.out) hb); clear HO300; clear HO303; clear HO306; clear BK296; clear HB; have HO300 := n0_; have HO303 := n1_; have HO306 := n2_; have HO309 := n3_; have HO312 := n4_; have HO315 := n5_; have HO318 := n6_; have BK296 := n7_; have HB := n8_; clear n0_ n1_ n2_ n3_ n4_ n5_ n6_ n7_ n8_; (try clear hb); (try clear hb2); (try clear hk); (try clear hi); (try clear ho0); (try clear ho1); (try clear ho2); (try clear ho3)) | ((with_reducible refine gate_dst (N := 4) rfl ?_); refine box_event ?hg (N := 4) ?hd (cs := #[.slice none 0 0, .slice none 0 0, .slice none 0 0]) (t := 29) ?hr ?_; (case hd => rfl); (case hg => rfl); (case hr => first | (go_simp; done) | (go_simp; rfl)); intro gb319 hg w21 hbox hb; have n0_ := Aside0.mk (Kd.R_below (rA HO300.out) hb); have n1_ := Aside0.mk (Kd.R_below (rA HO303.out) hb); have n2_ := Aside0.mk (Kd.R_below (rA HO306.out) hb); have n3_ := Aside0.mk (Kd.R_below (rA HO309.out) hb); have n4_ := Aside0.mk (Kd.R_below (rA HO312.out) hb); have n5_ := Aside0.mk (Kd.R_below (rA HO315.out) hb); have n6_ := Aside0.mk (Kd.R_below (rA HO318.out) hb); have n7_ := Aside0.mk (blk_below (g := gb296) (o := .cells #[.slice A0_0 l0_0.length c0_0, .slice A0_1 l0_1.length c0_1, .slice A0_2 l0_2.length c0_2] 25 (0, 0)) (bA BK296.out) hb); have n8_ := Aside0.mk (below_step (hA HB.out) hb); have n9_ := Aside0.mk (hbox); have n10_ := Aside0.mk ((by rw [hg]; exact (below_size (hA HB.out)) : w.heap.size ≤ gb319)); have n11_ := Aside0.mk ((by rw [hg]; exact (below_size (hA HB.out)) : w.heap.size ≤ gb319)); have n12_ := Aside0.mk ((by rw [hg]; exact Nat.ne_of_lt (blk_lt (g := gb296) (o := .cells #[.slice A0_0 l0_0.length c0_0, .slice A0_1 l0_1.length c0_1, .slice A0_2 l0_2.length c0_2] 25 (0, 0)) (bA BK296.out)) : gb296 ≠ gb319)); have n13_ := Aside0.mk ((by rw [hg]; exact Nat.ne_of_gt (blk_lt (g := gb296) (o := .cells #[.slice A0_0 l0_0.length c0_0, .slice A0_1 l0_1.length c0_1, .slice A0_2 l0_2.length c0_2] 25 (0, 0)) (bA BK296.out)) : gb319 ≠ gb296)); clear HO300; clear HO303; clear HO306; clear HO309; clear HO312; clear HO315; clear HO318; clear BK296; clear HB; have HO300 := n0_; have HO303 := n1_; have HO306 := n2_; have HO309 := n3_; have HO312 := n4_; have HO315 := n5_; have HO318 := n6_; have BK296 := n7_; have HB := n8_; have BK319 := n9_; have GW319 := n10_; have GE319 := n11_; have NB296_319 := n12_; have NB319_296 := n13_; clear n0_ n1_ n2_ n3_ n4_ n5_ n6_ n7_ n8_ n9_ n10_ n11_ n12_ n13_; clear hb hbox hg; obtain ⟨Ao22, co22, eo22⟩ := Kd.R_slice HO309.out; subst eo22; have hnb23 := NB319_296.out; have hnc23 := NB296_319.out; have hcz24_0 : w21.cell? ⟨gb319, 0, none⟩ = some (.slice none 0 0) := (blk_cell BK319.out 0).trans rfl; have hcz24_1 : w21.cell? ⟨gb319, 1, none⟩ = some (.slice none 0 0) := (blk_cell BK319.out 1).trans rfl; have hcz24_2 : w21.cell? ⟨gb319, 2, none⟩ = some (.slice none 0 0) := (blk_cell BK319.out 2).trans rfl; have hfz24_0 := blk_frozen BK319.out 0; have hfz24_1 := blk_frozen BK319.out 1; have hfz24_2 := blk_frozen BK319.out 2; obtain ⟨Ao25, co25, eo25⟩ := Kd.R_slice HO312.out; subst eo25; obtain ⟨Ao26, co26, eo26⟩ := Kd.R_slice HO315.out; subst eo26; have hcz27_0 : w21.cell? ⟨gb296, 0, none⟩ = some (.slice A0_0 l0_0.length c0_0) := (blk_cell BK296.out 0).trans rfl; have hcz27_1 : w21.cell? ⟨gb296, 1, none⟩ = some (.slice A0_1 l0_1.length c0_1) := (blk_cell BK296.out 1).trans rfl; have hcz27_2 : w21.cell? ⟨gb296, 2, none⟩ = some (.slice A0_2 l0_2.length c0_2) := (blk_cell BK296.out 2).trans rfl; have hfz27_0 := blk_frozen BK296.out 0; have hfz27_1 := blk_frozen BK296.out 1; have hfz27_2 := blk_frozen BK296.out 2) | ((with_reducible refine gate_callee (f := 11) rfl ?_); refine goesL_ (some 26) rfl rfl Try.func11 (by kernel_rfl) rfl #[.agg #[.slice A0_0 l0_0.length c0_0, .slice A0_1 l0_1.length c0_1, .slice A0_2 l0_2.length c0_2]] rfl ar ?_; (with_reducible refine (laws_toBook.calls k _ _ l0_0 _ _ l0_1 _ _ l0_2 t320 t323 t326 _ ?side1 ?side2 ?side3 ?side4 ?side5 ?side6 A9.out).mono ?_); (case side1 => exact Kd.C_below HR0_0.out (hA HB.out)); (case side2 => exact HC0_0.out); (case side3 => exact Kd.C_below HR0_1.out (hA HB.out)); (case side4 => exact HC0_1.out); (case side5 => exact Kd.C_below HR0_2.out (hA HB.out)); (case side6 => exact HC0_2.out); rintro e w28 ⟨v321, v324, v327, rfl, ho0, ho1, ho2, hb⟩; refine ⟨_, rfl, ?_⟩; have n0_ := Aside0.mk (Kd.R_elder' (rC (a := by exact (Kd.R_mono (Kd.R_far (p := ⟨gb319, 2, none⟩) (Kd.R_far (p := ⟨gb319, 1, none⟩) (Kd.R_far (p := ⟨gb319, 0, none⟩) (Kd.R_types HO300.out BK319.out (by decide)) (fun _ hk => hk.2) (.slice Ao22 t307.length co22)) (fun _ hk => hk.2) (.slice Ao25 t310.length co25)) (fun _ hk => hk.2) (.slice Ao26 t313.length co26)) (fun _ h_ => h_.1)))) (Kd.R_base ho0) hb); have n1_ := Aside0.mk (Kd.R_mono (Kd.R_told (Kd.R_told (Kd.R_old (rC (a := by exact (Kd.R_mono (Kd.R_far (p := ⟨gb319, 2, none⟩) (Kd.R_far (p := ⟨gb319, 1, none⟩) (Kd.R_far (p := ⟨gb319, 0, none⟩) (Kd.R_types HO303.out BK319.out (by decide)) (fun _ hk => hk.2) (.slice Ao22 t307.length co22)) (fun _ hk => hk.2) (.slice Ao25 t310.length co25)) (fun _ hk => hk.2) (.slice Ao26 t313.length co26)) (fun _ h_ => h_.1)))) hb) (Kd.R_base ho1)) (Kd.R_base ho2)) (fun _ h_ => h_.1)); have n2_ := Aside0.mk (Kd.R_mono (Kd.R_told (Kd.R_told (Kd.R_old (rC (a := by exact (Kd.R_mono (Kd.R_far (p := ⟨gb319, 2, none⟩) (Kd.R_far (p := ⟨gb319, 1, none⟩) (Kd.R_far (p := ⟨gb319, 0, none⟩) (Kd.R_types HO306.out BK319.out (by decide)) (fun _ hk => hk.2) (.slice Ao22 t307.length co22)) (fun _ hk => hk.2) (.slice Ao25 t310.length co25)) (fun _ hk => hk.2) (.slice Ao26 t313.length co26)) (fun _ h_ => h_.1)))) hb) (Kd.R_base ho1)) (Kd.R_base ho2)) (fun _ h_ => h_.1)); have n3_ := Aside0.mk (Kd.R_elder' (rC (a := by exact (Kd.R_mono (Kd.R_far (p := ⟨gb319, 2, none⟩) (Kd.R_far (p := ⟨gb319, 1, none⟩) (Kd.R_far (p := ⟨gb319, 0, none⟩) (Kd.R_types HO309.out BK319.out (by decide)) (fun _ hk => hk.2) (.slice Ao22 t307.length co22)) (fun _ hk => hk.2) (.slice Ao25 t310.length co25)) (fun _ hk => hk.2) (.slice Ao26 t313.length co26)) (fun _ h_ => h_.1)))) (Kd.R_base ho0) hb); have n4_ := Aside0.mk (Kd.R_mono (Kd.R_told (Kd.R_told (Kd.R_old (rC (a := by exact (Kd.R_mono (Kd.R_far (p := ⟨gb319, 2, none⟩) (Kd.R_far (p := ⟨gb319, 1, none⟩) (Kd.R_far (p := ⟨gb319, 0, none⟩) (Kd.R_types HO312.out BK319.out (by decide)) (fun _ hk => hk.2) (.slice Ao22 t307.length co22)) (fun _ hk => hk.2) (.slice Ao25 t310.length co25)) (fun _ hk => hk.2) (.slice Ao26 t313.length co26)) (fun _ h_ => h_.1)))) hb) (Kd.R_base ho1)) (Kd.R_base ho2)) (fun _ h_ => h_.1)); have n5_ := Aside0.mk (Kd.R_mono (Kd.R_told (Kd.R_told (Kd.R_old (rC (a := by exact (Kd.R_mono (Kd.R_far (p := ⟨gb319, 2, none⟩) (Kd.R_far (p := ⟨gb319, 1, none⟩) (Kd.R_far (p := ⟨gb319, 0, none⟩) (Kd.R_types HO315.out BK319.out (by decide)) (fun _ hk => hk.2) (.slice Ao22 t307.length co22)) (fun _ hk => hk.2) (.slice Ao25 t310.length co25)) (fun _ hk => hk.2) (.slice Ao26 t313.length co26)) (fun _ h_ => h_.1)))) hb) (Kd.R_base ho1)) (Kd.R_base ho2)) (fun _ h_ => h_.1)); have n6_ := Aside0.mk (Kd.R_mono (Kd.R_told (Kd.R_told (Kd.R_old (rC (a := by exact (Kd.R_mono (Kd.R_far (p := ⟨gb319, 2, none⟩) (Kd.R_far (p := ⟨gb319, 1, none⟩) (Kd.R_far (p := ⟨gb319, 0, none⟩) (Kd.R_types HO318.out BK319.out (by decide)) (fun _ hk => hk.2) (.slice Ao22 t307.length co22)) (fun _ hk => hk.2) (.slice Ao25 t310.length co25)) (fun _ hk => hk.2) (.slice Ao26 t313.length co26)) (fun _ h_ => h_.1)))) hb) (Kd.R_base ho1)) (Kd.R_base ho2)) (fun _ h_ => h_.1)); have n7_ := Aside0.mk (Kd.R_lower (Kd.R_new' (Kd.R_new' ho0 (Kd.R_lt (rC (a := by exact (Kd.R_mono (Kd.R_far (p := ⟨gb319, 2, none⟩) (Kd.R_far (p := ⟨gb319, 1, none⟩) (Kd.R_far (p := ⟨gb319, 0, none⟩) (Kd.R_types HO300.out BK319.out (by decide)) (fun _ hk => hk.2) (.slice Ao22 t307.length co22)) (fun _ hk => hk.2) (.slice Ao25 t310.length co25)) (fun _ hk => hk.2) (.slice Ao26 t313.length co26)) (fun _ h_ => h_.1)))))) (Kd.R_lt (rC (a := by exact (Kd.R_mono (Kd.R_far (p := ⟨gb319, 2, none⟩) (Kd.R_far (p := ⟨gb319, 1, none⟩) (Kd.R_far (p := ⟨gb319, 0, none⟩) (Kd.R_types HO309.out BK319.out (by decide)) (fun _ hk => hk.2) (.slice Ao22 t307.length co22)) (fun _ hk => hk.2) (.slice Ao25 t310.length co25)) (fun _ hk => hk.2) (.slice Ao26 t313.length co26)) (fun _ h_ => h_.1)))))) (below_size (hA HB.out))); have n8_ := Aside0.mk (Kd.R_lower (Kd.R_new' (Kd.R_new' (Kd.R_new' (Kd.R_new' (Kd.R_new' ho1 (Kd.R_lt (rC (a := by exact (Kd.R_mono (Kd.R_far (p := ⟨gb319, 2, none⟩) (Kd.R_far (p := ⟨gb319, 1, none⟩) (Kd.R_far (p := ⟨gb319, 0, none⟩) (Kd.R_types HO303.out BK319.out (by decide)) (fun _ hk => hk.2) (.slice Ao22 t307.length co22)) (fun _ hk => hk.2) (.slice Ao25 t310.length co25)) (fun _ hk => hk.2) (.slice Ao26 t313.length co26)) (fun _ h_ => h_.1)))))) (Kd.R_lt (rC (a := by exact (Kd.R_mono (Kd.R_far (p := ⟨gb319, 2, none⟩) (Kd.R_far (p := ⟨gb319, 1, none⟩) (Kd.R_far (p := ⟨gb319, 0, none⟩) (Kd.R_types HO306.out BK319.out (by decide)) (fun _ hk => hk.2) (.slice Ao22 t307.length co22)) (fun _ hk => hk.2) (.slice Ao25 t310.length co25)) (fun _ hk => hk.2) (.slice Ao26 t313.length co26)) (fun _ h_ => h_.1)))))) (Kd.R_lt (rC (a := by exact (Kd.R_mono (Kd.R_far (p := ⟨gb319, 2, none⟩) (Kd.R_far (p := ⟨gb319, 1, none⟩) (Kd.R_far (p := ⟨gb319, 0, none⟩) (Kd.R_types HO312.out BK319.out (by decide)) (fun _ hk => hk.2) (.slice Ao22 t307.length co22)) (fun _ hk => hk.2) (.slice Ao25 t310.length co25)) (fun _ hk => hk.2) (.slice Ao26 t313.length co26)) (fun _ h_ => h_.1)))))) (Kd.R_lt (rC (a := by exact (Kd.R_mono (Kd.R_far (p := ⟨gb319, 2, none⟩) (Kd.R_far (p := ⟨gb319, 1, none⟩) (Kd.R_far (p := ⟨gb319, 0, none⟩) (Kd.R_types HO315.out BK319.out (by decide)) (fun _ hk => hk.2) (.slice Ao22 t307.length co22)) (fun _ hk => hk.2) (.slice Ao25 t310.length co25)) (fun _ hk => hk.2) (.slice Ao26 t313.length co26)) (fun _ h_ => h_.1)))))) (Kd.R_lt (rC (a := by exact (Kd.R_mono (Kd.R_far (p := ⟨gb319, 2, none⟩) (Kd.R_far (p := ⟨gb319, 1, none⟩) (Kd.R_far (p := ⟨gb319, 0, none⟩) (Kd.R_types HO318.out BK319.out (by decide)) (fun _ hk => hk.2) (.slice Ao22 t307.length co22)) (fun _ hk => hk.2) (.slice Ao25 t310.length co25)) (fun _ hk => hk.2) (.slice Ao26 t313.length co26)) (fun _ h_ => h_.1)))))) (below_size (hA HB.out))); have n9_ := Aside0.mk (Kd.R_lower (Kd.R_new' (Kd.R_new' (Kd.R_new' (Kd.R_new' (Kd.R_new' ho2 (Kd.R_lt (rC (a := by exact (Kd.R_mono (Kd.R_far (p := ⟨gb319, 2, none⟩) (Kd.R_far (p := ⟨gb319, 1, none⟩) (Kd.R_far (p := ⟨gb319, 0, none⟩) (Kd.R_types HO303.out BK319.out (by decide)) (fun _ hk => hk.2) (.slice Ao22 t307.length co22)) (fun _ hk => hk.2) (.slice Ao25 t310.length co25)) (fun _ hk => hk.2) (.slice Ao26 t313.length co26)) (fun _ h_ => h_.1)))))) (Kd.R_lt (rC (a := by exact (Kd.R_mono (Kd.R_far (p := ⟨gb319, 2, none⟩) (Kd.R_far (p := ⟨gb319, 1, none⟩) (Kd.R_far (p := ⟨gb319, 0, none⟩) (Kd.R_types HO306.out BK319.out (by decide)) (fun _ hk => hk.2) (.slice Ao22 t307.length co22)) (fun _ hk => hk.2) (.slice Ao25 t310.length co25)) (fun _ hk => hk.2) (.slice Ao26 t313.length co26)) (fun _ h_ => h_.1)))))) (Kd.R_lt (rC (a := by exact (Kd.R_mono (Kd.R_far (p := ⟨gb319, 2, none⟩) (Kd.R_far (p := ⟨gb319, 1, none⟩) (Kd.R_far (p := ⟨gb319, 0, none⟩) (Kd.R_types HO312.out BK319.out (by decide)) (fun _ hk => hk.2) (.slice Ao22 t307.length co22)) (fun _ hk => hk.2) (.slice Ao25 t310.length co25)) (fun _ hk => hk.2) (.slice Ao26 t313.length co26)) (fun _ h_ => h_.1)))))) (Kd.R_lt (rC (a := by exact (Kd.R_mono (Kd.R_far (p := ⟨gb319, 2, none⟩) (Kd.R_far (p := ⟨gb319, 1, none⟩) (Kd.R_far (p := ⟨gb319, 0, none⟩) (Kd.R_types HO315.out BK319.out (by decide)) (fun _ hk => hk.2) (.slice Ao22 t307.length co22)) (fun _ hk => hk.2) (.slice Ao25 t310.length co25)) (fun _ hk => hk.2) (.slice Ao26 t313.length co26)) (fun _ h_ => h_.1)))))) (Kd.R_lt (rC (a := by exact (Kd.R_mono (Kd.R_far (p := ⟨gb319, 2, none⟩) (Kd.R_far (p := ⟨gb319, 1, none⟩) (Kd.R_far (p := ⟨gb319, 0, none⟩) (Kd.R_types HO318.out BK319.out (by decide)) (fun _ hk => hk.2) (.slice Ao22 t307.length co22)) (fun _ hk => hk.2) (.slice Ao25 t310.length co25)) (fun _ hk => hk.2) (.slice Ao26 t313.length co26)) (fun _ h_ => h_.1)))))) (below_size (hA HB.out))); have n10_ := Aside0.mk (blk_below (g := gb296) (o := .cells #[.slice A0_0 l0_0.length c0_0, .slice A0_1 l0_1.length c0_1, .slice A0_2 l0_2.length c0_2] 25 (0, 0)) (by refine bC (a := ?_); refine blk_far ?_ NB296_319.out _; refine bC (a := ?_); refine blk_far ?_ NB296_319.out _; refine bC (a := ?_); refine blk_far ?_ NB296_319.out _; refine bC (a := ?_); exact BK296.out) hb); have n11_ := Aside0.mk (blk_below (g := gb319) (o := .cells #[.slice Ao22 t307.length co22, .slice Ao25 t310.length co25, .slice Ao26 t313.length co26] 29 (0, 0)) (by refine bC (a := ?_); refine blk_put (cs := #[.slice Ao22 t307.length co22, .slice Ao25 t310.length co25, .slice none 0 0]) ?_ 2 _ rfl; refine bC (a := ?_); refine blk_put (cs := #[.slice Ao22 t307.length co22, .slice none 0 0, .slice none 0 0]) ?_ 1 _ rfl; refine bC (a := ?_); refine blk_put (cs := #[.slice none 0 0, .slice none 0 0, .slice none 0 0]) ?_ 0 _ rfl; refine bC (a := ?_); exact BK319.out) hb); have n12_ := Aside0.mk (below_step (hA HB.out) hb); clear HO300; clear HO303; clear HO306; clear HO309; clear HO312; clear HO315; clear HO318; clear BK296; clear BK319; clear HB; have HO300 := n0_; have HO303 := n1_; have HO306 := n2_; have HO309 := n3_; have HO312 := n4_; have HO315 := n5_; have HO318 := n6_; have HO322 := n7_; have HO325 := n8_; have HO328 := n9_; have BK296 := n10_; have BK319 := n11_; have HB := n12_; clear n0_ n1_ n2_ n3_ n4_ n5_ n6_ n7_ n8_ n9_ n10_ n11_ n12_; (try clear hb); (try clear hb2); (try clear hk); (try clear hi); (try clear ho0); (try clear ho1); (try clear ho2)) | ((with_reducible refine gate_dst (N := 6) rfl ?_); refine box_event ?hg (N := 6) ?hd (cs := #[.slice none 0 0, .slice none 0 0, .slice none 0 0]) (t := 29) ?hr ?_; (case hd => rfl); (case hg => rfl); (case hr => first | (go_simp; done) | (go_simp; rfl)); intro gb329 hg w29 hbox hb; have n0_ := Aside0.mk (Kd.R_below (rA HO300.out) hb); have n1_ := Aside0.mk (Kd.R_below (rA HO303.out) hb); have n2_ := Aside0.mk (Kd.R_below (rA HO306.out) hb); have n3_ := Aside0.mk (Kd.R_below (rA HO309.out) hb); have n4_ := Aside0.mk (Kd.R_below (rA HO312.out) hb); have n5_ := Aside0.mk (Kd.R_below (rA HO315.out) hb); have n6_ := Aside0.mk (Kd.R_below (rA HO318.out) hb); have n7_ := Aside0.mk (Kd.R_below (rA HO322.out) hb); have n8_ := Aside0.mk (Kd.R_below (rA HO325.out) hb); have n9_ := Aside0.mk (Kd.R_below (rA HO328.out) hb); have n10_ := Aside0.mk (blk_below (g := gb296) (o := .cells #[.slice A0_0 l0_0.length c0_0, .slice A0_1 l0_1.length c0_1, .slice A0_2 l0_2.length c0_2] 25 (0, 0)) (bA BK296.out) hb); have n11_ := Aside0.mk (blk_below (g := gb319) (o := .cells #[.slice Ao22 t307.length co22, .slice Ao25 t310.length co25, .slice Ao26 t313.length co26] 29 (0, 0)) (bA BK319.out) hb); have n12_ := Aside0.mk (below_step (hA HB.out) hb); have n13_ := Aside0.mk (hbox); have n14_ := Aside0.mk ((by rw [hg]; exact (below_size (hA HB.out)) : w.heap.size ≤ gb329)); have n15_ := Aside0.mk ((by rw [hg]; exact (below_size (hA HB.out)) : w.heap.size ≤ gb329)); have n16_ := Aside0.mk ((by rw [hg]; exact Nat.ne_of_lt (blk_lt (g := gb296) (o := .cells #[.slice A0_0 l0_0.length c0_0, .slice A0_1 l0_1.length c0_1, .slice A0_2 l0_2.length c0_2] 25 (0, 0)) (bA BK296.out)) : gb296 ≠ gb329)); have n17_ := Aside0.mk ((by rw [hg]; exact Nat.ne_of_gt (blk_lt (g := gb296) (o := .cells #[.slice A0_0 l0_0.length c0_0, .slice A0_1 l0_1.length c0_1, .slice A0_2 l0_2.length c0_2] 25 (0, 0)) (bA BK296.out)) : gb329 ≠ gb296)); have n18_ := Aside0.mk ((by rw [hg]; exact Nat.ne_of_lt (blk_lt (g := gb319) (o := .cells #[.slice Ao22 t307.length co22, .slice Ao25 t310.length co25, .slice Ao26 t313.length co26] 29 (0, 0)) (bA BK319.out)) : gb319 ≠ gb329)); have n19_ := Aside0.mk ((by rw [hg]; exact Nat.ne_of_gt (blk_lt (g := gb319) (o := .cells #[.slice Ao22 t307.length co22, .slice Ao25 t310.length co25, .slice Ao26 t313.length co26] 29 (0, 0)) (bA BK319.out)) : gb329 ≠ gb319)); clear HO300; clear HO303; clear HO306; clear HO309; clear HO312; clear HO315; clear HO318; clear HO322; clear HO325; clear HO328; clear BK296; clear BK319; clear HB; have HO300 := n0_; have HO303 := n1_; have HO306 := n2_; have HO309 := n3_; have HO312 := n4_; have HO315 := n5_; have HO318 := n6_; have HO322 := n7_; have HO325 := n8_; have HO328 := n9_; have BK296 := n10_; have BK319 := n11_; have HB := n12_; have BK329 := n13_; have GW329 := n14_; have GE329 := n15_; have NB296_329 := n16_; have NB329_296 := n17_; have NB319_329 := n18_; have NB329_319 := n19_; clear n0_ n1_ n2_ n3_ n4_ n5_ n6_ n7_ n8_ n9_ n10_ n11_ n12_ n13_ n14_ n15_ n16_ n17_ n18_ n19_; clear hb hbox hg; obtain ⟨Ao30, co30, eo30⟩ := Kd.R_slice HO322.out; subst eo30; have hnb31 := NB329_296.out; have hnc31 := NB296_329.out; have hnb32 := NB329_319.out; have hnc32 := NB319_329.out; have hcz33_0 : w29.cell? ⟨gb329, 0, none⟩ = some (.slice none 0 0) := (blk_cell BK329.out 0).trans rfl; have hcz33_1 : w29.cell? ⟨gb329, 1, none⟩ = some (.slice none 0 0) := (blk_cell BK329.out 1).trans rfl; have hcz33_2 : w29.cell? ⟨gb329, 2, none⟩ = some (.slice none 0 0) := (blk_cell BK329.out 2).trans rfl; have hfz33_0 := blk_frozen BK329.out 0; have hfz33_1 := blk_frozen BK329.out 1; have hfz33_2 := blk_frozen BK329.out 2; obtain ⟨Ao34, co34, eo34⟩ := Kd.R_slice HO325.out; subst eo34; obtain ⟨Ao35, co35, eo35⟩ := Kd.R_slice HO328.out; subst eo35) | ((with_reducible refine gate_callee (f := 12) rfl ?_); refine goesL_ (some 29) rfl rfl Try.func12 (by kernel_rfl) rfl #[.agg #[.slice Ao30 t320.length co30, .slice Ao34 t323.length co34, .slice Ao35 t326.length co35]] rfl ar ?_; (with_reducible refine (impl_MendBook.calls k _ _ t320 _ _ t323 _ _ t326 t330 t333 t336 t339 _ ?side1 ?side2 ?side3 ?side4 ?side5 ?side6 A10.out).mono ?_); (case side1 => refine (Kd.R_reads' (e := 50) (base := w.heap.size) (ok := fun k_ => ((True ∧ some k_ ≠ (.slice Ao17 t298.length co17 : Value).ownBlock) ∧ some k_ ≠ (.slice Ao22 t307.length co22 : Value).ownBlock)) (n := t320.length) (c := co30) ?_).2.2; exact (rC (a := by exact (Kd.R_mono (Kd.R_far (p := ⟨gb329, 2, none⟩) (Kd.R_far (p := ⟨gb329, 1, none⟩) (Kd.R_far (p := ⟨gb329, 0, none⟩) (Kd.R_types HO322.out BK329.out (by decide)) (fun _ hk => hk.2) (.slice Ao30 t320.length co30)) (fun _ hk => hk.2) (.slice Ao34 t323.length co34)) (fun _ hk => hk.2) (.slice Ao35 t326.length co35)) (fun _ h_ => h_.1))))); (case side2 => exact (Kd.R_reads' HO322.out).2.1); (case side3 => refine (Kd.R_reads' (e := 3) (base := w.heap.size) (ok := fun k_ => (((((some k_ ≠ (.slice Ao35 t326.length co35 : Value).ownBlock ∧ some k_ ≠ (.slice Ao18 t301.length co18 : Value).ownBlock) ∧ some k_ ≠ (.slice Ao19 t304.length co19 : Value).ownBlock) ∧ some k_ ≠ (.slice Ao25 t310.length co25 : Value).ownBlock) ∧ some k_ ≠ (.slice Ao26 t313.length co26 : Value).ownBlock) ∧ some k_ ≠ (v317 : Value).ownBlock)) (n := t323.length) (c := co34) ?_).2.2; exact (rC (a := by exact (Kd.R_mono (Kd.R_far (p := ⟨gb329, 2, none⟩) (Kd.R_far (p := ⟨gb329, 1, none⟩) (Kd.R_far (p := ⟨gb329, 0, none⟩) (Kd.R_types HO325.out BK329.out (by decide)) (fun _ hk => hk.2) (.slice Ao30 t320.length co30)) (fun _ hk => hk.2) (.slice Ao34 t323.length co34)) (fun _ hk => hk.2) (.slice Ao35 t326.length co35)) (fun _ h_ => h_.1))))); (case side4 => exact (Kd.R_reads' HO325.out).2.1); (case side5 => refine (Kd.R_reads' (e := 3) (base := w.heap.size) (ok := fun k_ => (((((some k_ ≠ (.slice Ao34 t323.length co34 : Value).ownBlock ∧ some k_ ≠ (.slice Ao18 t301.length co18 : Value).ownBlock) ∧ some k_ ≠ (.slice Ao19 t304.length co19 : Value).ownBlock) ∧ some k_ ≠ (.slice Ao25 t310.length co25 : Value).ownBlock) ∧ some k_ ≠ (.slice Ao26 t313.length co26 : Value).ownBlock) ∧ some k_ ≠ (v317 : Value).ownBlock)) (n := t326.length) (c := co35) ?_).2.2; exact (rC (a := by exact (Kd.R_mono (Kd.R_far (p := ⟨gb329, 2, none⟩) (Kd.R_far (p := ⟨gb329, 1, none⟩) (Kd.R_far (p := ⟨gb329, 0, none⟩) (Kd.R_types HO328.out BK329.out (by decide)) (fun _ hk => hk.2) (.slice Ao30 t320.length co30)) (fun _ hk => hk.2) (.slice Ao34 t323.length co34)) (fun _ hk => hk.2) (.slice Ao35 t326.length co35)) (fun _ h_ => h_.1))))); (case side6 => exact (Kd.R_reads' HO328.out).2.1); rintro e w36 ⟨v331, v334, v337, v340, rfl, ho0, ho1, ho2, ho3, hb⟩; refine ⟨_, rfl, ?_⟩; have n0_ := Aside0.mk (Kd.R_elder' (rC (a := by exact (Kd.R_mono (Kd.R_far (p := ⟨gb329, 2, none⟩) (Kd.R_far (p := ⟨gb329, 1, none⟩) (Kd.R_far (p := ⟨gb329, 0, none⟩) (Kd.R_types HO300.out BK329.out (by decide)) (fun _ hk => hk.2) (.slice Ao30 t320.length co30)) (fun _ hk => hk.2) (.slice Ao34 t323.length co34)) (fun _ hk => hk.2) (.slice Ao35 t326.length co35)) (fun _ h_ => h_.1)))) (Kd.R_base ho0) hb); have n1_ := Aside0.mk (Kd.R_mono (Kd.R_told (Kd.R_told (Kd.R_told (Kd.R_old (rC (a := by exact (Kd.R_mono (Kd.R_far (p := ⟨gb329, 2, none⟩) (Kd.R_far (p := ⟨gb329, 1, none⟩) (Kd.R_far (p := ⟨gb329, 0, none⟩) (Kd.R_types HO303.out BK329.out (by decide)) (fun _ hk => hk.2) (.slice Ao30 t320.length co30)) (fun _ hk => hk.2) (.slice Ao34 t323.length co34)) (fun _ hk => hk.2) (.slice Ao35 t326.length co35)) (fun _ h_ => h_.1)))) hb) (Kd.R_base ho1)) (Kd.R_base ho2)) (Kd.R_base ho3)) (fun _ h_ => h_.1)); have n2_ := Aside0.mk (Kd.R_mono (Kd.R_told (Kd.R_told (Kd.R_told (Kd.R_old (rC (a := by exact (Kd.R_mono (Kd.R_far (p := ⟨gb329, 2, none⟩) (Kd.R_far (p := ⟨gb329, 1, none⟩) (Kd.R_far (p := ⟨gb329, 0, none⟩) (Kd.R_types HO306.out BK329.out (by decide)) (fun _ hk => hk.2) (.slice Ao30 t320.length co30)) (fun _ hk => hk.2) (.slice Ao34 t323.length co34)) (fun _ hk => hk.2) (.slice Ao35 t326.length co35)) (fun _ h_ => h_.1)))) hb) (Kd.R_base ho1)) (Kd.R_base ho2)) (Kd.R_base ho3)) (fun _ h_ => h_.1)); have n3_ := Aside0.mk (Kd.R_elder' (rC (a := by exact (Kd.R_mono (Kd.R_far (p := ⟨gb329, 2, none⟩) (Kd.R_far (p := ⟨gb329, 1, none⟩) (Kd.R_far (p := ⟨gb329, 0, none⟩) (Kd.R_types HO309.out BK329.out (by decide)) (fun _ hk => hk.2) (.slice Ao30 t320.length co30)) (fun _ hk => hk.2) (.slice Ao34 t323.length co34)) (fun _ hk => hk.2) (.slice Ao35 t326.length co35)) (fun _ h_ => h_.1)))) (Kd.R_base ho0) hb); have n4_ := Aside0.mk (Kd.R_mono (Kd.R_told (Kd.R_told (Kd.R_told (Kd.R_old (rC (a := by exact (Kd.R_mono (Kd.R_far (p := ⟨gb329, 2, none⟩) (Kd.R_far (p := ⟨gb329, 1, none⟩) (Kd.R_far (p := ⟨gb329, 0, none⟩) (Kd.R_types HO312.out BK329.out (by decide)) (fun _ hk => hk.2) (.slice Ao30 t320.length co30)) (fun _ hk => hk.2) (.slice Ao34 t323.length co34)) (fun _ hk => hk.2) (.slice Ao35 t326.length co35)) (fun _ h_ => h_.1)))) hb) (Kd.R_base ho1)) (Kd.R_base ho2)) (Kd.R_base ho3)) (fun _ h_ => h_.1)); have n5_ := Aside0.mk (Kd.R_mono (Kd.R_told (Kd.R_told (Kd.R_told (Kd.R_old (rC (a := by exact (Kd.R_mono (Kd.R_far (p := ⟨gb329, 2, none⟩) (Kd.R_far (p := ⟨gb329, 1, none⟩) (Kd.R_far (p := ⟨gb329, 0, none⟩) (Kd.R_types HO315.out BK329.out (by decide)) (fun _ hk => hk.2) (.slice Ao30 t320.length co30)) (fun _ hk => hk.2) (.slice Ao34 t323.length co34)) (fun _ hk => hk.2) (.slice Ao35 t326.length co35)) (fun _ h_ => h_.1)))) hb) (Kd.R_base ho1)) (Kd.R_base ho2)) (Kd.R_base ho3)) (fun _ h_ => h_.1)); have n6_ := Aside0.mk (Kd.R_mono (Kd.R_told (Kd.R_told (Kd.R_told (Kd.R_old (rC (a := by exact (Kd.R_mono (Kd.R_far (p := ⟨gb329, 2, none⟩) (Kd.R_far (p := ⟨gb329, 1, none⟩) (Kd.R_far (p := ⟨gb329, 0, none⟩) (Kd.R_types HO318.out BK329.out (by decide)) (fun _ hk => hk.2) (.slice Ao30 t320.length co30)) (fun _ hk => hk.2) (.slice Ao34 t323.length co34)) (fun _ hk => hk.2) (.slice Ao35 t326.length co35)) (fun _ h_ => h_.1)))) hb) (Kd.R_base ho1)) (Kd.R_base ho2)) (Kd.R_base ho3)) (fun _ h_ => h_.1)); have n7_ := Aside0.mk (Kd.R_elder' (rC (a := by exact (Kd.R_mono (Kd.R_far (p := ⟨gb329, 2, none⟩) (Kd.R_far (p := ⟨gb329, 1, none⟩) (Kd.R_far (p := ⟨gb329, 0, none⟩) (Kd.R_types HO322.out BK329.out (by decide)) (fun _ hk => hk.2) (.slice Ao30 t320.length co30)) (fun _ hk => hk.2) (.slice Ao34 t323.length co34)) (fun _ hk => hk.2) (.slice Ao35 t326.length co35)) (fun _ h_ => h_.1)))) (Kd.R_base ho0) hb); have n8_ := Aside0.mk (Kd.R_mono (Kd.R_told (Kd.R_told (Kd.R_told (Kd.R_old (rC (a := by exact (Kd.R_mono (Kd.R_far (p := ⟨gb329, 2, none⟩) (Kd.R_far (p := ⟨gb329, 1, none⟩) (Kd.R_far (p := ⟨gb329, 0, none⟩) (Kd.R_types HO325.out BK329.out (by decide)) (fun _ hk => hk.2) (.slice Ao30 t320.length co30)) (fun _ hk => hk.2) (.slice Ao34 t323.length co34)) (fun _ hk => hk.2) (.slice Ao35 t326.length co35)) (fun _ h_ => h_.1)))) hb) (Kd.R_base ho1)) (Kd.R_base ho2)) (Kd.R_base ho3)) (fun _ h_ => h_.1)); have n9_ := Aside0.mk (Kd.R_mono (Kd.R_told (Kd.R_told (Kd.R_told (Kd.R_old (rC (a := by exact (Kd.R_mono (Kd.R_far (p := ⟨gb329, 2, none⟩) (Kd.R_far (p := ⟨gb329, 1, none⟩) (Kd.R_far (p := ⟨gb329, 0, none⟩) (Kd.R_types HO328.out BK329.out (by decide)) (fun _ hk => hk.2) (.slice Ao30 t320.length co30)) (fun _ hk => hk.2) (.slice Ao34 t323.length co34)) (fun _ hk => hk.2) (.slice Ao35 t326.length co35)) (fun _ h_ => h_.1)))) hb) (Kd.R_base ho1)) (Kd.R_base ho2)) (Kd.R_base ho3)) (fun _ h_ => h_.1)); have n10_ := Aside0.mk (Kd.R_lower (Kd.R_new' (Kd.R_new' (Kd.R_new' ho0 (Kd.R_lt (rC (a := by exact (Kd.R_mono (Kd.R_far (p := ⟨gb329, 2, none⟩) (Kd.R_far (p := ⟨gb329, 1, none⟩) (Kd.R_far (p := ⟨gb329, 0, none⟩) (Kd.R_types HO300.out BK329.out (by decide)) (fun _ hk => hk.2) (.slice Ao30 t320.length co30)) (fun _ hk => hk.2) (.slice Ao34 t323.length co34)) (fun _ hk => hk.2) (.slice Ao35 t326.length co35)) (fun _ h_ => h_.1)))))) (Kd.R_lt (rC (a := by exact (Kd.R_mono (Kd.R_far (p := ⟨gb329, 2, none⟩) (Kd.R_far (p := ⟨gb329, 1, none⟩) (Kd.R_far (p := ⟨gb329, 0, none⟩) (Kd.R_types HO309.out BK329.out (by decide)) (fun _ hk => hk.2) (.slice Ao30 t320.length co30)) (fun _ hk => hk.2) (.slice Ao34 t323.length co34)) (fun _ hk => hk.2) (.slice Ao35 t326.length co35)) (fun _ h_ => h_.1)))))) (Kd.R_lt (rC (a := by exact (Kd.R_mono (Kd.R_far (p := ⟨gb329, 2, none⟩) (Kd.R_far (p := ⟨gb329, 1, none⟩) (Kd.R_far (p := ⟨gb329, 0, none⟩) (Kd.R_types HO322.out BK329.out (by decide)) (fun _ hk => hk.2) (.slice Ao30 t320.length co30)) (fun _ hk => hk.2) (.slice Ao34 t323.length co34)) (fun _ hk => hk.2) (.slice Ao35 t326.length co35)) (fun _ h_ => h_.1)))))) (below_size (hA HB.out))); have n11_ := Aside0.mk (Kd.R_lower (Kd.R_new' (Kd.R_new' (Kd.R_new' (Kd.R_new' (Kd.R_new' (Kd.R_new' (Kd.R_new' ho1 (Kd.R_lt (rC (a := by exact (Kd.R_mono (Kd.R_far (p := ⟨gb329, 2, none⟩) (Kd.R_far (p := ⟨gb329, 1, none⟩) (Kd.R_far (p := ⟨gb329, 0, none⟩) (Kd.R_types HO303.out BK329.out (by decide)) (fun _ hk => hk.2) (.slice Ao30 t320.length co30)) (fun _ hk => hk.2) (.slice Ao34 t323.length co34)) (fun _ hk => hk.2) (.slice Ao35 t326.length co35)) (fun _ h_ => h_.1)))))) (Kd.R_lt (rC (a := by exact (Kd.R_mono (Kd.R_far (p := ⟨gb329, 2, none⟩) (Kd.R_far (p := ⟨gb329, 1, none⟩) (Kd.R_far (p := ⟨gb329, 0, none⟩) (Kd.R_types HO306.out BK329.out (by decide)) (fun _ hk => hk.2) (.slice Ao30 t320.length co30)) (fun _ hk => hk.2) (.slice Ao34 t323.length co34)) (fun _ hk => hk.2) (.slice Ao35 t326.length co35)) (fun _ h_ => h_.1)))))) (Kd.R_lt (rC (a := by exact (Kd.R_mono (Kd.R_far (p := ⟨gb329, 2, none⟩) (Kd.R_far (p := ⟨gb329, 1, none⟩) (Kd.R_far (p := ⟨gb329, 0, none⟩) (Kd.R_types HO312.out BK329.out (by decide)) (fun _ hk => hk.2) (.slice Ao30 t320.length co30)) (fun _ hk => hk.2) (.slice Ao34 t323.length co34)) (fun _ hk => hk.2) (.slice Ao35 t326.length co35)) (fun _ h_ => h_.1)))))) (Kd.R_lt (rC (a := by exact (Kd.R_mono (Kd.R_far (p := ⟨gb329, 2, none⟩) (Kd.R_far (p := ⟨gb329, 1, none⟩) (Kd.R_far (p := ⟨gb329, 0, none⟩) (Kd.R_types HO315.out BK329.out (by decide)) (fun _ hk => hk.2) (.slice Ao30 t320.length co30)) (fun _ hk => hk.2) (.slice Ao34 t323.length co34)) (fun _ hk => hk.2) (.slice Ao35 t326.length co35)) (fun _ h_ => h_.1)))))) (Kd.R_lt (rC (a := by exact (Kd.R_mono (Kd.R_far (p := ⟨gb329, 2, none⟩) (Kd.R_far (p := ⟨gb329, 1, none⟩) (Kd.R_far (p := ⟨gb329, 0, none⟩) (Kd.R_types HO318.out BK329.out (by decide)) (fun _ hk => hk.2) (.slice Ao30 t320.length co30)) (fun _ hk => hk.2) (.slice Ao34 t323.length co34)) (fun _ hk => hk.2) (.slice Ao35 t326.length co35)) (fun _ h_ => h_.1)))))) (Kd.R_lt (rC (a := by exact (Kd.R_mono (Kd.R_far (p := ⟨gb329, 2, none⟩) (Kd.R_far (p := ⟨gb329, 1, none⟩) (Kd.R_far (p := ⟨gb329, 0, none⟩) (Kd.R_types HO325.out BK329.out (by decide)) (fun _ hk => hk.2) (.slice Ao30 t320.length co30)) (fun _ hk => hk.2) (.slice Ao34 t323.length co34)) (fun _ hk => hk.2) (.slice Ao35 t326.length co35)) (fun _ h_ => h_.1)))))) (Kd.R_lt (rC (a := by exact (Kd.R_mono (Kd.R_far (p := ⟨gb329, 2, none⟩) (Kd.R_far (p := ⟨gb329, 1, none⟩) (Kd.R_far (p := ⟨gb329, 0, none⟩) (Kd.R_types HO328.out BK329.out (by decide)) (fun _ hk => hk.2) (.slice Ao30 t320.length co30)) (fun _ hk => hk.2) (.slice Ao34 t323.length co34)) (fun _ hk => hk.2) (.slice Ao35 t326.length co35)) (fun _ h_ => h_.1)))))) (below_size (hA HB.out))); have n12_ := Aside0.mk (Kd.R_lower (Kd.R_new' (Kd.R_new' (Kd.R_new' (Kd.R_new' (Kd.R_new' (Kd.R_new' (Kd.R_new' ho2 (Kd.R_lt (rC (a := by exact (Kd.R_mono (Kd.R_far (p := ⟨gb329, 2, none⟩) (Kd.R_far (p := ⟨gb329, 1, none⟩) (Kd.R_far (p := ⟨gb329, 0, none⟩) (Kd.R_types HO303.out BK329.out (by decide)) (fun _ hk => hk.2) (.slice Ao30 t320.length co30)) (fun _ hk => hk.2) (.slice Ao34 t323.length co34)) (fun _ hk => hk.2) (.slice Ao35 t326.length co35)) (fun _ h_ => h_.1)))))) (Kd.R_lt (rC (a := by exact (Kd.R_mono (Kd.R_far (p := ⟨gb329, 2, none⟩) (Kd.R_far (p := ⟨gb329, 1, none⟩) (Kd.R_far (p := ⟨gb329, 0, none⟩) (Kd.R_types HO306.out BK329.out (by decide)) (fun _ hk => hk.2) (.slice Ao30 t320.length co30)) (fun _ hk => hk.2) (.slice Ao34 t323.length co34)) (fun _ hk => hk.2) (.slice Ao35 t326.length co35)) (fun _ h_ => h_.1)))))) (Kd.R_lt (rC (a := by exact (Kd.R_mono (Kd.R_far (p := ⟨gb329, 2, none⟩) (Kd.R_far (p := ⟨gb329, 1, none⟩) (Kd.R_far (p := ⟨gb329, 0, none⟩) (Kd.R_types HO312.out BK329.out (by decide)) (fun _ hk => hk.2) (.slice Ao30 t320.length co30)) (fun _ hk => hk.2) (.slice Ao34 t323.length co34)) (fun _ hk => hk.2) (.slice Ao35 t326.length co35)) (fun _ h_ => h_.1)))))) (Kd.R_lt (rC (a := by exact (Kd.R_mono (Kd.R_far (p := ⟨gb329, 2, none⟩) (Kd.R_far (p := ⟨gb329, 1, none⟩) (Kd.R_far (p := ⟨gb329, 0, none⟩) (Kd.R_types HO315.out BK329.out (by decide)) (fun _ hk => hk.2) (.slice Ao30 t320.length co30)) (fun _ hk => hk.2) (.slice Ao34 t323.length co34)) (fun _ hk => hk.2) (.slice Ao35 t326.length co35)) (fun _ h_ => h_.1)))))) (Kd.R_lt (rC (a := by exact (Kd.R_mono (Kd.R_far (p := ⟨gb329, 2, none⟩) (Kd.R_far (p := ⟨gb329, 1, none⟩) (Kd.R_far (p := ⟨gb329, 0, none⟩) (Kd.R_types HO318.out BK329.out (by decide)) (fun _ hk => hk.2) (.slice Ao30 t320.length co30)) (fun _ hk => hk.2) (.slice Ao34 t323.length co34)) (fun _ hk => hk.2) (.slice Ao35 t326.length co35)) (fun _ h_ => h_.1)))))) (Kd.R_lt (rC (a := by exact (Kd.R_mono (Kd.R_far (p := ⟨gb329, 2, none⟩) (Kd.R_far (p := ⟨gb329, 1, none⟩) (Kd.R_far (p := ⟨gb329, 0, none⟩) (Kd.R_types HO325.out BK329.out (by decide)) (fun _ hk => hk.2) (.slice Ao30 t320.length co30)) (fun _ hk => hk.2) (.slice Ao34 t323.length co34)) (fun _ hk => hk.2) (.slice Ao35 t326.length co35)) (fun _ h_ => h_.1)))))) (Kd.R_lt (rC (a := by exact (Kd.R_mono (Kd.R_far (p := ⟨gb329, 2, none⟩) (Kd.R_far (p := ⟨gb329, 1, none⟩) (Kd.R_far (p := ⟨gb329, 0, none⟩) (Kd.R_types HO328.out BK329.out (by decide)) (fun _ hk => hk.2) (.slice Ao30 t320.length co30)) (fun _ hk => hk.2) (.slice Ao34 t323.length co34)) (fun _ hk => hk.2) (.slice Ao35 t326.length co35)) (fun _ h_ => h_.1)))))) (below_size (hA HB.out))); have n13_ := Aside0.mk (Kd.R_lower (Kd.R_new' (Kd.R_new' (Kd.R_new' (Kd.R_new' (Kd.R_new' (Kd.R_new' (Kd.R_new' ho3 (Kd.R_lt (rC (a := by exact (Kd.R_mono (Kd.R_far (p := ⟨gb329, 2, none⟩) (Kd.R_far (p := ⟨gb329, 1, none⟩) (Kd.R_far (p := ⟨gb329, 0, none⟩) (Kd.R_types HO303.out BK329.out (by decide)) (fun _ hk => hk.2) (.slice Ao30 t320.length co30)) (fun _ hk => hk.2) (.slice Ao34 t323.length co34)) (fun _ hk => hk.2) (.slice Ao35 t326.length co35)) (fun _ h_ => h_.1)))))) (Kd.R_lt (rC (a := by exact (Kd.R_mono (Kd.R_far (p := ⟨gb329, 2, none⟩) (Kd.R_far (p := ⟨gb329, 1, none⟩) (Kd.R_far (p := ⟨gb329, 0, none⟩) (Kd.R_types HO306.out BK329.out (by decide)) (fun _ hk => hk.2) (.slice Ao30 t320.length co30)) (fun _ hk => hk.2) (.slice Ao34 t323.length co34)) (fun _ hk => hk.2) (.slice Ao35 t326.length co35)) (fun _ h_ => h_.1)))))) (Kd.R_lt (rC (a := by exact (Kd.R_mono (Kd.R_far (p := ⟨gb329, 2, none⟩) (Kd.R_far (p := ⟨gb329, 1, none⟩) (Kd.R_far (p := ⟨gb329, 0, none⟩) (Kd.R_types HO312.out BK329.out (by decide)) (fun _ hk => hk.2) (.slice Ao30 t320.length co30)) (fun _ hk => hk.2) (.slice Ao34 t323.length co34)) (fun _ hk => hk.2) (.slice Ao35 t326.length co35)) (fun _ h_ => h_.1)))))) (Kd.R_lt (rC (a := by exact (Kd.R_mono (Kd.R_far (p := ⟨gb329, 2, none⟩) (Kd.R_far (p := ⟨gb329, 1, none⟩) (Kd.R_far (p := ⟨gb329, 0, none⟩) (Kd.R_types HO315.out BK329.out (by decide)) (fun _ hk => hk.2) (.slice Ao30 t320.length co30)) (fun _ hk => hk.2) (.slice Ao34 t323.length co34)) (fun _ hk => hk.2) (.slice Ao35 t326.length co35)) (fun _ h_ => h_.1)))))) (Kd.R_lt (rC (a := by exact (Kd.R_mono (Kd.R_far (p := ⟨gb329, 2, none⟩) (Kd.R_far (p := ⟨gb329, 1, none⟩) (Kd.R_far (p := ⟨gb329, 0, none⟩) (Kd.R_types HO318.out BK329.out (by decide)) (fun _ hk => hk.2) (.slice Ao30 t320.length co30)) (fun _ hk => hk.2) (.slice Ao34 t323.length co34)) (fun _ hk => hk.2) (.slice Ao35 t326.length co35)) (fun _ h_ => h_.1)))))) (Kd.R_lt (rC (a := by exact (Kd.R_mono (Kd.R_far (p := ⟨gb329, 2, none⟩) (Kd.R_far (p := ⟨gb329, 1, none⟩) (Kd.R_far (p := ⟨gb329, 0, none⟩) (Kd.R_types HO325.out BK329.out (by decide)) (fun _ hk => hk.2) (.slice Ao30 t320.length co30)) (fun _ hk => hk.2) (.slice Ao34 t323.length co34)) (fun _ hk => hk.2) (.slice Ao35 t326.length co35)) (fun _ h_ => h_.1)))))) (Kd.R_lt (rC (a := by exact (Kd.R_mono (Kd.R_far (p := ⟨gb329, 2, none⟩) (Kd.R_far (p := ⟨gb329, 1, none⟩) (Kd.R_far (p := ⟨gb329, 0, none⟩) (Kd.R_types HO328.out BK329.out (by decide)) (fun _ hk => hk.2) (.slice Ao30 t320.length co30)) (fun _ hk => hk.2) (.slice Ao34 t323.length co34)) (fun _ hk => hk.2) (.slice Ao35 t326.length co35)) (fun _ h_ => h_.1)))))) (below_size (hA HB.out))); have n14_ := Aside0.mk (blk_below (g := gb296) (o := .cells #[.slice A0_0 l0_0.length c0_0, .slice A0_1 l0_1.length c0_1, .slice A0_2 l0_2.length c0_2] 25 (0, 0)) (by refine bC (a := ?_); refine blk_far ?_ NB296_329.out _; refine bC (a := ?_); refine blk_far ?_ NB296_329.out _; refine bC (a := ?_); refine blk_far ?_ NB296_329.out _; refine bC (a := ?_); exact BK296.out) hb); have n15_ := Aside0.mk (blk_below (g := gb319) (o := .cells #[.slice Ao22 t307.length co22, .slice Ao25 t310.length co25, .slice Ao26 t313.length co26] 29 (0, 0)) (by refine bC (a := ?_); refine blk_far ?_ NB319_329.out _; refine bC (a := ?_); refine blk_far ?_ NB319_329.out _; refine bC (a := ?_); refine blk_far ?_ NB319_329.out _; refine bC (a := ?_); exact BK319.out) hb); have n16_ := Aside0.mk (blk_below (g := gb329) (o := .cells #[.slice Ao30 t320.length co30, .slice Ao34 t323.length co34, .slice Ao35 t326.length co35] 29 (0, 0)) (by refine bC (a := ?_); refine blk_put (cs := #[.slice Ao30 t320.length co30, .slice Ao34 t323.length co34, .slice none 0 0]) ?_ 2 _ rfl; refine bC (a := ?_); refine blk_put (cs := #[.slice Ao30 t320.length co30, .slice none 0 0, .slice none 0 0]) ?_ 1 _ rfl; refine bC (a := ?_); refine blk_put (cs := #[.slice none 0 0, .slice none 0 0, .slice none 0 0]) ?_ 0 _ rfl; refine bC (a := ?_); exact BK329.out) hb); have n17_ := Aside0.mk (below_step (hA HB.out) hb); clear HO300; clear HO303; clear HO306; clear HO309; clear HO312; clear HO315; clear HO318; clear HO322; clear HO325; clear HO328; clear BK296; clear BK319; clear BK329; clear HB; have HO300 := n0_; have HO303 := n1_; have HO306 := n2_; have HO309 := n3_; have HO312 := n4_; have HO315 := n5_; have HO318 := n6_; have HO322 := n7_; have HO325 := n8_; have HO328 := n9_; have HO332 := n10_; have HO335 := n11_; have HO338 := n12_; have HO341 := n13_; have BK296 := n14_; have BK319 := n15_; have BK329 := n16_; have HB := n17_; clear n0_ n1_ n2_ n3_ n4_ n5_ n6_ n7_ n8_ n9_ n10_ n11_ n12_ n13_ n14_ n15_ n16_ n17_; (try clear hb); (try clear hb2); (try clear hk); (try clear hi); (try clear ho0); (try clear ho1); (try clear ho2); (try clear ho3)) | ((with_reducible refine gate_dst (N := 7) rfl ?_); refine box_event ?hg (N := 7) ?hd (cs := #[.slice none 0 0, .slice none 0 0, .slice none 0 0]) (t := 29) ?hr ?_; (case hd => rfl); (case hg => rfl); (case hr => first | (go_simp; done) | (go_simp; rfl)); intro gb342 hg w37 hbox hb; have n0_ := Aside0.mk (Kd.R_below (rA HO300.out) hb); have n1_ := Aside0.mk (Kd.R_below (rA HO303.out) hb); have n2_ := Aside0.mk (Kd.R_below (rA HO306.out) hb); have n3_ := Aside0.mk (Kd.R_below (rA HO309.out) hb); have n4_ := Aside0.mk (Kd.R_below (rA HO312.out) hb); have n5_ := Aside0.mk (Kd.R_below (rA HO315.out) hb); have n6_ := Aside0.mk (Kd.R_below (rA HO318.out) hb); have n7_ := Aside0.mk (Kd.R_below (rA HO322.out) hb); have n8_ := Aside0.mk (Kd.R_below (rA HO325.out) hb); have n9_ := Aside0.mk (Kd.R_below (rA HO328.out) hb); have n10_ := Aside0.mk (Kd.R_below (rA HO332.out) hb); have n11_ := Aside0.mk (Kd.R_below (rA HO335.out) hb); have n12_ := Aside0.mk (Kd.R_below (rA HO338.out) hb); have n13_ := Aside0.mk (Kd.R_below (rA HO341.out) hb); have n14_ := Aside0.mk (blk_below (g := gb296) (o := .cells #[.slice A0_0 l0_0.length c0_0, .slice A0_1 l0_1.length c0_1, .slice A0_2 l0_2.length c0_2] 25 (0, 0)) (bA BK296.out) hb); have n15_ := Aside0.mk (blk_below (g := gb319) (o := .cells #[.slice Ao22 t307.length co22, .slice Ao25 t310.length co25, .slice Ao26 t313.length co26] 29 (0, 0)) (bA BK319.out) hb); have n16_ := Aside0.mk (blk_below (g := gb329) (o := .cells #[.slice Ao30 t320.length co30, .slice Ao34 t323.length co34, .slice Ao35 t326.length co35] 29 (0, 0)) (bA BK329.out) hb); have n17_ := Aside0.mk (below_step (hA HB.out) hb); have n18_ := Aside0.mk (hbox); have n19_ := Aside0.mk ((by rw [hg]; exact (below_size (hA HB.out)) : w.heap.size ≤ gb342)); have n20_ := Aside0.mk ((by rw [hg]; exact (below_size (hA HB.out)) : w.heap.size ≤ gb342)); have n21_ := Aside0.mk ((by rw [hg]; exact Nat.ne_of_lt (blk_lt (g := gb296) (o := .cells #[.slice A0_0 l0_0.length c0_0, .slice A0_1 l0_1.length c0_1, .slice A0_2 l0_2.length c0_2] 25 (0, 0)) (bA BK296.out)) : gb296 ≠ gb342)); have n22_ := Aside0.mk ((by rw [hg]; exact Nat.ne_of_gt (blk_lt (g := gb296) (o := .cells #[.slice A0_0 l0_0.length c0_0, .slice A0_1 l0_1.length c0_1, .slice A0_2 l0_2.length c0_2] 25 (0, 0)) (bA BK296.out)) : gb342 ≠ gb296)); have n23_ := Aside0.mk ((by rw [hg]; exact Nat.ne_of_lt (blk_lt (g := gb319) (o := .cells #[.slice Ao22 t307.length co22, .slice Ao25 t310.length co25, .slice Ao26 t313.length co26] 29 (0, 0)) (bA BK319.out)) : gb319 ≠ gb342)); have n24_ := Aside0.mk ((by rw [hg]; exact Nat.ne_of_gt (blk_lt (g := gb319) (o := .cells #[.slice Ao22 t307.length co22, .slice Ao25 t310.length co25, .slice Ao26 t313.length co26] 29 (0, 0)) (bA BK319.out)) : gb342 ≠ gb319)); have n25_ := Aside0.mk ((by rw [hg]; exact Nat.ne_of_lt (blk_lt (g := gb329) (o := .cells #[.slice Ao30 t320.length co30, .slice Ao34 t323.length co34, .slice Ao35 t326.length co35] 29 (0, 0)) (bA BK329.out)) : gb329 ≠ gb342)); have n26_ := Aside0.mk ((by rw [hg]; exact Nat.ne_of_gt (blk_lt (g := gb329) (o := .cells #[.slice Ao30 t320.length co30, .slice Ao34 t323.length co34, .slice Ao35 t326.length co35] 29 (0, 0)) (bA BK329.out)) : gb342 ≠ gb329)); clear HO300; clear HO303; clear HO306; clear HO309; clear HO312; clear HO315; clear HO318; clear HO322; clear HO325; clear HO328; clear HO332; clear HO335; clear HO338; clear HO341; clear BK296; clear BK319; clear BK329; clear HB; have HO300 := n0_; have HO303 := n1_; have HO306 := n2_; have HO309 := n3_; have HO312 := n4_; have HO315 := n5_; have HO318 := n6_; have HO322 := n7_; have HO325 := n8_; have HO328 := n9_; have HO332 := n10_; have HO335 := n11_; have HO338 := n12_; have HO341 := n13_; have BK296 := n14_; have BK319 := n15_; have BK329 := n16_; have HB := n17_; have BK342 := n18_; have GW342 := n19_; have GE342 := n20_; have NB296_342 := n21_; have NB342_296 := n22_; have NB319_342 := n23_; have NB342_319 := n24_; have NB329_342 := n25_; have NB342_329 := n26_; clear n0_ n1_ n2_ n3_ n4_ n5_ n6_ n7_ n8_ n9_ n10_ n11_ n12_ n13_ n14_ n15_ n16_ n17_ n18_ n19_ n20_ n21_ n22_ n23_ n24_ n25_ n26_; clear hb hbox hg; obtain ⟨Ao38, co38, eo38⟩ := Kd.R_slice HO332.out; subst eo38; have hnb39 := NB342_296.out; have hnc39 := NB296_342.out; have hnb40 := NB342_319.out; have hnc40 := NB319_342.out; have hnb41 := NB342_329.out; have hnc41 := NB329_342.out; have hcz42_0 : w37.cell? ⟨gb342, 0, none⟩ = some (.slice none 0 0) := (blk_cell BK342.out 0).trans rfl; have hcz42_1 : w37.cell? ⟨gb342, 1, none⟩ = some (.slice none 0 0) := (blk_cell BK342.out 1).trans rfl; have hcz42_2 : w37.cell? ⟨gb342, 2, none⟩ = some (.slice none 0 0) := (blk_cell BK342.out 2).trans rfl; have hfz42_0 := blk_frozen BK342.out 0; have hfz42_1 := blk_frozen BK342.out 1; have hfz42_2 := blk_frozen BK342.out 2; obtain ⟨Ao43, co43, eo43⟩ := Kd.R_slice HO335.out; subst eo43; obtain ⟨Ao44, co44, eo44⟩ := Kd.R_slice HO338.out; subst eo44))
  (try simp only [Act.put, List.setIfInBounds_toArray, List.set_cons_zero, List.set_cons_succ])
  go_cut [41] (fun v41 wc => ∃ (kq : Nat) (x41_10 : Bool), v41 = .bool x41_10 ∧ Aside0 (laws_FnExactMendBook.j0 kq t316 t339 x41_10 l0_0 l0_1 l0_2 t307 t310 t313 t320 t323 t326 t330 t333 t336 = some r) ∧ Aside0 (kq ≤ k) ∧ Aside0 (Kd.R (Kd.int .i64) 3 wc w.heap.size (fun k_ => some k_ ≠ (v340 : Value).ownBlock ∧ some k_ ≠ ((.slice Ao25 t310.length co25) : Value).ownBlock ∧ some k_ ≠ ((.slice Ao26 t313.length co26) : Value).ownBlock ∧ some k_ ≠ ((.slice Ao34 t323.length co34) : Value).ownBlock ∧ some k_ ≠ ((.slice Ao35 t326.length co35) : Value).ownBlock ∧ some k_ ≠ ((.slice Ao43 t333.length co43) : Value).ownBlock ∧ some k_ ≠ ((.slice Ao44 t336.length co44) : Value).ownBlock) v317 t316) ∧ Aside0 (Kd.R (Kd.int .i64) 3 wc w.heap.size (fun k_ => some k_ ≠ (v317 : Value).ownBlock ∧ some k_ ≠ ((.slice Ao25 t310.length co25) : Value).ownBlock ∧ some k_ ≠ ((.slice Ao26 t313.length co26) : Value).ownBlock ∧ some k_ ≠ ((.slice Ao34 t323.length co34) : Value).ownBlock ∧ some k_ ≠ ((.slice Ao35 t326.length co35) : Value).ownBlock ∧ some k_ ≠ ((.slice Ao43 t333.length co43) : Value).ownBlock ∧ some k_ ≠ ((.slice Ao44 t336.length co44) : Value).ownBlock) v340 t339) ∧ Aside0 (Kd.R k50 50 wc w.heap.size (fun k_ => some k_ ≠ ((.slice Ao30 t320.length co30) : Value).ownBlock ∧ some k_ ≠ ((.slice Ao38 t330.length co38) : Value).ownBlock) (.slice Ao22 t307.length co22) t307) ∧ Aside0 (Kd.R (Kd.int .i64) 3 wc w.heap.size (fun k_ => some k_ ≠ (v317 : Value).ownBlock ∧ some k_ ≠ (v340 : Value).ownBlock ∧ some k_ ≠ ((.slice Ao26 t313.length co26) : Value).ownBlock ∧ some k_ ≠ ((.slice Ao34 t323.length co34) : Value).ownBlock ∧ some k_ ≠ ((.slice Ao35 t326.length co35) : Value).ownBlock ∧ some k_ ≠ ((.slice Ao43 t333.length co43) : Value).ownBlock ∧ some k_ ≠ ((.slice Ao44 t336.length co44) : Value).ownBlock) (.slice Ao25 t310.length co25) t310) ∧ Aside0 (Kd.R (Kd.int .i64) 3 wc w.heap.size (fun k_ => some k_ ≠ (v317 : Value).ownBlock ∧ some k_ ≠ (v340 : Value).ownBlock ∧ some k_ ≠ ((.slice Ao25 t310.length co25) : Value).ownBlock ∧ some k_ ≠ ((.slice Ao34 t323.length co34) : Value).ownBlock ∧ some k_ ≠ ((.slice Ao35 t326.length co35) : Value).ownBlock ∧ some k_ ≠ ((.slice Ao43 t333.length co43) : Value).ownBlock ∧ some k_ ≠ ((.slice Ao44 t336.length co44) : Value).ownBlock) (.slice Ao26 t313.length co26) t313) ∧ Aside0 (Kd.R k50 50 wc w.heap.size (fun k_ => some k_ ≠ ((.slice Ao22 t307.length co22) : Value).ownBlock ∧ some k_ ≠ ((.slice Ao38 t330.length co38) : Value).ownBlock) (.slice Ao30 t320.length co30) t320) ∧ Aside0 (Kd.R (Kd.int .i64) 3 wc w.heap.size (fun k_ => some k_ ≠ (v317 : Value).ownBlock ∧ some k_ ≠ (v340 : Value).ownBlock ∧ some k_ ≠ ((.slice Ao25 t310.length co25) : Value).ownBlock ∧ some k_ ≠ ((.slice Ao26 t313.length co26) : Value).ownBlock ∧ some k_ ≠ ((.slice Ao35 t326.length co35) : Value).ownBlock ∧ some k_ ≠ ((.slice Ao43 t333.length co43) : Value).ownBlock ∧ some k_ ≠ ((.slice Ao44 t336.length co44) : Value).ownBlock) (.slice Ao34 t323.length co34) t323) ∧ Aside0 (Kd.R (Kd.int .i64) 3 wc w.heap.size (fun k_ => some k_ ≠ (v317 : Value).ownBlock ∧ some k_ ≠ (v340 : Value).ownBlock ∧ some k_ ≠ ((.slice Ao25 t310.length co25) : Value).ownBlock ∧ some k_ ≠ ((.slice Ao26 t313.length co26) : Value).ownBlock ∧ some k_ ≠ ((.slice Ao34 t323.length co34) : Value).ownBlock ∧ some k_ ≠ ((.slice Ao43 t333.length co43) : Value).ownBlock ∧ some k_ ≠ ((.slice Ao44 t336.length co44) : Value).ownBlock) (.slice Ao35 t326.length co35) t326) ∧ Aside0 (Kd.R k50 50 wc w.heap.size (fun k_ => some k_ ≠ ((.slice Ao22 t307.length co22) : Value).ownBlock ∧ some k_ ≠ ((.slice Ao30 t320.length co30) : Value).ownBlock) (.slice Ao38 t330.length co38) t330) ∧ Aside0 (Kd.R (Kd.int .i64) 3 wc w.heap.size (fun k_ => some k_ ≠ (v317 : Value).ownBlock ∧ some k_ ≠ (v340 : Value).ownBlock ∧ some k_ ≠ ((.slice Ao25 t310.length co25) : Value).ownBlock ∧ some k_ ≠ ((.slice Ao26 t313.length co26) : Value).ownBlock ∧ some k_ ≠ ((.slice Ao34 t323.length co34) : Value).ownBlock ∧ some k_ ≠ ((.slice Ao35 t326.length co35) : Value).ownBlock ∧ some k_ ≠ ((.slice Ao44 t336.length co44) : Value).ownBlock) (.slice Ao43 t333.length co43) t333) ∧ Aside0 (Kd.R (Kd.int .i64) 3 wc w.heap.size (fun k_ => some k_ ≠ (v317 : Value).ownBlock ∧ some k_ ≠ (v340 : Value).ownBlock ∧ some k_ ≠ ((.slice Ao25 t310.length co25) : Value).ownBlock ∧ some k_ ≠ ((.slice Ao26 t313.length co26) : Value).ownBlock ∧ some k_ ≠ ((.slice Ao34 t323.length co34) : Value).ownBlock ∧ some k_ ≠ ((.slice Ao35 t326.length co35) : Value).ownBlock ∧ some k_ ≠ ((.slice Ao43 t333.length co43) : Value).ownBlock) (.slice Ao44 t336.length co44) t336) ∧ Aside0 (wc.heap[gb296]? = some (.cells #[(.slice A0_0 l0_0.length c0_0), (.slice A0_1 l0_1.length c0_1), (.slice A0_2 l0_2.length c0_2)] 25 (0, 0))) ∧ Aside0 (wc.heap[gb319]? = some (.cells #[(.slice Ao22 t307.length co22), (.slice Ao25 t310.length co25), (.slice Ao26 t313.length co26)] 29 (0, 0))) ∧ Aside0 (wc.heap[gb329]? = some (.cells #[(.slice Ao30 t320.length co30), (.slice Ao34 t323.length co34), (.slice Ao35 t326.length co35)] 29 (0, 0))) ∧ Aside0 (wc.heap[gb342]? = some (.cells #[(.slice Ao38 t330.length co38), (.slice Ao43 t333.length co43), (.slice Ao44 t336.length co44)] 29 (0, 0))) ∧ Aside0 (Below w.heap.size w wc))
  case first =>
   have H := HC11.out
   clear HC11
   replace H := Option.bind_eq_some_iff.mp H
   obtain ⟨t343, A450, H⟩ := H
   replace H : (if t343 = true then ((laws_eqIntS.f k t339 t316).bind fun t344 => (laws_FnExactMendBook.j0 k t316 t339 (!t344) l0_0 l0_1 l0_2 t307 t310 t313 t320 t323 t326 t330 t333 t336)) else (laws_FnExactMendBook.j0 k t316 t339 true l0_0 l0_1 l0_2 t307 t310 t313 t320 t323 t326 t330 t333 t336)) = some r := H
   have A45 := Aside0.mk A450
   clear A450
   by_cases c46 : t343 = true
   ·subst c46
    have H1 : ((laws_eqIntS.f k t339 t316).bind fun t344 => (laws_FnExactMendBook.j0 k t316 t339 (!t344) l0_0 l0_1 l0_2 t307 t310 t313 t320 t323 t326 t330 t333 t336)) = some r := by rw [if_pos rfl] at H; exact H
    clear H
    have H := H1
    clear H1
    replace H := Option.bind_eq_some_iff.mp H
    obtain ⟨t344, A470, H⟩ := H
    replace H : (laws_FnExactMendBook.j0 k t316 t339 (!t344) l0_0 l0_1 l0_2 t307 t310 t313 t320 t323 t326 t330 t333 t336) = some r := H
    have A47 := Aside0.mk A470
    clear A470
    have H' := Aside0.mk H
    clear H
    have hnb48 := NB342_296.out
    have hnc48 := NB296_342.out
    have hnb49 := NB342_319.out
    have hnc49 := NB319_342.out
    have hnb50 := NB342_329.out
    have hnc50 := NB329_342.out
    have hcz51_0 : w37.cell? ⟨gb342, 0, none⟩ = some (.slice none 0 0) := (blk_cell BK342.out 0).trans rfl
    have hcz51_1 : w37.cell? ⟨gb342, 1, none⟩ = some (.slice none 0 0) := (blk_cell BK342.out 1).trans rfl
    have hcz51_2 : w37.cell? ⟨gb342, 2, none⟩ = some (.slice none 0 0) := (blk_cell BK342.out 2).trans rfl
    have hfz51_0 := blk_frozen BK342.out 0
    have hfz51_1 := blk_frozen BK342.out 1
    have hfz51_2 := blk_frozen BK342.out 2
    have hnb52 := NB319_296.out
    have hnc52 := NB296_319.out
    have hnb53 := NB319_329.out
    have hnc53 := NB329_319.out
    have hcz54_0 : w37.cell? ⟨gb319, 0, none⟩ = some (.slice Ao22 t307.length co22) := (blk_cell BK319.out 0).trans rfl
    have hcz54_1 : w37.cell? ⟨gb319, 1, none⟩ = some (.slice Ao25 t310.length co25) := (blk_cell BK319.out 1).trans rfl
    have hcz54_2 : w37.cell? ⟨gb319, 2, none⟩ = some (.slice Ao26 t313.length co26) := (blk_cell BK319.out 2).trans rfl
    have hfz54_0 := blk_frozen BK319.out 0
    have hfz54_1 := blk_frozen BK319.out 1
    have hfz54_2 := blk_frozen BK319.out 2
    go_wp2_with (first | ((with_reducible refine gate_callee (f := 13) rfl ?_); refine goesL_ (some 34) rfl rfl Try.func13 (by kernel_rfl) rfl #[.agg #[.slice Ao38 t330.length co38, .slice Ao43 t333.length co43, .slice Ao44 t336.length co44], .agg #[.slice Ao22 t307.length co22, .slice Ao25 t310.length co25, .slice Ao26 t313.length co26]] rfl ar ?_; (with_reducible refine (laws_eqBook.calls k _ _ t330 _ _ t333 _ _ t336 _ _ t307 _ _ t310 _ _ t313 true _ ?side1 ?side2 ?side3 ?side4 ?side5 ?side6 ?side7 ?side8 ?side9 ?side10 ?side11 ?side12 A45.out).mono ?_); (case side1 => refine (Kd.R_reads' (e := 50) (base := w.heap.size) (ok := fun k_ => (((True ∧ some k_ ≠ (.slice Ao17 t298.length co17 : Value).ownBlock) ∧ some k_ ≠ (.slice Ao22 t307.length co22 : Value).ownBlock) ∧ some k_ ≠ (.slice Ao30 t320.length co30 : Value).ownBlock)) (n := t330.length) (c := co38) ?_).2.2; exact (rC (a := by exact (Kd.R_mono (Kd.R_far (p := ⟨gb342, 2, none⟩) (Kd.R_far (p := ⟨gb342, 1, none⟩) (Kd.R_far (p := ⟨gb342, 0, none⟩) (Kd.R_types HO332.out BK342.out (by decide)) (fun _ hk => hk.2) (.slice Ao38 t330.length co38)) (fun _ hk => hk.2) (.slice Ao43 t333.length co43)) (fun _ hk => hk.2) (.slice Ao44 t336.length co44)) (fun _ h_ => h_.1))))); (case side2 => exact (Kd.R_reads' HO332.out).2.1); (case side3 => refine (Kd.R_reads' (e := 3) (base := w.heap.size) (ok := fun k_ => ((((((((some k_ ≠ (.slice Ao44 t336.length co44 : Value).ownBlock ∧ some k_ ≠ (v340 : Value).ownBlock) ∧ some k_ ≠ (.slice Ao18 t301.length co18 : Value).ownBlock) ∧ some k_ ≠ (.slice Ao19 t304.length co19 : Value).ownBlock) ∧ some k_ ≠ (.slice Ao25 t310.length co25 : Value).ownBlock) ∧ some k_ ≠ (.slice Ao26 t313.length co26 : Value).ownBlock) ∧ some k_ ≠ (v317 : Value).ownBlock) ∧ some k_ ≠ (.slice Ao34 t323.length co34 : Value).ownBlock) ∧ some k_ ≠ (.slice Ao35 t326.length co35 : Value).ownBlock)) (n := t333.length) (c := co43) ?_).2.2; exact (rC (a := by exact (Kd.R_mono (Kd.R_far (p := ⟨gb342, 2, none⟩) (Kd.R_far (p := ⟨gb342, 1, none⟩) (Kd.R_far (p := ⟨gb342, 0, none⟩) (Kd.R_types HO335.out BK342.out (by decide)) (fun _ hk => hk.2) (.slice Ao38 t330.length co38)) (fun _ hk => hk.2) (.slice Ao43 t333.length co43)) (fun _ hk => hk.2) (.slice Ao44 t336.length co44)) (fun _ h_ => h_.1))))); (case side4 => exact (Kd.R_reads' HO335.out).2.1); (case side5 => refine (Kd.R_reads' (e := 3) (base := w.heap.size) (ok := fun k_ => ((((((((some k_ ≠ (.slice Ao43 t333.length co43 : Value).ownBlock ∧ some k_ ≠ (v340 : Value).ownBlock) ∧ some k_ ≠ (.slice Ao18 t301.length co18 : Value).ownBlock) ∧ some k_ ≠ (.slice Ao19 t304.length co19 : Value).ownBlock) ∧ some k_ ≠ (.slice Ao25 t310.length co25 : Value).ownBlock) ∧ some k_ ≠ (.slice Ao26 t313.length co26 : Value).ownBlock) ∧ some k_ ≠ (v317 : Value).ownBlock) ∧ some k_ ≠ (.slice Ao34 t323.length co34 : Value).ownBlock) ∧ some k_ ≠ (.slice Ao35 t326.length co35 : Value).ownBlock)) (n := t336.length) (c := co44) ?_).2.2; exact (rC (a := by exact (Kd.R_mono (Kd.R_far (p := ⟨gb342, 2, none⟩) (Kd.R_far (p := ⟨gb342, 1, none⟩) (Kd.R_far (p := ⟨gb342, 0, none⟩) (Kd.R_types HO338.out BK342.out (by decide)) (fun _ hk => hk.2) (.slice Ao38 t330.length co38)) (fun _ hk => hk.2) (.slice Ao43 t333.length co43)) (fun _ hk => hk.2) (.slice Ao44 t336.length co44)) (fun _ h_ => h_.1))))); (case side6 => exact (Kd.R_reads' HO338.out).2.1); (case side7 => refine (Kd.R_reads' (e := 50) (base := w.heap.size) (ok := fun k_ => (((True ∧ some k_ ≠ (.slice Ao17 t298.length co17 : Value).ownBlock) ∧ some k_ ≠ (.slice Ao30 t320.length co30 : Value).ownBlock) ∧ some k_ ≠ (.slice Ao38 t330.length co38 : Value).ownBlock)) (n := t307.length) (c := co22) ?_).2.2; exact (rC (a := by exact (Kd.R_mono (Kd.R_far (p := ⟨gb342, 2, none⟩) (Kd.R_far (p := ⟨gb342, 1, none⟩) (Kd.R_far (p := ⟨gb342, 0, none⟩) (Kd.R_types HO309.out BK342.out (by decide)) (fun _ hk => hk.2) (.slice Ao38 t330.length co38)) (fun _ hk => hk.2) (.slice Ao43 t333.length co43)) (fun _ hk => hk.2) (.slice Ao44 t336.length co44)) (fun _ h_ => h_.1))))); (case side8 => exact (Kd.R_reads' HO309.out).2.1); (case side9 => refine (Kd.R_reads' (e := 3) (base := w.heap.size) (ok := fun k_ => ((((((((some k_ ≠ (.slice Ao26 t313.length co26 : Value).ownBlock ∧ some k_ ≠ (v317 : Value).ownBlock) ∧ some k_ ≠ (.slice Ao18 t301.length co18 : Value).ownBlock) ∧ some k_ ≠ (.slice Ao19 t304.length co19 : Value).ownBlock) ∧ some k_ ≠ (.slice Ao34 t323.length co34 : Value).ownBlock) ∧ some k_ ≠ (.slice Ao35 t326.length co35 : Value).ownBlock) ∧ some k_ ≠ (.slice Ao43 t333.length co43 : Value).ownBlock) ∧ some k_ ≠ (.slice Ao44 t336.length co44 : Value).ownBlock) ∧ some k_ ≠ (v340 : Value).ownBlock)) (n := t310.length) (c := co25) ?_).2.2; exact (rC (a := by exact (Kd.R_mono (Kd.R_far (p := ⟨gb342, 2, none⟩) (Kd.R_far (p := ⟨gb342, 1, none⟩) (Kd.R_far (p := ⟨gb342, 0, none⟩) (Kd.R_types HO312.out BK342.out (by decide)) (fun _ hk => hk.2) (.slice Ao38 t330.length co38)) (fun _ hk => hk.2) (.slice Ao43 t333.length co43)) (fun _ hk => hk.2) (.slice Ao44 t336.length co44)) (fun _ h_ => h_.1))))); (case side10 => exact (Kd.R_reads' HO312.out).2.1); (case side11 => refine (Kd.R_reads' (e := 3) (base := w.heap.size) (ok := fun k_ => ((((((((some k_ ≠ (.slice Ao25 t310.length co25 : Value).ownBlock ∧ some k_ ≠ (v317 : Value).ownBlock) ∧ some k_ ≠ (.slice Ao18 t301.length co18 : Value).ownBlock) ∧ some k_ ≠ (.slice Ao19 t304.length co19 : Value).ownBlock) ∧ some k_ ≠ (.slice Ao34 t323.length co34 : Value).ownBlock) ∧ some k_ ≠ (.slice Ao35 t326.length co35 : Value).ownBlock) ∧ some k_ ≠ (.slice Ao43 t333.length co43 : Value).ownBlock) ∧ some k_ ≠ (.slice Ao44 t336.length co44 : Value).ownBlock) ∧ some k_ ≠ (v340 : Value).ownBlock)) (n := t313.length) (c := co26) ?_).2.2; exact (rC (a := by exact (Kd.R_mono (Kd.R_far (p := ⟨gb342, 2, none⟩) (Kd.R_far (p := ⟨gb342, 1, none⟩) (Kd.R_far (p := ⟨gb342, 0, none⟩) (Kd.R_types HO315.out BK342.out (by decide)) (fun _ hk => hk.2) (.slice Ao38 t330.length co38)) (fun _ hk => hk.2) (.slice Ao43 t333.length co43)) (fun _ hk => hk.2) (.slice Ao44 t336.length co44)) (fun _ h_ => h_.1))))); (case side12 => exact (Kd.R_reads' HO315.out).2.1); rintro e w55 ⟨rfl, hb⟩; refine ⟨_, rfl, ?_⟩; have n0_ := Aside0.mk (Kd.R_below (rC (a := by exact (Kd.R_mono (Kd.R_far (p := ⟨gb342, 2, none⟩) (Kd.R_far (p := ⟨gb342, 1, none⟩) (Kd.R_far (p := ⟨gb342, 0, none⟩) (Kd.R_types HO300.out BK342.out (by decide)) (fun _ hk => hk.2) (.slice Ao38 t330.length co38)) (fun _ hk => hk.2) (.slice Ao43 t333.length co43)) (fun _ hk => hk.2) (.slice Ao44 t336.length co44)) (fun _ h_ => h_.1)))) hb); have n1_ := Aside0.mk (Kd.R_below (rC (a := by exact (Kd.R_mono (Kd.R_far (p := ⟨gb342, 2, none⟩) (Kd.R_far (p := ⟨gb342, 1, none⟩) (Kd.R_far (p := ⟨gb342, 0, none⟩) (Kd.R_types HO303.out BK342.out (by decide)) (fun _ hk => hk.2) (.slice Ao38 t330.length co38)) (fun _ hk => hk.2) (.slice Ao43 t333.length co43)) (fun _ hk => hk.2) (.slice Ao44 t336.length co44)) (fun _ h_ => h_.1)))) hb); have n2_ := Aside0.mk (Kd.R_below (rC (a := by exact (Kd.R_mono (Kd.R_far (p := ⟨gb342, 2, none⟩) (Kd.R_far (p := ⟨gb342, 1, none⟩) (Kd.R_far (p := ⟨gb342, 0, none⟩) (Kd.R_types HO306.out BK342.out (by decide)) (fun _ hk => hk.2) (.slice Ao38 t330.length co38)) (fun _ hk => hk.2) (.slice Ao43 t333.length co43)) (fun _ hk => hk.2) (.slice Ao44 t336.length co44)) (fun _ h_ => h_.1)))) hb); have n3_ := Aside0.mk (Kd.R_below (rC (a := by exact (Kd.R_mono (Kd.R_far (p := ⟨gb342, 2, none⟩) (Kd.R_far (p := ⟨gb342, 1, none⟩) (Kd.R_far (p := ⟨gb342, 0, none⟩) (Kd.R_types HO309.out BK342.out (by decide)) (fun _ hk => hk.2) (.slice Ao38 t330.length co38)) (fun _ hk => hk.2) (.slice Ao43 t333.length co43)) (fun _ hk => hk.2) (.slice Ao44 t336.length co44)) (fun _ h_ => h_.1)))) hb); have n4_ := Aside0.mk (Kd.R_below (rC (a := by exact (Kd.R_mono (Kd.R_far (p := ⟨gb342, 2, none⟩) (Kd.R_far (p := ⟨gb342, 1, none⟩) (Kd.R_far (p := ⟨gb342, 0, none⟩) (Kd.R_types HO312.out BK342.out (by decide)) (fun _ hk => hk.2) (.slice Ao38 t330.length co38)) (fun _ hk => hk.2) (.slice Ao43 t333.length co43)) (fun _ hk => hk.2) (.slice Ao44 t336.length co44)) (fun _ h_ => h_.1)))) hb); have n5_ := Aside0.mk (Kd.R_below (rC (a := by exact (Kd.R_mono (Kd.R_far (p := ⟨gb342, 2, none⟩) (Kd.R_far (p := ⟨gb342, 1, none⟩) (Kd.R_far (p := ⟨gb342, 0, none⟩) (Kd.R_types HO315.out BK342.out (by decide)) (fun _ hk => hk.2) (.slice Ao38 t330.length co38)) (fun _ hk => hk.2) (.slice Ao43 t333.length co43)) (fun _ hk => hk.2) (.slice Ao44 t336.length co44)) (fun _ h_ => h_.1)))) hb); have n6_ := Aside0.mk (Kd.R_below (rC (a := by exact (Kd.R_mono (Kd.R_far (p := ⟨gb342, 2, none⟩) (Kd.R_far (p := ⟨gb342, 1, none⟩) (Kd.R_far (p := ⟨gb342, 0, none⟩) (Kd.R_types HO318.out BK342.out (by decide)) (fun _ hk => hk.2) (.slice Ao38 t330.length co38)) (fun _ hk => hk.2) (.slice Ao43 t333.length co43)) (fun _ hk => hk.2) (.slice Ao44 t336.length co44)) (fun _ h_ => h_.1)))) hb); have n7_ := Aside0.mk (Kd.R_below (rC (a := by exact (Kd.R_mono (Kd.R_far (p := ⟨gb342, 2, none⟩) (Kd.R_far (p := ⟨gb342, 1, none⟩) (Kd.R_far (p := ⟨gb342, 0, none⟩) (Kd.R_types HO322.out BK342.out (by decide)) (fun _ hk => hk.2) (.slice Ao38 t330.length co38)) (fun _ hk => hk.2) (.slice Ao43 t333.length co43)) (fun _ hk => hk.2) (.slice Ao44 t336.length co44)) (fun _ h_ => h_.1)))) hb); have n8_ := Aside0.mk (Kd.R_below (rC (a := by exact (Kd.R_mono (Kd.R_far (p := ⟨gb342, 2, none⟩) (Kd.R_far (p := ⟨gb342, 1, none⟩) (Kd.R_far (p := ⟨gb342, 0, none⟩) (Kd.R_types HO325.out BK342.out (by decide)) (fun _ hk => hk.2) (.slice Ao38 t330.length co38)) (fun _ hk => hk.2) (.slice Ao43 t333.length co43)) (fun _ hk => hk.2) (.slice Ao44 t336.length co44)) (fun _ h_ => h_.1)))) hb); have n9_ := Aside0.mk (Kd.R_below (rC (a := by exact (Kd.R_mono (Kd.R_far (p := ⟨gb342, 2, none⟩) (Kd.R_far (p := ⟨gb342, 1, none⟩) (Kd.R_far (p := ⟨gb342, 0, none⟩) (Kd.R_types HO328.out BK342.out (by decide)) (fun _ hk => hk.2) (.slice Ao38 t330.length co38)) (fun _ hk => hk.2) (.slice Ao43 t333.length co43)) (fun _ hk => hk.2) (.slice Ao44 t336.length co44)) (fun _ h_ => h_.1)))) hb); have n10_ := Aside0.mk (Kd.R_below (rC (a := by exact (Kd.R_mono (Kd.R_far (p := ⟨gb342, 2, none⟩) (Kd.R_far (p := ⟨gb342, 1, none⟩) (Kd.R_far (p := ⟨gb342, 0, none⟩) (Kd.R_types HO332.out BK342.out (by decide)) (fun _ hk => hk.2) (.slice Ao38 t330.length co38)) (fun _ hk => hk.2) (.slice Ao43 t333.length co43)) (fun _ hk => hk.2) (.slice Ao44 t336.length co44)) (fun _ h_ => h_.1)))) hb); have n11_ := Aside0.mk (Kd.R_below (rC (a := by exact (Kd.R_mono (Kd.R_far (p := ⟨gb342, 2, none⟩) (Kd.R_far (p := ⟨gb342, 1, none⟩) (Kd.R_far (p := ⟨gb342, 0, none⟩) (Kd.R_types HO335.out BK342.out (by decide)) (fun _ hk => hk.2) (.slice Ao38 t330.length co38)) (fun _ hk => hk.2) (.slice Ao43 t333.length co43)) (fun _ hk => hk.2) (.slice Ao44 t336.length co44)) (fun _ h_ => h_.1)))) hb); have n12_ := Aside0.mk (Kd.R_below (rC (a := by exact (Kd.R_mono (Kd.R_far (p := ⟨gb342, 2, none⟩) (Kd.R_far (p := ⟨gb342, 1, none⟩) (Kd.R_far (p := ⟨gb342, 0, none⟩) (Kd.R_types HO338.out BK342.out (by decide)) (fun _ hk => hk.2) (.slice Ao38 t330.length co38)) (fun _ hk => hk.2) (.slice Ao43 t333.length co43)) (fun _ hk => hk.2) (.slice Ao44 t336.length co44)) (fun _ h_ => h_.1)))) hb); have n13_ := Aside0.mk (Kd.R_below (rC (a := by exact (Kd.R_mono (Kd.R_far (p := ⟨gb342, 2, none⟩) (Kd.R_far (p := ⟨gb342, 1, none⟩) (Kd.R_far (p := ⟨gb342, 0, none⟩) (Kd.R_types HO341.out BK342.out (by decide)) (fun _ hk => hk.2) (.slice Ao38 t330.length co38)) (fun _ hk => hk.2) (.slice Ao43 t333.length co43)) (fun _ hk => hk.2) (.slice Ao44 t336.length co44)) (fun _ h_ => h_.1)))) hb); have n14_ := Aside0.mk (blk_below (g := gb296) (o := .cells #[.slice A0_0 l0_0.length c0_0, .slice A0_1 l0_1.length c0_1, .slice A0_2 l0_2.length c0_2] 25 (0, 0)) (by refine bC (a := ?_); refine blk_far ?_ NB296_342.out _; refine bC (a := ?_); refine blk_far ?_ NB296_342.out _; refine bC (a := ?_); refine blk_far ?_ NB296_342.out _; refine bC (a := ?_); exact BK296.out) hb); have n15_ := Aside0.mk (blk_below (g := gb319) (o := .cells #[.slice Ao22 t307.length co22, .slice Ao25 t310.length co25, .slice Ao26 t313.length co26] 29 (0, 0)) (by refine bC (a := ?_); refine blk_far ?_ NB319_342.out _; refine bC (a := ?_); refine blk_far ?_ NB319_342.out _; refine bC (a := ?_); refine blk_far ?_ NB319_342.out _; refine bC (a := ?_); exact BK319.out) hb); have n16_ := Aside0.mk (blk_below (g := gb329) (o := .cells #[.slice Ao30 t320.length co30, .slice Ao34 t323.length co34, .slice Ao35 t326.length co35] 29 (0, 0)) (by refine bC (a := ?_); refine blk_far ?_ NB329_342.out _; refine bC (a := ?_); refine blk_far ?_ NB329_342.out _; refine bC (a := ?_); refine blk_far ?_ NB329_342.out _; refine bC (a := ?_); exact BK329.out) hb); have n17_ := Aside0.mk (blk_below (g := gb342) (o := .cells #[.slice Ao38 t330.length co38, .slice Ao43 t333.length co43, .slice Ao44 t336.length co44] 29 (0, 0)) (by refine bC (a := ?_); refine blk_put (cs := #[.slice Ao38 t330.length co38, .slice Ao43 t333.length co43, .slice none 0 0]) ?_ 2 _ rfl; refine bC (a := ?_); refine blk_put (cs := #[.slice Ao38 t330.length co38, .slice none 0 0, .slice none 0 0]) ?_ 1 _ rfl; refine bC (a := ?_); refine blk_put (cs := #[.slice none 0 0, .slice none 0 0, .slice none 0 0]) ?_ 0 _ rfl; refine bC (a := ?_); exact BK342.out) hb); have n18_ := Aside0.mk (below_step (hA HB.out) hb); clear HO300; clear HO303; clear HO306; clear HO309; clear HO312; clear HO315; clear HO318; clear HO322; clear HO325; clear HO328; clear HO332; clear HO335; clear HO338; clear HO341; clear BK296; clear BK319; clear BK329; clear BK342; clear HB; have HO300 := n0_; have HO303 := n1_; have HO306 := n2_; have HO309 := n3_; have HO312 := n4_; have HO315 := n5_; have HO318 := n6_; have HO322 := n7_; have HO325 := n8_; have HO328 := n9_; have HO332 := n10_; have HO335 := n11_; have HO338 := n12_; have HO341 := n13_; have BK296 := n14_; have BK319 := n15_; have BK329 := n16_; have BK342 := n17_; have HB := n18_; clear n0_ n1_ n2_ n3_ n4_ n5_ n6_ n7_ n8_ n9_ n10_ n11_ n12_ n13_ n14_ n15_ n16_ n17_ n18_; (try clear hb); (try clear hb2); (try clear hk); (try clear hi); obtain ⟨Ao56, co56, eo56⟩ := Kd.R_slice HO341.out; subst eo56; obtain ⟨Ao57, co57, eo57⟩ := Kd.R_slice HO318.out; subst eo57) | (go_at_call 14; (with_reducible refine (laws_eqIntS.calls k _ _ t339 _ _ t316 t344 _ ?side1 ?side2 ?side3 ?side4 A47.out).mono ?_); (case side1 => repeat (first | exact (Kd.R_reads' HO341.out).2.2 | (with_reducible refine Kd.C_alloc ?_ _) | (with_reducible refine Kd.C_drewN ?_ _) | (with_reducible refine Kd.C_drew ?_))); (case side2 => exact (Kd.R_reads' HO341.out).2.1); (case side3 => repeat (first | exact (Kd.R_reads' HO318.out).2.2 | (with_reducible refine Kd.C_alloc ?_ _) | (with_reducible refine Kd.C_drewN ?_ _) | (with_reducible refine Kd.C_drew ?_))); (case side4 => exact (Kd.R_reads' HO318.out).2.1); rintro e w' ⟨rfl, ⟨nd, rfl⟩⟩))
    go_meet
    case rel => exact ⟨_, (!t344), (by first | rfl | (simp; done) | (simp [*]; done)), H', ⟨by first | omega | exact Nat.le_refl _⟩, ⟨by refine rC (a := ?_); exact Kd.R_mono HO318.out (fun _ hk => ⟨hk.2, ⟨hk.1.1.1.1.1.1.1.1, ⟨hk.1.1.1.1.1.1.1.2, ⟨hk.1.1.1.1.2, ⟨hk.1.1.1.2, ⟨hk.1.1.2, hk.1.2⟩⟩⟩⟩⟩⟩)⟩, ⟨by refine rC (a := ?_); exact Kd.R_mono HO341.out (fun _ hk => ⟨hk.1.1.2, ⟨hk.1.1.1.1.2, ⟨hk.1.1.1.2, ⟨hk.1.2, ⟨hk.2, ⟨hk.1.1.1.1.1.1.1.1, hk.1.1.1.1.1.1.1.2⟩⟩⟩⟩⟩⟩)⟩, ⟨by refine rC (a := ?_); exact Kd.R_mono HO309.out (fun _ hk => ⟨hk.1.2, hk.2⟩)⟩, ⟨by refine rC (a := ?_); exact Kd.R_mono HO312.out (fun _ hk => ⟨hk.1.1.1.1.1.1.1.2, ⟨hk.2, ⟨hk.1.1.1.1.1.1.1.1, ⟨hk.1.1.1.1.2, ⟨hk.1.1.1.2, ⟨hk.1.1.2, hk.1.2⟩⟩⟩⟩⟩⟩)⟩, ⟨by refine rC (a := ?_); exact Kd.R_mono HO315.out (fun _ hk => ⟨hk.1.1.1.1.1.1.1.2, ⟨hk.2, ⟨hk.1.1.1.1.1.1.1.1, ⟨hk.1.1.1.1.2, ⟨hk.1.1.1.2, ⟨hk.1.1.2, hk.1.2⟩⟩⟩⟩⟩⟩)⟩, ⟨by refine rC (a := ?_); exact Kd.R_mono HO322.out (fun _ hk => ⟨hk.1.2, hk.2⟩)⟩, ⟨by refine rC (a := ?_); exact Kd.R_mono HO325.out (fun _ hk => ⟨hk.1.1.1.2, ⟨hk.2, ⟨hk.1.1.1.1.1.2, ⟨hk.1.1.1.1.2, ⟨hk.1.1.1.1.1.1.1.1, ⟨hk.1.1.2, hk.1.2⟩⟩⟩⟩⟩⟩)⟩, ⟨by refine rC (a := ?_); exact Kd.R_mono HO328.out (fun _ hk => ⟨hk.1.1.1.2, ⟨hk.2, ⟨hk.1.1.1.1.1.2, ⟨hk.1.1.1.1.2, ⟨hk.1.1.1.1.1.1.1.1, ⟨hk.1.1.2, hk.1.2⟩⟩⟩⟩⟩⟩)⟩, ⟨by refine rC (a := ?_); exact Kd.R_mono HO332.out (fun _ hk => ⟨hk.1.2, hk.2⟩)⟩, ⟨by refine rC (a := ?_); exact Kd.R_mono HO335.out (fun _ hk => ⟨hk.1.1.2, ⟨hk.1.1.1.1.1.1.1.2, ⟨hk.1.1.1.1.2, ⟨hk.1.1.1.2, ⟨hk.1.2, ⟨hk.2, hk.1.1.1.1.1.1.1.1⟩⟩⟩⟩⟩⟩)⟩, ⟨by refine rC (a := ?_); exact Kd.R_mono HO338.out (fun _ hk => ⟨hk.1.1.2, ⟨hk.1.1.1.1.1.1.1.2, ⟨hk.1.1.1.1.2, ⟨hk.1.1.1.2, ⟨hk.1.2, ⟨hk.2, hk.1.1.1.1.1.1.1.1⟩⟩⟩⟩⟩⟩)⟩, ⟨by refine bC (a := ?_); exact BK296.out⟩, ⟨by refine bC (a := ?_); exact BK319.out⟩, ⟨by refine bC (a := ?_); exact BK329.out⟩, ⟨by refine bC (a := ?_); exact BK342.out⟩, ⟨hA HB.out⟩⟩
   ·replace c46 := Bool.eq_false_iff.mpr c46
    subst c46
    have H1 : (laws_FnExactMendBook.j0 k t316 t339 true l0_0 l0_1 l0_2 t307 t310 t313 t320 t323 t326 t330 t333 t336) = some r := by rw [if_neg (show ¬ (false = true) by decide)] at H; exact H
    clear H
    have H := H1
    clear H1
    have H' := Aside0.mk H
    clear H
    have hnb58 := NB342_296.out
    have hnc58 := NB296_342.out
    have hnb59 := NB342_319.out
    have hnc59 := NB319_342.out
    have hnb60 := NB342_329.out
    have hnc60 := NB329_342.out
    have hcz61_0 : w37.cell? ⟨gb342, 0, none⟩ = some (.slice none 0 0) := (blk_cell BK342.out 0).trans rfl
    have hcz61_1 : w37.cell? ⟨gb342, 1, none⟩ = some (.slice none 0 0) := (blk_cell BK342.out 1).trans rfl
    have hcz61_2 : w37.cell? ⟨gb342, 2, none⟩ = some (.slice none 0 0) := (blk_cell BK342.out 2).trans rfl
    have hfz61_0 := blk_frozen BK342.out 0
    have hfz61_1 := blk_frozen BK342.out 1
    have hfz61_2 := blk_frozen BK342.out 2
    have hnb62 := NB319_296.out
    have hnc62 := NB296_319.out
    have hnb63 := NB319_329.out
    have hnc63 := NB329_319.out
    have hcz64_0 : w37.cell? ⟨gb319, 0, none⟩ = some (.slice Ao22 t307.length co22) := (blk_cell BK319.out 0).trans rfl
    have hcz64_1 : w37.cell? ⟨gb319, 1, none⟩ = some (.slice Ao25 t310.length co25) := (blk_cell BK319.out 1).trans rfl
    have hcz64_2 : w37.cell? ⟨gb319, 2, none⟩ = some (.slice Ao26 t313.length co26) := (blk_cell BK319.out 2).trans rfl
    have hfz64_0 := blk_frozen BK319.out 0
    have hfz64_1 := blk_frozen BK319.out 1
    have hfz64_2 := blk_frozen BK319.out 2
    go_wp2_with (first | ((with_reducible refine gate_callee (f := 13) rfl ?_); refine goesL_ (some 34) rfl rfl Try.func13 (by kernel_rfl) rfl #[.agg #[.slice Ao38 t330.length co38, .slice Ao43 t333.length co43, .slice Ao44 t336.length co44], .agg #[.slice Ao22 t307.length co22, .slice Ao25 t310.length co25, .slice Ao26 t313.length co26]] rfl ar ?_; (with_reducible refine (laws_eqBook.calls k _ _ t330 _ _ t333 _ _ t336 _ _ t307 _ _ t310 _ _ t313 false _ ?side1 ?side2 ?side3 ?side4 ?side5 ?side6 ?side7 ?side8 ?side9 ?side10 ?side11 ?side12 A45.out).mono ?_); (case side1 => refine (Kd.R_reads' (e := 50) (base := w.heap.size) (ok := fun k_ => (((True ∧ some k_ ≠ (.slice Ao17 t298.length co17 : Value).ownBlock) ∧ some k_ ≠ (.slice Ao22 t307.length co22 : Value).ownBlock) ∧ some k_ ≠ (.slice Ao30 t320.length co30 : Value).ownBlock)) (n := t330.length) (c := co38) ?_).2.2; exact (rC (a := by exact (Kd.R_mono (Kd.R_far (p := ⟨gb342, 2, none⟩) (Kd.R_far (p := ⟨gb342, 1, none⟩) (Kd.R_far (p := ⟨gb342, 0, none⟩) (Kd.R_types HO332.out BK342.out (by decide)) (fun _ hk => hk.2) (.slice Ao38 t330.length co38)) (fun _ hk => hk.2) (.slice Ao43 t333.length co43)) (fun _ hk => hk.2) (.slice Ao44 t336.length co44)) (fun _ h_ => h_.1))))); (case side2 => exact (Kd.R_reads' HO332.out).2.1); (case side3 => refine (Kd.R_reads' (e := 3) (base := w.heap.size) (ok := fun k_ => ((((((((some k_ ≠ (.slice Ao44 t336.length co44 : Value).ownBlock ∧ some k_ ≠ (v340 : Value).ownBlock) ∧ some k_ ≠ (.slice Ao18 t301.length co18 : Value).ownBlock) ∧ some k_ ≠ (.slice Ao19 t304.length co19 : Value).ownBlock) ∧ some k_ ≠ (.slice Ao25 t310.length co25 : Value).ownBlock) ∧ some k_ ≠ (.slice Ao26 t313.length co26 : Value).ownBlock) ∧ some k_ ≠ (v317 : Value).ownBlock) ∧ some k_ ≠ (.slice Ao34 t323.length co34 : Value).ownBlock) ∧ some k_ ≠ (.slice Ao35 t326.length co35 : Value).ownBlock)) (n := t333.length) (c := co43) ?_).2.2; exact (rC (a := by exact (Kd.R_mono (Kd.R_far (p := ⟨gb342, 2, none⟩) (Kd.R_far (p := ⟨gb342, 1, none⟩) (Kd.R_far (p := ⟨gb342, 0, none⟩) (Kd.R_types HO335.out BK342.out (by decide)) (fun _ hk => hk.2) (.slice Ao38 t330.length co38)) (fun _ hk => hk.2) (.slice Ao43 t333.length co43)) (fun _ hk => hk.2) (.slice Ao44 t336.length co44)) (fun _ h_ => h_.1))))); (case side4 => exact (Kd.R_reads' HO335.out).2.1); (case side5 => refine (Kd.R_reads' (e := 3) (base := w.heap.size) (ok := fun k_ => ((((((((some k_ ≠ (.slice Ao43 t333.length co43 : Value).ownBlock ∧ some k_ ≠ (v340 : Value).ownBlock) ∧ some k_ ≠ (.slice Ao18 t301.length co18 : Value).ownBlock) ∧ some k_ ≠ (.slice Ao19 t304.length co19 : Value).ownBlock) ∧ some k_ ≠ (.slice Ao25 t310.length co25 : Value).ownBlock) ∧ some k_ ≠ (.slice Ao26 t313.length co26 : Value).ownBlock) ∧ some k_ ≠ (v317 : Value).ownBlock) ∧ some k_ ≠ (.slice Ao34 t323.length co34 : Value).ownBlock) ∧ some k_ ≠ (.slice Ao35 t326.length co35 : Value).ownBlock)) (n := t336.length) (c := co44) ?_).2.2; exact (rC (a := by exact (Kd.R_mono (Kd.R_far (p := ⟨gb342, 2, none⟩) (Kd.R_far (p := ⟨gb342, 1, none⟩) (Kd.R_far (p := ⟨gb342, 0, none⟩) (Kd.R_types HO338.out BK342.out (by decide)) (fun _ hk => hk.2) (.slice Ao38 t330.length co38)) (fun _ hk => hk.2) (.slice Ao43 t333.length co43)) (fun _ hk => hk.2) (.slice Ao44 t336.length co44)) (fun _ h_ => h_.1))))); (case side6 => exact (Kd.R_reads' HO338.out).2.1); (case side7 => refine (Kd.R_reads' (e := 50) (base := w.heap.size) (ok := fun k_ => (((True ∧ some k_ ≠ (.slice Ao17 t298.length co17 : Value).ownBlock) ∧ some k_ ≠ (.slice Ao30 t320.length co30 : Value).ownBlock) ∧ some k_ ≠ (.slice Ao38 t330.length co38 : Value).ownBlock)) (n := t307.length) (c := co22) ?_).2.2; exact (rC (a := by exact (Kd.R_mono (Kd.R_far (p := ⟨gb342, 2, none⟩) (Kd.R_far (p := ⟨gb342, 1, none⟩) (Kd.R_far (p := ⟨gb342, 0, none⟩) (Kd.R_types HO309.out BK342.out (by decide)) (fun _ hk => hk.2) (.slice Ao38 t330.length co38)) (fun _ hk => hk.2) (.slice Ao43 t333.length co43)) (fun _ hk => hk.2) (.slice Ao44 t336.length co44)) (fun _ h_ => h_.1))))); (case side8 => exact (Kd.R_reads' HO309.out).2.1); (case side9 => refine (Kd.R_reads' (e := 3) (base := w.heap.size) (ok := fun k_ => ((((((((some k_ ≠ (.slice Ao26 t313.length co26 : Value).ownBlock ∧ some k_ ≠ (v317 : Value).ownBlock) ∧ some k_ ≠ (.slice Ao18 t301.length co18 : Value).ownBlock) ∧ some k_ ≠ (.slice Ao19 t304.length co19 : Value).ownBlock) ∧ some k_ ≠ (.slice Ao34 t323.length co34 : Value).ownBlock) ∧ some k_ ≠ (.slice Ao35 t326.length co35 : Value).ownBlock) ∧ some k_ ≠ (.slice Ao43 t333.length co43 : Value).ownBlock) ∧ some k_ ≠ (.slice Ao44 t336.length co44 : Value).ownBlock) ∧ some k_ ≠ (v340 : Value).ownBlock)) (n := t310.length) (c := co25) ?_).2.2; exact (rC (a := by exact (Kd.R_mono (Kd.R_far (p := ⟨gb342, 2, none⟩) (Kd.R_far (p := ⟨gb342, 1, none⟩) (Kd.R_far (p := ⟨gb342, 0, none⟩) (Kd.R_types HO312.out BK342.out (by decide)) (fun _ hk => hk.2) (.slice Ao38 t330.length co38)) (fun _ hk => hk.2) (.slice Ao43 t333.length co43)) (fun _ hk => hk.2) (.slice Ao44 t336.length co44)) (fun _ h_ => h_.1))))); (case side10 => exact (Kd.R_reads' HO312.out).2.1); (case side11 => refine (Kd.R_reads' (e := 3) (base := w.heap.size) (ok := fun k_ => ((((((((some k_ ≠ (.slice Ao25 t310.length co25 : Value).ownBlock ∧ some k_ ≠ (v317 : Value).ownBlock) ∧ some k_ ≠ (.slice Ao18 t301.length co18 : Value).ownBlock) ∧ some k_ ≠ (.slice Ao19 t304.length co19 : Value).ownBlock) ∧ some k_ ≠ (.slice Ao34 t323.length co34 : Value).ownBlock) ∧ some k_ ≠ (.slice Ao35 t326.length co35 : Value).ownBlock) ∧ some k_ ≠ (.slice Ao43 t333.length co43 : Value).ownBlock) ∧ some k_ ≠ (.slice Ao44 t336.length co44 : Value).ownBlock) ∧ some k_ ≠ (v340 : Value).ownBlock)) (n := t313.length) (c := co26) ?_).2.2; exact (rC (a := by exact (Kd.R_mono (Kd.R_far (p := ⟨gb342, 2, none⟩) (Kd.R_far (p := ⟨gb342, 1, none⟩) (Kd.R_far (p := ⟨gb342, 0, none⟩) (Kd.R_types HO315.out BK342.out (by decide)) (fun _ hk => hk.2) (.slice Ao38 t330.length co38)) (fun _ hk => hk.2) (.slice Ao43 t333.length co43)) (fun _ hk => hk.2) (.slice Ao44 t336.length co44)) (fun _ h_ => h_.1))))); (case side12 => exact (Kd.R_reads' HO315.out).2.1); rintro e w65 ⟨rfl, hb⟩; refine ⟨_, rfl, ?_⟩; have n0_ := Aside0.mk (Kd.R_below (rC (a := by exact (Kd.R_mono (Kd.R_far (p := ⟨gb342, 2, none⟩) (Kd.R_far (p := ⟨gb342, 1, none⟩) (Kd.R_far (p := ⟨gb342, 0, none⟩) (Kd.R_types HO300.out BK342.out (by decide)) (fun _ hk => hk.2) (.slice Ao38 t330.length co38)) (fun _ hk => hk.2) (.slice Ao43 t333.length co43)) (fun _ hk => hk.2) (.slice Ao44 t336.length co44)) (fun _ h_ => h_.1)))) hb); have n1_ := Aside0.mk (Kd.R_below (rC (a := by exact (Kd.R_mono (Kd.R_far (p := ⟨gb342, 2, none⟩) (Kd.R_far (p := ⟨gb342, 1, none⟩) (Kd.R_far (p := ⟨gb342, 0, none⟩) (Kd.R_types HO303.out BK342.out (by decide)) (fun _ hk => hk.2) (.slice Ao38 t330.length co38)) (fun _ hk => hk.2) (.slice Ao43 t333.length co43)) (fun _ hk => hk.2) (.slice Ao44 t336.length co44)) (fun _ h_ => h_.1)))) hb); have n2_ := Aside0.mk (Kd.R_below (rC (a := by exact (Kd.R_mono (Kd.R_far (p := ⟨gb342, 2, none⟩) (Kd.R_far (p := ⟨gb342, 1, none⟩) (Kd.R_far (p := ⟨gb342, 0, none⟩) (Kd.R_types HO306.out BK342.out (by decide)) (fun _ hk => hk.2) (.slice Ao38 t330.length co38)) (fun _ hk => hk.2) (.slice Ao43 t333.length co43)) (fun _ hk => hk.2) (.slice Ao44 t336.length co44)) (fun _ h_ => h_.1)))) hb); have n3_ := Aside0.mk (Kd.R_below (rC (a := by exact (Kd.R_mono (Kd.R_far (p := ⟨gb342, 2, none⟩) (Kd.R_far (p := ⟨gb342, 1, none⟩) (Kd.R_far (p := ⟨gb342, 0, none⟩) (Kd.R_types HO309.out BK342.out (by decide)) (fun _ hk => hk.2) (.slice Ao38 t330.length co38)) (fun _ hk => hk.2) (.slice Ao43 t333.length co43)) (fun _ hk => hk.2) (.slice Ao44 t336.length co44)) (fun _ h_ => h_.1)))) hb); have n4_ := Aside0.mk (Kd.R_below (rC (a := by exact (Kd.R_mono (Kd.R_far (p := ⟨gb342, 2, none⟩) (Kd.R_far (p := ⟨gb342, 1, none⟩) (Kd.R_far (p := ⟨gb342, 0, none⟩) (Kd.R_types HO312.out BK342.out (by decide)) (fun _ hk => hk.2) (.slice Ao38 t330.length co38)) (fun _ hk => hk.2) (.slice Ao43 t333.length co43)) (fun _ hk => hk.2) (.slice Ao44 t336.length co44)) (fun _ h_ => h_.1)))) hb); have n5_ := Aside0.mk (Kd.R_below (rC (a := by exact (Kd.R_mono (Kd.R_far (p := ⟨gb342, 2, none⟩) (Kd.R_far (p := ⟨gb342, 1, none⟩) (Kd.R_far (p := ⟨gb342, 0, none⟩) (Kd.R_types HO315.out BK342.out (by decide)) (fun _ hk => hk.2) (.slice Ao38 t330.length co38)) (fun _ hk => hk.2) (.slice Ao43 t333.length co43)) (fun _ hk => hk.2) (.slice Ao44 t336.length co44)) (fun _ h_ => h_.1)))) hb); have n6_ := Aside0.mk (Kd.R_below (rC (a := by exact (Kd.R_mono (Kd.R_far (p := ⟨gb342, 2, none⟩) (Kd.R_far (p := ⟨gb342, 1, none⟩) (Kd.R_far (p := ⟨gb342, 0, none⟩) (Kd.R_types HO318.out BK342.out (by decide)) (fun _ hk => hk.2) (.slice Ao38 t330.length co38)) (fun _ hk => hk.2) (.slice Ao43 t333.length co43)) (fun _ hk => hk.2) (.slice Ao44 t336.length co44)) (fun _ h_ => h_.1)))) hb); have n7_ := Aside0.mk (Kd.R_below (rC (a := by exact (Kd.R_mono (Kd.R_far (p := ⟨gb342, 2, none⟩) (Kd.R_far (p := ⟨gb342, 1, none⟩) (Kd.R_far (p := ⟨gb342, 0, none⟩) (Kd.R_types HO322.out BK342.out (by decide)) (fun _ hk => hk.2) (.slice Ao38 t330.length co38)) (fun _ hk => hk.2) (.slice Ao43 t333.length co43)) (fun _ hk => hk.2) (.slice Ao44 t336.length co44)) (fun _ h_ => h_.1)))) hb); have n8_ := Aside0.mk (Kd.R_below (rC (a := by exact (Kd.R_mono (Kd.R_far (p := ⟨gb342, 2, none⟩) (Kd.R_far (p := ⟨gb342, 1, none⟩) (Kd.R_far (p := ⟨gb342, 0, none⟩) (Kd.R_types HO325.out BK342.out (by decide)) (fun _ hk => hk.2) (.slice Ao38 t330.length co38)) (fun _ hk => hk.2) (.slice Ao43 t333.length co43)) (fun _ hk => hk.2) (.slice Ao44 t336.length co44)) (fun _ h_ => h_.1)))) hb); have n9_ := Aside0.mk (Kd.R_below (rC (a := by exact (Kd.R_mono (Kd.R_far (p := ⟨gb342, 2, none⟩) (Kd.R_far (p := ⟨gb342, 1, none⟩) (Kd.R_far (p := ⟨gb342, 0, none⟩) (Kd.R_types HO328.out BK342.out (by decide)) (fun _ hk => hk.2) (.slice Ao38 t330.length co38)) (fun _ hk => hk.2) (.slice Ao43 t333.length co43)) (fun _ hk => hk.2) (.slice Ao44 t336.length co44)) (fun _ h_ => h_.1)))) hb); have n10_ := Aside0.mk (Kd.R_below (rC (a := by exact (Kd.R_mono (Kd.R_far (p := ⟨gb342, 2, none⟩) (Kd.R_far (p := ⟨gb342, 1, none⟩) (Kd.R_far (p := ⟨gb342, 0, none⟩) (Kd.R_types HO332.out BK342.out (by decide)) (fun _ hk => hk.2) (.slice Ao38 t330.length co38)) (fun _ hk => hk.2) (.slice Ao43 t333.length co43)) (fun _ hk => hk.2) (.slice Ao44 t336.length co44)) (fun _ h_ => h_.1)))) hb); have n11_ := Aside0.mk (Kd.R_below (rC (a := by exact (Kd.R_mono (Kd.R_far (p := ⟨gb342, 2, none⟩) (Kd.R_far (p := ⟨gb342, 1, none⟩) (Kd.R_far (p := ⟨gb342, 0, none⟩) (Kd.R_types HO335.out BK342.out (by decide)) (fun _ hk => hk.2) (.slice Ao38 t330.length co38)) (fun _ hk => hk.2) (.slice Ao43 t333.length co43)) (fun _ hk => hk.2) (.slice Ao44 t336.length co44)) (fun _ h_ => h_.1)))) hb); have n12_ := Aside0.mk (Kd.R_below (rC (a := by exact (Kd.R_mono (Kd.R_far (p := ⟨gb342, 2, none⟩) (Kd.R_far (p := ⟨gb342, 1, none⟩) (Kd.R_far (p := ⟨gb342, 0, none⟩) (Kd.R_types HO338.out BK342.out (by decide)) (fun _ hk => hk.2) (.slice Ao38 t330.length co38)) (fun _ hk => hk.2) (.slice Ao43 t333.length co43)) (fun _ hk => hk.2) (.slice Ao44 t336.length co44)) (fun _ h_ => h_.1)))) hb); have n13_ := Aside0.mk (Kd.R_below (rC (a := by exact (Kd.R_mono (Kd.R_far (p := ⟨gb342, 2, none⟩) (Kd.R_far (p := ⟨gb342, 1, none⟩) (Kd.R_far (p := ⟨gb342, 0, none⟩) (Kd.R_types HO341.out BK342.out (by decide)) (fun _ hk => hk.2) (.slice Ao38 t330.length co38)) (fun _ hk => hk.2) (.slice Ao43 t333.length co43)) (fun _ hk => hk.2) (.slice Ao44 t336.length co44)) (fun _ h_ => h_.1)))) hb); have n14_ := Aside0.mk (blk_below (g := gb296) (o := .cells #[.slice A0_0 l0_0.length c0_0, .slice A0_1 l0_1.length c0_1, .slice A0_2 l0_2.length c0_2] 25 (0, 0)) (by refine bC (a := ?_); refine blk_far ?_ NB296_342.out _; refine bC (a := ?_); refine blk_far ?_ NB296_342.out _; refine bC (a := ?_); refine blk_far ?_ NB296_342.out _; refine bC (a := ?_); exact BK296.out) hb); have n15_ := Aside0.mk (blk_below (g := gb319) (o := .cells #[.slice Ao22 t307.length co22, .slice Ao25 t310.length co25, .slice Ao26 t313.length co26] 29 (0, 0)) (by refine bC (a := ?_); refine blk_far ?_ NB319_342.out _; refine bC (a := ?_); refine blk_far ?_ NB319_342.out _; refine bC (a := ?_); refine blk_far ?_ NB319_342.out _; refine bC (a := ?_); exact BK319.out) hb); have n16_ := Aside0.mk (blk_below (g := gb329) (o := .cells #[.slice Ao30 t320.length co30, .slice Ao34 t323.length co34, .slice Ao35 t326.length co35] 29 (0, 0)) (by refine bC (a := ?_); refine blk_far ?_ NB329_342.out _; refine bC (a := ?_); refine blk_far ?_ NB329_342.out _; refine bC (a := ?_); refine blk_far ?_ NB329_342.out _; refine bC (a := ?_); exact BK329.out) hb); have n17_ := Aside0.mk (blk_below (g := gb342) (o := .cells #[.slice Ao38 t330.length co38, .slice Ao43 t333.length co43, .slice Ao44 t336.length co44] 29 (0, 0)) (by refine bC (a := ?_); refine blk_put (cs := #[.slice Ao38 t330.length co38, .slice Ao43 t333.length co43, .slice none 0 0]) ?_ 2 _ rfl; refine bC (a := ?_); refine blk_put (cs := #[.slice Ao38 t330.length co38, .slice none 0 0, .slice none 0 0]) ?_ 1 _ rfl; refine bC (a := ?_); refine blk_put (cs := #[.slice none 0 0, .slice none 0 0, .slice none 0 0]) ?_ 0 _ rfl; refine bC (a := ?_); exact BK342.out) hb); have n18_ := Aside0.mk (below_step (hA HB.out) hb); clear HO300; clear HO303; clear HO306; clear HO309; clear HO312; clear HO315; clear HO318; clear HO322; clear HO325; clear HO328; clear HO332; clear HO335; clear HO338; clear HO341; clear BK296; clear BK319; clear BK329; clear BK342; clear HB; have HO300 := n0_; have HO303 := n1_; have HO306 := n2_; have HO309 := n3_; have HO312 := n4_; have HO315 := n5_; have HO318 := n6_; have HO322 := n7_; have HO325 := n8_; have HO328 := n9_; have HO332 := n10_; have HO335 := n11_; have HO338 := n12_; have HO341 := n13_; have BK296 := n14_; have BK319 := n15_; have BK329 := n16_; have BK342 := n17_; have HB := n18_; clear n0_ n1_ n2_ n3_ n4_ n5_ n6_ n7_ n8_ n9_ n10_ n11_ n12_ n13_ n14_ n15_ n16_ n17_ n18_; (try clear hb); (try clear hb2); (try clear hk); (try clear hi)))
    go_meet
    case rel => exact ⟨_, (true), (by first | rfl | (simp; done) | (simp [*]; done)), H', ⟨by first | omega | exact Nat.le_refl _⟩, ⟨by refine rC (a := ?_); exact Kd.R_mono HO318.out (fun _ hk => ⟨hk.2, ⟨hk.1.1.1.1.1.1.1.1, ⟨hk.1.1.1.1.1.1.1.2, ⟨hk.1.1.1.1.2, ⟨hk.1.1.1.2, ⟨hk.1.1.2, hk.1.2⟩⟩⟩⟩⟩⟩)⟩, ⟨by refine rC (a := ?_); exact Kd.R_mono HO341.out (fun _ hk => ⟨hk.1.1.2, ⟨hk.1.1.1.1.2, ⟨hk.1.1.1.2, ⟨hk.1.2, ⟨hk.2, ⟨hk.1.1.1.1.1.1.1.1, hk.1.1.1.1.1.1.1.2⟩⟩⟩⟩⟩⟩)⟩, ⟨by refine rC (a := ?_); exact Kd.R_mono HO309.out (fun _ hk => ⟨hk.1.2, hk.2⟩)⟩, ⟨by refine rC (a := ?_); exact Kd.R_mono HO312.out (fun _ hk => ⟨hk.1.1.1.1.1.1.1.2, ⟨hk.2, ⟨hk.1.1.1.1.1.1.1.1, ⟨hk.1.1.1.1.2, ⟨hk.1.1.1.2, ⟨hk.1.1.2, hk.1.2⟩⟩⟩⟩⟩⟩)⟩, ⟨by refine rC (a := ?_); exact Kd.R_mono HO315.out (fun _ hk => ⟨hk.1.1.1.1.1.1.1.2, ⟨hk.2, ⟨hk.1.1.1.1.1.1.1.1, ⟨hk.1.1.1.1.2, ⟨hk.1.1.1.2, ⟨hk.1.1.2, hk.1.2⟩⟩⟩⟩⟩⟩)⟩, ⟨by refine rC (a := ?_); exact Kd.R_mono HO322.out (fun _ hk => ⟨hk.1.2, hk.2⟩)⟩, ⟨by refine rC (a := ?_); exact Kd.R_mono HO325.out (fun _ hk => ⟨hk.1.1.1.2, ⟨hk.2, ⟨hk.1.1.1.1.1.2, ⟨hk.1.1.1.1.2, ⟨hk.1.1.1.1.1.1.1.1, ⟨hk.1.1.2, hk.1.2⟩⟩⟩⟩⟩⟩)⟩, ⟨by refine rC (a := ?_); exact Kd.R_mono HO328.out (fun _ hk => ⟨hk.1.1.1.2, ⟨hk.2, ⟨hk.1.1.1.1.1.2, ⟨hk.1.1.1.1.2, ⟨hk.1.1.1.1.1.1.1.1, ⟨hk.1.1.2, hk.1.2⟩⟩⟩⟩⟩⟩)⟩, ⟨by refine rC (a := ?_); exact Kd.R_mono HO332.out (fun _ hk => ⟨hk.1.2, hk.2⟩)⟩, ⟨by refine rC (a := ?_); exact Kd.R_mono HO335.out (fun _ hk => ⟨hk.1.1.2, ⟨hk.1.1.1.1.1.1.1.2, ⟨hk.1.1.1.1.2, ⟨hk.1.1.1.2, ⟨hk.1.2, ⟨hk.2, hk.1.1.1.1.1.1.1.1⟩⟩⟩⟩⟩⟩)⟩, ⟨by refine rC (a := ?_); exact Kd.R_mono HO338.out (fun _ hk => ⟨hk.1.1.2, ⟨hk.1.1.1.1.1.1.1.2, ⟨hk.1.1.1.1.2, ⟨hk.1.1.1.2, ⟨hk.1.2, ⟨hk.2, hk.1.1.1.1.1.1.1.1⟩⟩⟩⟩⟩⟩)⟩, ⟨by refine bC (a := ?_); exact BK296.out⟩, ⟨by refine bC (a := ?_); exact BK319.out⟩, ⟨by refine bC (a := ?_); exact BK329.out⟩, ⟨by refine bC (a := ?_); exact BK342.out⟩, ⟨hA HB.out⟩⟩
  case rest =>
   clear HC11
   try clear c1
   try clear c2
   try clear p2
   try clear c3
   try clear c3b0
   try clear c4
   try clear c5
   try clear c6
   try clear c9
   try clear c10
   try clear c11
   try clear c12
   try clear c13
   try clear c23
   try clear c31
   try clear c32
   try clear c39
   try clear c40
   try clear c41
   try clear c46
   try clear c48
   try clear c49
   try clear c50
   try clear c52
   try clear c53
   try clear c58
   try clear c59
   try clear c60
   try clear c62
   try clear c63
   try clear hcz13_0
   try clear hcz13_1
   try clear hcz13_2
   try clear hcz15_0
   try clear hcz15_1
   try clear hcz15_2
   try clear hcz24_0
   try clear hcz24_1
   try clear hcz24_2
   try clear hcz27_0
   try clear hcz27_1
   try clear hcz27_2
   try clear hcz33_0
   try clear hcz33_1
   try clear hcz33_2
   try clear hcz42_0
   try clear hcz42_1
   try clear hcz42_2
   try clear hcz51_0
   try clear hcz51_1
   try clear hcz51_2
   try clear hcz54_0
   try clear hcz54_1
   try clear hcz54_2
   try clear hcz5_0
   try clear hcz5_1
   try clear hcz5_2
   try clear hcz61_0
   try clear hcz61_1
   try clear hcz61_2
   try clear hcz64_0
   try clear hcz64_1
   try clear hcz64_2
   try clear hfz13_0
   try clear hfz13_1
   try clear hfz13_2
   try clear hfz15_0
   try clear hfz15_1
   try clear hfz15_2
   try clear hfz24_0
   try clear hfz24_1
   try clear hfz24_2
   try clear hfz27_0
   try clear hfz27_1
   try clear hfz27_2
   try clear hfz33_0
   try clear hfz33_1
   try clear hfz33_2
   try clear hfz42_0
   try clear hfz42_1
   try clear hfz42_2
   try clear hfz51_0
   try clear hfz51_1
   try clear hfz51_2
   try clear hfz54_0
   try clear hfz54_1
   try clear hfz54_2
   try clear hfz5_0
   try clear hfz5_1
   try clear hfz5_2
   try clear hfz61_0
   try clear hfz61_1
   try clear hfz61_2
   try clear hfz64_0
   try clear hfz64_1
   try clear hfz64_2
   obtain ⟨kq, x41_10, rfl, HA, HJ10, HO_5, HO_8, HO_320000, HO_320001, HO_320002, HO_330000, HO_330001, HO_330002, HO_343000, HO_343001, HO_343002, BK296, BK319, BK329, BK342, HB⟩ := hcut
   cases kq with
   | zero => exact absurd HA.out (by simp [laws_FnExactMendBook.j0])
   | succ kj10 =>
    have H := HA.out
    clear HA
    simp only [laws_FnExactMendBook.j0] at H
    by_cases c66 : x41_10 = true
    ·subst c66
     have H1 : (some false) = some r := by rw [if_pos rfl] at H; exact H
     clear H
     have H := H1
     clear H1
     obtain rfl := Option.some.inj H
     go_wp2
     go_ret
     exact ⟨by first | rfl | (simp [errW_none, errW_some] <;> rfl) | (simp [*, errW_none, errW_some] <;> rfl), hA HB.out⟩
    ·replace c66 := Bool.eq_false_iff.mpr c66
     subst c66
     have H1 : ((laws_toBook.f kj10 l0_0 l0_1 l0_2).bind fun bt345 => ((laws_eqBook.f kj10 t320 t323 t326 bt345.1 bt345.2.1 bt345.2.2).bind fun t354 => (if t354 = true then ((laws_markBook.f kj10 t320 t323 t326 1).bind fun bt355 => (if bt355.1 < 0 then (laws_FnExactMendBook.j1 kj10 t316 t339 true l0_0 l0_1 l0_2 t307 t310 t313 t330 t333 t336) else ((laws_eqBook.f kj10 t330 t333 t336 t307 t310 t313).bind fun t359 => (if t359 = true then ((laws_eqIntS.f kj10 t339 t316).bind fun t360 => (laws_FnExactMendBook.j1 kj10 t316 t339 (!t360) l0_0 l0_1 l0_2 t307 t310 t313 t330 t333 t336)) else (laws_FnExactMendBook.j1 kj10 t316 t339 true l0_0 l0_1 l0_2 t307 t310 t313 t330 t333 t336))))) else (some false)))) = some r := by rw [if_neg (show ¬ (false = true) by decide)] at H; exact H
     clear H
     have H := H1
     clear H1
     replace H := Option.bind_eq_some_iff.mp H
     obtain ⟨⟨t345, t348, t351⟩, A670, H⟩ := H
     replace H : ((laws_eqBook.f kj10 t320 t323 t326 t345 t348 t351).bind fun t354 => (if t354 = true then ((laws_markBook.f kj10 t320 t323 t326 1).bind fun bt355 => (if bt355.1 < 0 then (laws_FnExactMendBook.j1 kj10 t316 t339 true l0_0 l0_1 l0_2 t307 t310 t313 t330 t333 t336) else ((laws_eqBook.f kj10 t330 t333 t336 t307 t310 t313).bind fun t359 => (if t359 = true then ((laws_eqIntS.f kj10 t339 t316).bind fun t360 => (laws_FnExactMendBook.j1 kj10 t316 t339 (!t360) l0_0 l0_1 l0_2 t307 t310 t313 t330 t333 t336)) else (laws_FnExactMendBook.j1 kj10 t316 t339 true l0_0 l0_1 l0_2 t307 t310 t313 t330 t333 t336))))) else (some false))) = some r := H
     have A67 := Aside0.mk A670
     clear A670
     replace H := Option.bind_eq_some_iff.mp H
     obtain ⟨t354, A680, H⟩ := H
     replace H : (if t354 = true then ((laws_markBook.f kj10 t320 t323 t326 1).bind fun bt355 => (if bt355.1 < 0 then (laws_FnExactMendBook.j1 kj10 t316 t339 true l0_0 l0_1 l0_2 t307 t310 t313 t330 t333 t336) else ((laws_eqBook.f kj10 t330 t333 t336 t307 t310 t313).bind fun t359 => (if t359 = true then ((laws_eqIntS.f kj10 t339 t316).bind fun t360 => (laws_FnExactMendBook.j1 kj10 t316 t339 (!t360) l0_0 l0_1 l0_2 t307 t310 t313 t330 t333 t336)) else (laws_FnExactMendBook.j1 kj10 t316 t339 true l0_0 l0_1 l0_2 t307 t310 t313 t330 t333 t336))))) else (some false)) = some r := H
     have A68 := Aside0.mk A680
     clear A680
     by_cases c69 : t354 = true
     ·subst c69
      have H1 : ((laws_markBook.f kj10 t320 t323 t326 1).bind fun bt355 => (if bt355.1 < 0 then (laws_FnExactMendBook.j1 kj10 t316 t339 true l0_0 l0_1 l0_2 t307 t310 t313 t330 t333 t336) else ((laws_eqBook.f kj10 t330 t333 t336 t307 t310 t313).bind fun t359 => (if t359 = true then ((laws_eqIntS.f kj10 t339 t316).bind fun t360 => (laws_FnExactMendBook.j1 kj10 t316 t339 (!t360) l0_0 l0_1 l0_2 t307 t310 t313 t330 t333 t336)) else (laws_FnExactMendBook.j1 kj10 t316 t339 true l0_0 l0_1 l0_2 t307 t310 t313 t330 t333 t336))))) = some r := by rw [if_pos rfl] at H; exact H
      clear H
      have H := H1
      clear H1
      replace H := Option.bind_eq_some_iff.mp H
      obtain ⟨⟨t355, t356, t357, t358⟩, A700, H⟩ := H
      replace H : (if t355 < 0 then (laws_FnExactMendBook.j1 kj10 t316 t339 true l0_0 l0_1 l0_2 t307 t310 t313 t330 t333 t336) else ((laws_eqBook.f kj10 t330 t333 t336 t307 t310 t313).bind fun t359 => (if t359 = true then ((laws_eqIntS.f kj10 t339 t316).bind fun t360 => (laws_FnExactMendBook.j1 kj10 t316 t339 (!t360) l0_0 l0_1 l0_2 t307 t310 t313 t330 t333 t336)) else (laws_FnExactMendBook.j1 kj10 t316 t339 true l0_0 l0_1 l0_2 t307 t310 t313 t330 t333 t336)))) = some r := H
      have A70 := Aside0.mk A700
      clear A700
      have HC71 := Aside0.mk H
      clear H
      try go_wp2
      have n0_ := Aside0.mk (Kd.R_drew HO_5.out)
      have n1_ := Aside0.mk (Kd.R_drew HO_8.out)
      have n2_ := Aside0.mk (Kd.R_drew HO_320000.out)
      have n3_ := Aside0.mk (Kd.R_drew HO_320001.out)
      have n4_ := Aside0.mk (Kd.R_drew HO_320002.out)
      have n5_ := Aside0.mk (Kd.R_drew HO_330000.out)
      have n6_ := Aside0.mk (Kd.R_drew HO_330001.out)
      have n7_ := Aside0.mk (Kd.R_drew HO_330002.out)
      have n8_ := Aside0.mk (Kd.R_drew HO_343000.out)
      have n9_ := Aside0.mk (Kd.R_drew HO_343001.out)
      have n10_ := Aside0.mk (Kd.R_drew HO_343002.out)
      have n11_ := Aside0.mk (blk_drew BK296.out)
      have n12_ := Aside0.mk (blk_drew BK319.out)
      have n13_ := Aside0.mk (blk_drew BK329.out)
      have n14_ := Aside0.mk (blk_drew BK342.out)
      have n15_ := Aside0.mk (below_drew1 HB.out)
      clear HO_5
      clear HO_8
      clear HO_320000
      clear HO_320001
      clear HO_320002
      clear HO_330000
      clear HO_330001
      clear HO_330002
      clear HO_343000
      clear HO_343001
      clear HO_343002
      clear BK296
      clear BK319
      clear BK329
      clear BK342
      clear HB
      have HO_5 := n0_
      have HO_8 := n1_
      have HO_320000 := n2_
      have HO_320001 := n3_
      have HO_320002 := n4_
      have HO_330000 := n5_
      have HO_330001 := n6_
      have HO_330002 := n7_
      have HO_343000 := n8_
      have HO_343001 := n9_
      have HO_343002 := n10_
      have BK296 := n11_
      have BK319 := n12_
      have BK329 := n13_
      have BK342 := n14_
      have HB := n15_
      clear n0_ n1_ n2_ n3_ n4_ n5_ n6_ n7_ n8_ n9_ n10_ n11_ n12_ n13_ n14_ n15_
      refine start_ (n := 5) (S := fun w' => w'.cell? ⟨gb329, 0, none⟩ = some (.slice Ao30 t320.length co30) ∧ w'.cell? ⟨gb329, 1, none⟩ = some (.slice Ao34 t323.length co34) ∧ w'.cell? ⟨gb329, 2, none⟩ = some (.slice Ao35 t326.length co35) ∧ w'.cell? ⟨gb296, 0, none⟩ = some (.slice A0_0 l0_0.length c0_0) ∧ w'.cell? ⟨gb296, 1, none⟩ = some (.slice A0_1 l0_1.length c0_1) ∧ w'.cell? ⟨gb296, 2, none⟩ = some (.slice A0_2 l0_2.length c0_2)) (ds := []) #[false, false, false, false, false] (by kernel_rfl) rfl rfl ⟨(blk_cell BK329.out 0).trans rfl, (blk_cell BK329.out 1).trans rfl, (blk_cell BK329.out 2).trans rfl, (blk_cell BK296.out 0).trans rfl, (blk_cell BK296.out 1).trans rfl, (blk_cell BK296.out 2).trans rfl⟩ (fun hHeld => ?_)
      generalize wc.drew = w72 at HO_5 HO_8 HO_320000 HO_320001 HO_320002 HO_330000 HO_330001 HO_330002 HO_343000 HO_343001 HO_343002 BK296 BK319 BK329 BK342 HB hHeld ⊢
      refine take_ (i := 0) (N := some 42) (v := ?_) (a' := ?_) #[true, false, false, false, false] rfl rfl (by kernel_rfl) (fun _ _ _ h => h) (Or.inl ⟨by rfl, ?_⟩) hHeld ?_ ?_
      rotate_left
      ·rintro w' ⟨s0, s1, s2, s3, s4, s5⟩
       go_simp
       with_reducible rfl
      rotate_left
      ·simp only [Act.put, List.setIfInBounds_toArray, List.set_cons_zero, List.set_cons_succ, i64_w, i32_w]
       rfl
      refine take_ (i := 1) (N := some 43) (v := ?_) (a' := ?_) #[true, true, false, false, false] rfl rfl (by kernel_rfl) (fun _ _ _ h => h) (Or.inl ⟨by rfl, ?_⟩) hHeld ?_ ?_
      rotate_left
      ·rintro w' ⟨s0, s1, s2, s3, s4, s5⟩
       go_simp
       with_reducible rfl
      rotate_left
      ·simp only [Act.put, List.setIfInBounds_toArray, List.set_cons_zero, List.set_cons_succ, i64_w, i32_w]
       rfl
      refine one_ (i := 2) (N := some 44) #[true, true, true, false, false] rfl rfl (by kernel_rfl) (by decide) (fun K hK => ?_)
      refine goes_ Try.func11 (by kernel_rfl) rfl #[.agg #[.slice A0_0 l0_0.length c0_0, .slice A0_1 l0_1.length c0_1, .slice A0_2 l0_2.length c0_2]] (by rfl) rfl rfl ar ?_
      with_reducible refine (laws_toBook.calls kj10 _ _ l0_0 _ _ l0_1 _ _ l0_2 t345 t348 t351 _ ?side1 ?side2 ?side3 ?side4 ?side5 ?side6 A67.out).mono ?_
      (case side1 => repeat (first | exact (Kd.C_below HR0_0.out HB.out) | (with_reducible refine Kd.C_alloc ?_ _) | (with_reducible refine Kd.C_drewN ?_ _) | (with_reducible refine Kd.C_drew ?_)))
      (case side2 => exact HC0_0.out)
      (case side3 => repeat (first | exact (Kd.C_below HR0_1.out HB.out) | (with_reducible refine Kd.C_alloc ?_ _) | (with_reducible refine Kd.C_drewN ?_ _) | (with_reducible refine Kd.C_drew ?_)))
      (case side4 => exact HC0_1.out)
      (case side5 => repeat (first | exact (Kd.C_below HR0_2.out HB.out) | (with_reducible refine Kd.C_alloc ?_ _) | (with_reducible refine Kd.C_drewN ?_ _) | (with_reducible refine Kd.C_drew ?_)))
      (case side6 => exact HC0_2.out)
      rintro e w73 ⟨v346, v349, v352, rfl, ho0, ho1, ho2, hb⟩
      refine ⟨_, rfl, ?_⟩
      have n0_ := Aside0.mk (Kd.R_mono (Kd.R_told (Kd.R_told (Kd.R_old (rA HO_5.out) hb) (Kd.R_base ho1)) (Kd.R_base ho2)) (fun _ h_ => h_.1))
      have n1_ := Aside0.mk (Kd.R_mono (Kd.R_told (Kd.R_told (Kd.R_old (rA HO_8.out) hb) (Kd.R_base ho1)) (Kd.R_base ho2)) (fun _ h_ => h_.1))
      have n2_ := Aside0.mk (Kd.R_elder' (rA HO_320000.out) (Kd.R_base ho0) hb)
      have n3_ := Aside0.mk (Kd.R_mono (Kd.R_told (Kd.R_told (Kd.R_old (rA HO_320001.out) hb) (Kd.R_base ho1)) (Kd.R_base ho2)) (fun _ h_ => h_.1))
      have n4_ := Aside0.mk (Kd.R_mono (Kd.R_told (Kd.R_told (Kd.R_old (rA HO_320002.out) hb) (Kd.R_base ho1)) (Kd.R_base ho2)) (fun _ h_ => h_.1))
      have n5_ := Aside0.mk (Kd.R_elder' (rA HO_330000.out) (Kd.R_base ho0) hb)
      have n6_ := Aside0.mk (Kd.R_mono (Kd.R_told (Kd.R_told (Kd.R_old (rA HO_330001.out) hb) (Kd.R_base ho1)) (Kd.R_base ho2)) (fun _ h_ => h_.1))
      have n7_ := Aside0.mk (Kd.R_mono (Kd.R_told (Kd.R_told (Kd.R_old (rA HO_330002.out) hb) (Kd.R_base ho1)) (Kd.R_base ho2)) (fun _ h_ => h_.1))
      have n8_ := Aside0.mk (Kd.R_elder' (rA HO_343000.out) (Kd.R_base ho0) hb)
      have n9_ := Aside0.mk (Kd.R_mono (Kd.R_told (Kd.R_told (Kd.R_old (rA HO_343001.out) hb) (Kd.R_base ho1)) (Kd.R_base ho2)) (fun _ h_ => h_.1))
      have n10_ := Aside0.mk (Kd.R_mono (Kd.R_told (Kd.R_told (Kd.R_old (rA HO_343002.out) hb) (Kd.R_base ho1)) (Kd.R_base ho2)) (fun _ h_ => h_.1))
      have n11_ := Aside0.mk (Kd.R_lower (Kd.R_new' (Kd.R_new' (Kd.R_new' ho0 (Kd.R_lt (rA HO_320000.out))) (Kd.R_lt (rA HO_330000.out))) (Kd.R_lt (rA HO_343000.out))) (below_size (hA HB.out)))
      have n12_ := Aside0.mk (Kd.R_lower (Kd.R_new' (Kd.R_new' (Kd.R_new' (Kd.R_new' (Kd.R_new' (Kd.R_new' (Kd.R_new' (Kd.R_new' ho1 (Kd.R_lt (rA HO_5.out))) (Kd.R_lt (rA HO_8.out))) (Kd.R_lt (rA HO_320001.out))) (Kd.R_lt (rA HO_320002.out))) (Kd.R_lt (rA HO_330001.out))) (Kd.R_lt (rA HO_330002.out))) (Kd.R_lt (rA HO_343001.out))) (Kd.R_lt (rA HO_343002.out))) (below_size (hA HB.out)))
      have n13_ := Aside0.mk (Kd.R_lower (Kd.R_new' (Kd.R_new' (Kd.R_new' (Kd.R_new' (Kd.R_new' (Kd.R_new' (Kd.R_new' (Kd.R_new' ho2 (Kd.R_lt (rA HO_5.out))) (Kd.R_lt (rA HO_8.out))) (Kd.R_lt (rA HO_320001.out))) (Kd.R_lt (rA HO_320002.out))) (Kd.R_lt (rA HO_330001.out))) (Kd.R_lt (rA HO_330002.out))) (Kd.R_lt (rA HO_343001.out))) (Kd.R_lt (rA HO_343002.out))) (below_size (hA HB.out)))
      have n14_ := Aside0.mk (blk_below (g := gb296) (o := .cells #[.slice A0_0 l0_0.length c0_0, .slice A0_1 l0_1.length c0_1, .slice A0_2 l0_2.length c0_2] 25 (0, 0)) (bA BK296.out) hb)
      have n15_ := Aside0.mk (blk_below (g := gb319) (o := .cells #[.slice Ao22 t307.length co22, .slice Ao25 t310.length co25, .slice Ao26 t313.length co26] 29 (0, 0)) (bA BK319.out) hb)
      have n16_ := Aside0.mk (blk_below (g := gb329) (o := .cells #[.slice Ao30 t320.length co30, .slice Ao34 t323.length co34, .slice Ao35 t326.length co35] 29 (0, 0)) (bA BK329.out) hb)
      have n17_ := Aside0.mk (blk_below (g := gb342) (o := .cells #[.slice Ao38 t330.length co38, .slice Ao43 t333.length co43, .slice Ao44 t336.length co44] 29 (0, 0)) (bA BK342.out) hb)
      have n18_ := Aside0.mk (below_step (hA HB.out) hb)
      clear HO_5
      clear HO_8
      clear HO_320000
      clear HO_320001
      clear HO_320002
      clear HO_330000
      clear HO_330001
      clear HO_330002
      clear HO_343000
      clear HO_343001
      clear HO_343002
      clear BK296
      clear BK319
      clear BK329
      clear BK342
      clear HB
      have HO_5 := n0_
      have HO_8 := n1_
      have HO_320000 := n2_
      have HO_320001 := n3_
      have HO_320002 := n4_
      have HO_330000 := n5_
      have HO_330001 := n6_
      have HO_330002 := n7_
      have HO_343000 := n8_
      have HO_343001 := n9_
      have HO_343002 := n10_
      have HO347 := n11_
      have HO350 := n12_
      have HO353 := n13_
      have BK296 := n14_
      have BK319 := n15_
      have BK329 := n16_
      have BK342 := n17_
      have HB := n18_
      clear n0_ n1_ n2_ n3_ n4_ n5_ n6_ n7_ n8_ n9_ n10_ n11_ n12_ n13_ n14_ n15_ n16_ n17_ n18_
      (try clear hb)
      (try clear hb2)
      (try clear hk)
      (try clear hi)
      (try clear ho0)
      (try clear ho1)
      (try clear ho2)
      obtain ⟨Ao74, co74, eo74⟩ := Kd.R_slice HO347.out
      (first | subst eo74 | (injection eo74 with f1_ f2_ f3_; have f4_ := f1_.symm; have f5_ := f3_.symm; clear f1_ f2_ f3_; subst f4_; subst f5_))
      obtain ⟨Ao75, co75, eo75⟩ := Kd.R_slice HO350.out
      (first | subst eo75 | (injection eo75 with f1_ f2_ f3_; have f4_ := f1_.symm; have f5_ := f3_.symm; clear f1_ f2_ f3_; subst f4_; subst f5_))
      obtain ⟨Ao76, co76, eo76⟩ := Kd.R_slice HO353.out
      (first | subst eo76 | (injection eo76 with f1_ f2_ f3_; have f4_ := f1_.symm; have f5_ := f3_.symm; clear f1_ f2_ f3_; subst f4_; subst f5_))
      refine hK.out _ _ ⟨(blk_cell BK329.out 0).trans rfl, (blk_cell BK329.out 1).trans rfl, (blk_cell BK329.out 2).trans rfl, (blk_cell BK296.out 0).trans rfl, (blk_cell BK296.out 1).trans rfl, (blk_cell BK296.out 2).trans rfl⟩ (fun hHeld => ?_)
      clear hK K
      refine norm_ (a' := ?_) ?_ ?_
      rotate_left
      ·show Act.put _ (some 44) _ = _
       simp only [Act.put, List.setIfInBounds_toArray, List.set_cons_zero, List.set_cons_succ, i64_w, i32_w]
       rfl
      refine one_ (i := 3) (N := some 45) #[true, true, true, true, false] rfl rfl (by kernel_rfl) (by decide) (fun K hK => ?_)
      refine goes_ Try.func13 (by kernel_rfl) rfl #[.agg #[.slice Ao30 t320.length co30, .slice Ao34 t323.length co34, .slice Ao35 t326.length co35], .agg #[.slice Ao74 t345.length co74, .slice Ao75 t348.length co75, .slice Ao76 t351.length co76]] (by rfl) rfl rfl ar ?_
      with_reducible refine (laws_eqBook.calls kj10 _ _ t320 _ _ t323 _ _ t326 _ _ t345 _ _ t348 _ _ t351 true _ ?side1 ?side2 ?side3 ?side4 ?side5 ?side6 ?side7 ?side8 ?side9 ?side10 ?side11 ?side12 A68.out).mono ?_
      (case side1 => repeat (first | exact (Kd.R_reads' HO_330000.out).2.2 | (with_reducible refine Kd.C_alloc ?_ _) | (with_reducible refine Kd.C_drewN ?_ _) | (with_reducible refine Kd.C_drew ?_)))
      (case side2 => exact (Kd.R_reads' HO_330000.out).2.1)
      (case side3 => repeat (first | exact (Kd.R_reads' HO_330001.out).2.2 | (with_reducible refine Kd.C_alloc ?_ _) | (with_reducible refine Kd.C_drewN ?_ _) | (with_reducible refine Kd.C_drew ?_)))
      (case side4 => exact (Kd.R_reads' HO_330001.out).2.1)
      (case side5 => repeat (first | exact (Kd.R_reads' HO_330002.out).2.2 | (with_reducible refine Kd.C_alloc ?_ _) | (with_reducible refine Kd.C_drewN ?_ _) | (with_reducible refine Kd.C_drew ?_)))
      (case side6 => exact (Kd.R_reads' HO_330002.out).2.1)
      (case side7 => repeat (first | exact (Kd.R_reads' HO347.out).2.2 | (with_reducible refine Kd.C_alloc ?_ _) | (with_reducible refine Kd.C_drewN ?_ _) | (with_reducible refine Kd.C_drew ?_)))
      (case side8 => exact (Kd.R_reads' HO347.out).2.1)
      (case side9 => repeat (first | exact (Kd.R_reads' HO350.out).2.2 | (with_reducible refine Kd.C_alloc ?_ _) | (with_reducible refine Kd.C_drewN ?_ _) | (with_reducible refine Kd.C_drew ?_)))
      (case side10 => exact (Kd.R_reads' HO350.out).2.1)
      (case side11 => repeat (first | exact (Kd.R_reads' HO353.out).2.2 | (with_reducible refine Kd.C_alloc ?_ _) | (with_reducible refine Kd.C_drewN ?_ _) | (with_reducible refine Kd.C_drew ?_)))
      (case side12 => exact (Kd.R_reads' HO353.out).2.1)
      rintro e w77 ⟨rfl, hb⟩
      refine ⟨_, rfl, ?_⟩
      have n0_ := Aside0.mk (Kd.R_below (rA HO_5.out) hb)
      have n1_ := Aside0.mk (Kd.R_below (rA HO_8.out) hb)
      have n2_ := Aside0.mk (Kd.R_below (rA HO_320000.out) hb)
      have n3_ := Aside0.mk (Kd.R_below (rA HO_320001.out) hb)
      have n4_ := Aside0.mk (Kd.R_below (rA HO_320002.out) hb)
      have n5_ := Aside0.mk (Kd.R_below (rA HO_330000.out) hb)
      have n6_ := Aside0.mk (Kd.R_below (rA HO_330001.out) hb)
      have n7_ := Aside0.mk (Kd.R_below (rA HO_330002.out) hb)
      have n8_ := Aside0.mk (Kd.R_below (rA HO_343000.out) hb)
      have n9_ := Aside0.mk (Kd.R_below (rA HO_343001.out) hb)
      have n10_ := Aside0.mk (Kd.R_below (rA HO_343002.out) hb)
      have n11_ := Aside0.mk (Kd.R_below (rA HO347.out) hb)
      have n12_ := Aside0.mk (Kd.R_below (rA HO350.out) hb)
      have n13_ := Aside0.mk (Kd.R_below (rA HO353.out) hb)
      have n14_ := Aside0.mk (blk_below (g := gb296) (o := .cells #[.slice A0_0 l0_0.length c0_0, .slice A0_1 l0_1.length c0_1, .slice A0_2 l0_2.length c0_2] 25 (0, 0)) (bA BK296.out) hb)
      have n15_ := Aside0.mk (blk_below (g := gb319) (o := .cells #[.slice Ao22 t307.length co22, .slice Ao25 t310.length co25, .slice Ao26 t313.length co26] 29 (0, 0)) (bA BK319.out) hb)
      have n16_ := Aside0.mk (blk_below (g := gb329) (o := .cells #[.slice Ao30 t320.length co30, .slice Ao34 t323.length co34, .slice Ao35 t326.length co35] 29 (0, 0)) (bA BK329.out) hb)
      have n17_ := Aside0.mk (blk_below (g := gb342) (o := .cells #[.slice Ao38 t330.length co38, .slice Ao43 t333.length co43, .slice Ao44 t336.length co44] 29 (0, 0)) (bA BK342.out) hb)
      have n18_ := Aside0.mk (below_step (hA HB.out) hb)
      clear HO_5
      clear HO_8
      clear HO_320000
      clear HO_320001
      clear HO_320002
      clear HO_330000
      clear HO_330001
      clear HO_330002
      clear HO_343000
      clear HO_343001
      clear HO_343002
      clear HO347
      clear HO350
      clear HO353
      clear BK296
      clear BK319
      clear BK329
      clear BK342
      clear HB
      have HO_5 := n0_
      have HO_8 := n1_
      have HO_320000 := n2_
      have HO_320001 := n3_
      have HO_320002 := n4_
      have HO_330000 := n5_
      have HO_330001 := n6_
      have HO_330002 := n7_
      have HO_343000 := n8_
      have HO_343001 := n9_
      have HO_343002 := n10_
      have HO347 := n11_
      have HO350 := n12_
      have HO353 := n13_
      have BK296 := n14_
      have BK319 := n15_
      have BK329 := n16_
      have BK342 := n17_
      have HB := n18_
      clear n0_ n1_ n2_ n3_ n4_ n5_ n6_ n7_ n8_ n9_ n10_ n11_ n12_ n13_ n14_ n15_ n16_ n17_ n18_
      (try clear hb)
      (try clear hb2)
      (try clear hk)
      (try clear hi)
      refine hK.out _ _ ⟨(blk_cell BK329.out 0).trans rfl, (blk_cell BK329.out 1).trans rfl, (blk_cell BK329.out 2).trans rfl, (blk_cell BK296.out 0).trans rfl, (blk_cell BK296.out 1).trans rfl, (blk_cell BK296.out 2).trans rfl⟩ (fun hHeld => ?_)
      clear hK K
      refine norm_ (a' := ?_) ?_ ?_
      rotate_left
      ·show Act.put _ (some 45) _ = _
       simp only [Act.put, List.setIfInBounds_toArray, List.set_cons_zero, List.set_cons_succ, i64_w, i32_w]
       rfl
      refine pure_ (i := 4) (N := some 46) (v := ?_) (a' := ?_) #[true, true, true, true, true] rfl rfl (by kernel_rfl) (fun _ _ _ h => h) (Or.inl ⟨by rfl, ?_⟩) ?_ ?_
      rotate_left
      ·intro w'
       go_simp
       with_reducible rfl
      rotate_left
      ·simp only [Act.put, List.setIfInBounds_toArray, List.set_cons_zero, List.set_cons_succ, i64_w, i32_w]
       rfl
      refine done_ (by kernel_rfl) ?_
      have hnb78 := NB329_296.out
      have hnc78 := NB296_329.out
      have hnb79 := NB329_319.out
      have hnc79 := NB319_329.out
      have hnb80 := NB329_342.out
      have hnc80 := NB342_329.out
      have hcz81_0 : w77.cell? ⟨gb329, 0, none⟩ = some (.slice Ao30 t320.length co30) := (blk_cell BK329.out 0).trans rfl
      have hcz81_1 : w77.cell? ⟨gb329, 1, none⟩ = some (.slice Ao34 t323.length co34) := (blk_cell BK329.out 1).trans rfl
      have hcz81_2 : w77.cell? ⟨gb329, 2, none⟩ = some (.slice Ao35 t326.length co35) := (blk_cell BK329.out 2).trans rfl
      have hfz81_0 := blk_frozen BK329.out 0
      have hfz81_1 := blk_frozen BK329.out 1
      have hfz81_2 := blk_frozen BK329.out 2
      go_upto_region 14 with (first | ((with_reducible refine gate_callee (f := 15) rfl ?_); refine goesL_ (some 49) rfl rfl Try.func15 (by kernel_rfl) rfl #[.agg #[.slice Ao30 t320.length co30, .slice Ao34 t323.length co34, .slice Ao35 t326.length co35], .int .i64 1] rfl ar ?_; (with_reducible refine (laws_markBook.calls kj10 (fun k_ => some k_ = (.slice Ao30 t320.length co30 : Value).ownBlock) (.slice Ao30 t320.length co30) t320 (fun k_ => some k_ = (.slice Ao34 t323.length co34 : Value).ownBlock) (.slice Ao34 t323.length co34) t323 (fun k_ => some k_ = (.slice Ao35 t326.length co35 : Value).ownBlock) (.slice Ao35 t326.length co35) t326 1 t355 t356 t357 t358 w _ ?side1 ?side2 ?side3 ?side4 ?side5 ?side6 A70.out).mono ?_); (case side1 => repeat (first | (with_reducible first | exact HB.out | apply below_alloc | apply pw_below_drewN | apply below_drew1 | refine below_set ?_ GE296.out | refine below_set ?_ GE319.out | refine below_set ?_ GE329.out | refine below_set ?_ GE342.out) | exact HB.out)); (case side2 => exact Kd.R_tight rfl HO_330000.out); (case side3 => exact Kd.R_tight rfl HO_330001.out); (case side4 => exact fun k_ e_ => (HO_330001.out.1 k_ e_.symm).1.1.2.2.2.2.1); (case side5 => exact Kd.R_tight rfl HO_330002.out); (case side6 => exact fun k_ e_ => (HO_330002.out.1 k_ e_.symm).1.1.2.2.2.2.1); rintro e w82 ⟨rfl, hy0, hy1, hy2, hb, hkp⟩; refine ⟨_, rfl, ?_⟩; have n0_ := Aside0.mk (Kd.R_mono (ok' := fun k_ => some k_ ≠ (v340 : Value).ownBlock ∧ some k_ ≠ (.slice Ao25 t310.length co25 : Value).ownBlock ∧ some k_ ≠ (.slice Ao26 t313.length co26 : Value).ownBlock ∧ some k_ ≠ (.slice Ao34 t323.length co34 : Value).ownBlock ∧ some k_ ≠ (.slice Ao35 t326.length co35 : Value).ownBlock ∧ some k_ ≠ (.slice Ao43 t333.length co43 : Value).ownBlock ∧ some k_ ≠ (.slice Ao44 t336.length co44 : Value).ownBlock ∧ some k_ ≠ (.slice Ao75 t348.length co75 : Value).ownBlock ∧ some k_ ≠ (.slice Ao76 t351.length co76 : Value).ownBlock) (Kd.R_keptB ((Kd.R_apart' HO_5.out (Kd.R_typed HO_330000.out) (by decide))) hkp (fun k_ hk_ hs_ => Or.elim hs_ (fun e_ => (hk_.2) e_) (fun e_ => Or.elim e_ (fun e_ => (hk_.1.1.1.2.2.2.1) e_) (fun e_ => (hk_.1.1.1.2.2.2.2.1) e_)))) (fun k_ hk_ => ⟨hk_.1.1.1.1.1, hk_.1.1.1.1.2.1, hk_.1.1.1.1.2.2.1, hk_.1.1.1.1.2.2.2.1, hk_.1.1.1.1.2.2.2.2.1, hk_.1.1.1.1.2.2.2.2.2.1, hk_.1.1.1.1.2.2.2.2.2.2, hk_.1.1.1.2, hk_.1.1.2⟩)); have n1_ := Aside0.mk (Kd.R_mono (ok' := fun k_ => some k_ ≠ (v317 : Value).ownBlock ∧ some k_ ≠ (.slice Ao25 t310.length co25 : Value).ownBlock ∧ some k_ ≠ (.slice Ao26 t313.length co26 : Value).ownBlock ∧ some k_ ≠ (.slice Ao34 t323.length co34 : Value).ownBlock ∧ some k_ ≠ (.slice Ao35 t326.length co35 : Value).ownBlock ∧ some k_ ≠ (.slice Ao43 t333.length co43 : Value).ownBlock ∧ some k_ ≠ (.slice Ao44 t336.length co44 : Value).ownBlock ∧ some k_ ≠ (.slice Ao75 t348.length co75 : Value).ownBlock ∧ some k_ ≠ (.slice Ao76 t351.length co76 : Value).ownBlock) (Kd.R_keptB ((Kd.R_apart' HO_8.out (Kd.R_typed HO_330000.out) (by decide))) hkp (fun k_ hk_ hs_ => Or.elim hs_ (fun e_ => (hk_.2) e_) (fun e_ => Or.elim e_ (fun e_ => (hk_.1.1.1.2.2.2.1) e_) (fun e_ => (hk_.1.1.1.2.2.2.2.1) e_)))) (fun k_ hk_ => ⟨hk_.1.1.1.1.1, hk_.1.1.1.1.2.1, hk_.1.1.1.1.2.2.1, hk_.1.1.1.1.2.2.2.1, hk_.1.1.1.1.2.2.2.2.1, hk_.1.1.1.1.2.2.2.2.2.1, hk_.1.1.1.1.2.2.2.2.2.2, hk_.1.1.1.2, hk_.1.1.2⟩)); have n2_ := Aside0.mk (Kd.R_mono (ok' := fun k_ => some k_ ≠ (.slice Ao30 t320.length co30 : Value).ownBlock ∧ some k_ ≠ (.slice Ao38 t330.length co38 : Value).ownBlock ∧ some k_ ≠ (.slice Ao74 t345.length co74 : Value).ownBlock) (Kd.R_keptB ((Kd.R_apart' (Kd.R_apart' HO_320000.out (Kd.R_typed HO_330001.out) (by decide)) (Kd.R_typed HO_330002.out) (by decide))) hkp (fun k_ hk_ hs_ => Or.elim hs_ (fun e_ => (hk_.1.1.1.1) e_) (fun e_ => Or.elim e_ (fun e_ => (hk_.1.2) e_) (fun e_ => (hk_.2) e_)))) (fun k_ hk_ => ⟨hk_.1.1.1.1.1, hk_.1.1.1.1.2, hk_.1.1.1.2⟩)); have n3_ := Aside0.mk (Kd.R_mono (ok' := fun k_ => some k_ ≠ (v317 : Value).ownBlock ∧ some k_ ≠ (v340 : Value).ownBlock ∧ some k_ ≠ (.slice Ao26 t313.length co26 : Value).ownBlock ∧ some k_ ≠ (.slice Ao34 t323.length co34 : Value).ownBlock ∧ some k_ ≠ (.slice Ao35 t326.length co35 : Value).ownBlock ∧ some k_ ≠ (.slice Ao43 t333.length co43 : Value).ownBlock ∧ some k_ ≠ (.slice Ao44 t336.length co44 : Value).ownBlock ∧ some k_ ≠ (.slice Ao75 t348.length co75 : Value).ownBlock ∧ some k_ ≠ (.slice Ao76 t351.length co76 : Value).ownBlock) (Kd.R_keptB ((Kd.R_apart' HO_320001.out (Kd.R_typed HO_330000.out) (by decide))) hkp (fun k_ hk_ hs_ => Or.elim hs_ (fun e_ => (hk_.2) e_) (fun e_ => Or.elim e_ (fun e_ => (hk_.1.1.1.2.2.2.1) e_) (fun e_ => (hk_.1.1.1.2.2.2.2.1) e_)))) (fun k_ hk_ => ⟨hk_.1.1.1.1.1, hk_.1.1.1.1.2.1, hk_.1.1.1.1.2.2.1, hk_.1.1.1.1.2.2.2.1, hk_.1.1.1.1.2.2.2.2.1, hk_.1.1.1.1.2.2.2.2.2.1, hk_.1.1.1.1.2.2.2.2.2.2, hk_.1.1.1.2, hk_.1.1.2⟩)); have n4_ := Aside0.mk (Kd.R_mono (ok' := fun k_ => some k_ ≠ (v317 : Value).ownBlock ∧ some k_ ≠ (v340 : Value).ownBlock ∧ some k_ ≠ (.slice Ao25 t310.length co25 : Value).ownBlock ∧ some k_ ≠ (.slice Ao34 t323.length co34 : Value).ownBlock ∧ some k_ ≠ (.slice Ao35 t326.length co35 : Value).ownBlock ∧ some k_ ≠ (.slice Ao43 t333.length co43 : Value).ownBlock ∧ some k_ ≠ (.slice Ao44 t336.length co44 : Value).ownBlock ∧ some k_ ≠ (.slice Ao75 t348.length co75 : Value).ownBlock ∧ some k_ ≠ (.slice Ao76 t351.length co76 : Value).ownBlock) (Kd.R_keptB ((Kd.R_apart' HO_320002.out (Kd.R_typed HO_330000.out) (by decide))) hkp (fun k_ hk_ hs_ => Or.elim hs_ (fun e_ => (hk_.2) e_) (fun e_ => Or.elim e_ (fun e_ => (hk_.1.1.1.2.2.2.1) e_) (fun e_ => (hk_.1.1.1.2.2.2.2.1) e_)))) (fun k_ hk_ => ⟨hk_.1.1.1.1.1, hk_.1.1.1.1.2.1, hk_.1.1.1.1.2.2.1, hk_.1.1.1.1.2.2.2.1, hk_.1.1.1.1.2.2.2.2.1, hk_.1.1.1.1.2.2.2.2.2.1, hk_.1.1.1.1.2.2.2.2.2.2, hk_.1.1.1.2, hk_.1.1.2⟩)); have n5_ := Aside0.mk (Kd.R_reok rfl hy0 (fun k_ e_ => HO_330000.out.1 k_ e_)); have n6_ := Aside0.mk (Kd.R_reok rfl hy1 (fun k_ e_ => HO_330001.out.1 k_ e_)); have n7_ := Aside0.mk (Kd.R_reok rfl hy2 (fun k_ e_ => HO_330002.out.1 k_ e_)); have n8_ := Aside0.mk (Kd.R_mono (ok' := fun k_ => some k_ ≠ (.slice Ao22 t307.length co22 : Value).ownBlock ∧ some k_ ≠ (.slice Ao30 t320.length co30 : Value).ownBlock ∧ some k_ ≠ (.slice Ao74 t345.length co74 : Value).ownBlock) (Kd.R_keptB ((Kd.R_apart' (Kd.R_apart' HO_343000.out (Kd.R_typed HO_330001.out) (by decide)) (Kd.R_typed HO_330002.out) (by decide))) hkp (fun k_ hk_ hs_ => Or.elim hs_ (fun e_ => (hk_.1.1.1.2) e_) (fun e_ => Or.elim e_ (fun e_ => (hk_.1.2) e_) (fun e_ => (hk_.2) e_)))) (fun k_ hk_ => ⟨hk_.1.1.1.1.1, hk_.1.1.1.1.2, hk_.1.1.1.2⟩)); have n9_ := Aside0.mk (Kd.R_mono (ok' := fun k_ => some k_ ≠ (v317 : Value).ownBlock ∧ some k_ ≠ (v340 : Value).ownBlock ∧ some k_ ≠ (.slice Ao25 t310.length co25 : Value).ownBlock ∧ some k_ ≠ (.slice Ao26 t313.length co26 : Value).ownBlock ∧ some k_ ≠ (.slice Ao34 t323.length co34 : Value).ownBlock ∧ some k_ ≠ (.slice Ao35 t326.length co35 : Value).ownBlock ∧ some k_ ≠ (.slice Ao44 t336.length co44 : Value).ownBlock ∧ some k_ ≠ (.slice Ao75 t348.length co75 : Value).ownBlock ∧ some k_ ≠ (.slice Ao76 t351.length co76 : Value).ownBlock) (Kd.R_keptB ((Kd.R_apart' HO_343001.out (Kd.R_typed HO_330000.out) (by decide))) hkp (fun k_ hk_ hs_ => Or.elim hs_ (fun e_ => (hk_.2) e_) (fun e_ => Or.elim e_ (fun e_ => (hk_.1.1.1.2.2.2.2.1) e_) (fun e_ => (hk_.1.1.1.2.2.2.2.2.1) e_)))) (fun k_ hk_ => ⟨hk_.1.1.1.1.1, hk_.1.1.1.1.2.1, hk_.1.1.1.1.2.2.1, hk_.1.1.1.1.2.2.2.1, hk_.1.1.1.1.2.2.2.2.1, hk_.1.1.1.1.2.2.2.2.2.1, hk_.1.1.1.1.2.2.2.2.2.2, hk_.1.1.1.2, hk_.1.1.2⟩)); have n10_ := Aside0.mk (Kd.R_mono (ok' := fun k_ => some k_ ≠ (v317 : Value).ownBlock ∧ some k_ ≠ (v340 : Value).ownBlock ∧ some k_ ≠ (.slice Ao25 t310.length co25 : Value).ownBlock ∧ some k_ ≠ (.slice Ao26 t313.length co26 : Value).ownBlock ∧ some k_ ≠ (.slice Ao34 t323.length co34 : Value).ownBlock ∧ some k_ ≠ (.slice Ao35 t326.length co35 : Value).ownBlock ∧ some k_ ≠ (.slice Ao43 t333.length co43 : Value).ownBlock ∧ some k_ ≠ (.slice Ao75 t348.length co75 : Value).ownBlock ∧ some k_ ≠ (.slice Ao76 t351.length co76 : Value).ownBlock) (Kd.R_keptB ((Kd.R_apart' HO_343002.out (Kd.R_typed HO_330000.out) (by decide))) hkp (fun k_ hk_ hs_ => Or.elim hs_ (fun e_ => (hk_.2) e_) (fun e_ => Or.elim e_ (fun e_ => (hk_.1.1.1.2.2.2.2.1) e_) (fun e_ => (hk_.1.1.1.2.2.2.2.2.1) e_)))) (fun k_ hk_ => ⟨hk_.1.1.1.1.1, hk_.1.1.1.1.2.1, hk_.1.1.1.1.2.2.1, hk_.1.1.1.1.2.2.2.1, hk_.1.1.1.1.2.2.2.2.1, hk_.1.1.1.1.2.2.2.2.2.1, hk_.1.1.1.1.2.2.2.2.2.2, hk_.1.1.1.2, hk_.1.1.2⟩)); have n11_ := Aside0.mk (blk_kept (bA BK296.out) hkp (fun hs_ => Or.elim hs_ (fun e_ => (fun e_ => (Kd.R_ne HO_330000.out BK296.out (by decide)) e_) e_) (fun e_ => Or.elim e_ (fun e_ => (fun e_ => (Kd.R_ne HO_330001.out BK296.out (by decide)) e_) e_) (fun e_ => (fun e_ => (Kd.R_ne HO_330002.out BK296.out (by decide)) e_) e_)))); have n12_ := Aside0.mk (blk_kept (bA BK319.out) hkp (fun hs_ => Or.elim hs_ (fun e_ => (fun e_ => (Kd.R_ne HO_330000.out BK319.out (by decide)) e_) e_) (fun e_ => Or.elim e_ (fun e_ => (fun e_ => (Kd.R_ne HO_330001.out BK319.out (by decide)) e_) e_) (fun e_ => (fun e_ => (Kd.R_ne HO_330002.out BK319.out (by decide)) e_) e_)))); have n13_ := Aside0.mk (blk_kept (bA BK329.out) hkp (fun hs_ => Or.elim hs_ (fun e_ => (fun e_ => (Kd.R_ne HO_330000.out BK329.out (by decide)) e_) e_) (fun e_ => Or.elim e_ (fun e_ => (fun e_ => (Kd.R_ne HO_330001.out BK329.out (by decide)) e_) e_) (fun e_ => (fun e_ => (Kd.R_ne HO_330002.out BK329.out (by decide)) e_) e_)))); have n14_ := Aside0.mk (blk_kept (bA BK342.out) hkp (fun hs_ => Or.elim hs_ (fun e_ => (fun e_ => (Kd.R_ne HO_330000.out BK342.out (by decide)) e_) e_) (fun e_ => Or.elim e_ (fun e_ => (fun e_ => (Kd.R_ne HO_330001.out BK342.out (by decide)) e_) e_) (fun e_ => (fun e_ => (Kd.R_ne HO_330002.out BK342.out (by decide)) e_) e_)))); have n15_ := Aside0.mk (Kd.R_mono (ok' := fun k_ => some k_ ≠ (.slice Ao22 t307.length co22 : Value).ownBlock ∧ some k_ ≠ (.slice Ao30 t320.length co30 : Value).ownBlock ∧ some k_ ≠ (.slice Ao38 t330.length co38 : Value).ownBlock) (Kd.R_keptB ((Kd.R_apart' (Kd.R_apart' HO347.out (Kd.R_typed HO_330001.out) (by decide)) (Kd.R_typed HO_330002.out) (by decide))) hkp (fun k_ hk_ hs_ => Or.elim hs_ (fun e_ => (hk_.1.1.1.2) e_) (fun e_ => Or.elim e_ (fun e_ => (hk_.1.2) e_) (fun e_ => (hk_.2) e_)))) (fun k_ hk_ => ⟨hk_.1.1.1.1.1.2, hk_.1.1.1.1.2, hk_.1.1.1.2⟩)); have n16_ := Aside0.mk (Kd.R_mono (ok' := fun k_ => some k_ ≠ (v317 : Value).ownBlock ∧ some k_ ≠ (v340 : Value).ownBlock ∧ some k_ ≠ (.slice Ao25 t310.length co25 : Value).ownBlock ∧ some k_ ≠ (.slice Ao26 t313.length co26 : Value).ownBlock ∧ some k_ ≠ (.slice Ao34 t323.length co34 : Value).ownBlock ∧ some k_ ≠ (.slice Ao35 t326.length co35 : Value).ownBlock ∧ some k_ ≠ (.slice Ao43 t333.length co43 : Value).ownBlock ∧ some k_ ≠ (.slice Ao44 t336.length co44 : Value).ownBlock ∧ some k_ ≠ (.slice Ao76 t351.length co76 : Value).ownBlock) (Kd.R_keptB ((Kd.R_apart' HO350.out (Kd.R_typed HO_330000.out) (by decide))) hkp (fun k_ hk_ hs_ => Or.elim hs_ (fun e_ => (hk_.2) e_) (fun e_ => Or.elim e_ (fun e_ => (hk_.1.1.1.1.2) e_) (fun e_ => (hk_.1.1.1.2) e_)))) (fun k_ hk_ => ⟨hk_.1.1.1.1.1.1.1.1.1.2, hk_.1.1.1.1.1.1.1.1.2, hk_.1.1.1.1.1.1.1.2, hk_.1.1.1.1.1.1.2, hk_.1.1.1.1.1.2, hk_.1.1.1.1.2, hk_.1.1.1.2, hk_.1.1.2, hk_.1.1.1.1.1.1.1.1.1.1⟩)); have n17_ := Aside0.mk (Kd.R_mono (ok' := fun k_ => some k_ ≠ (v317 : Value).ownBlock ∧ some k_ ≠ (v340 : Value).ownBlock ∧ some k_ ≠ (.slice Ao25 t310.length co25 : Value).ownBlock ∧ some k_ ≠ (.slice Ao26 t313.length co26 : Value).ownBlock ∧ some k_ ≠ (.slice Ao34 t323.length co34 : Value).ownBlock ∧ some k_ ≠ (.slice Ao35 t326.length co35 : Value).ownBlock ∧ some k_ ≠ (.slice Ao43 t333.length co43 : Value).ownBlock ∧ some k_ ≠ (.slice Ao44 t336.length co44 : Value).ownBlock ∧ some k_ ≠ (.slice Ao75 t348.length co75 : Value).ownBlock) (Kd.R_keptB ((Kd.R_apart' HO353.out (Kd.R_typed HO_330000.out) (by decide))) hkp (fun k_ hk_ hs_ => Or.elim hs_ (fun e_ => (hk_.2) e_) (fun e_ => Or.elim e_ (fun e_ => (hk_.1.1.1.1.2) e_) (fun e_ => (hk_.1.1.1.2) e_)))) (fun k_ hk_ => ⟨hk_.1.1.1.1.1.1.1.1.1.2, hk_.1.1.1.1.1.1.1.1.2, hk_.1.1.1.1.1.1.1.2, hk_.1.1.1.1.1.1.2, hk_.1.1.1.1.1.2, hk_.1.1.1.1.2, hk_.1.1.1.2, hk_.1.1.2, hk_.1.1.1.1.1.1.1.1.1.1⟩)); have n18_ := Aside0.mk (hb); clear HO_5; clear HO_8; clear HO_320000; clear HO_320001; clear HO_320002; clear HO_330000; clear HO_330001; clear HO_330002; clear HO_343000; clear HO_343001; clear HO_343002; clear BK296; clear BK319; clear BK329; clear BK342; clear HO347; clear HO350; clear HO353; clear HB; have HO_5 := n0_; have HO_8 := n1_; have HO_320000 := n2_; have HO_320001 := n3_; have HO_320002 := n4_; have HO_330000 := n5_; have HO_330001 := n6_; have HO_330002 := n7_; have HO_343000 := n8_; have HO_343001 := n9_; have HO_343002 := n10_; have BK296 := n11_; have BK319 := n12_; have BK329 := n13_; have BK342 := n14_; have HO347 := n15_; have HO350 := n16_; have HO353 := n17_; have HB := n18_; clear n0_ n1_ n2_ n3_ n4_ n5_ n6_ n7_ n8_ n9_ n10_ n11_ n12_ n13_ n14_ n15_ n16_ n17_ n18_; (try clear hb); (try clear hkp); (try clear hy0); (try clear hy1); (try clear hy2)))
      (try simp only [Act.put, List.setIfInBounds_toArray, List.set_cons_zero, List.set_cons_succ])
      go_cut [63] (fun v63 wc => ∃ (kq : Nat) (x63_70 : Bool), v63 = .bool x63_70 ∧ Aside0 (laws_FnExactMendBook.j1 kq t316 t339 x63_70 l0_0 l0_1 l0_2 t307 t310 t313 t330 t333 t336 = some r) ∧ Aside0 (kq ≤ kj10) ∧ Aside0 (Kd.R (Kd.int .i64) 3 wc w.heap.size (fun k_ => some k_ ≠ (v340 : Value).ownBlock ∧ some k_ ≠ ((.slice Ao25 t310.length co25) : Value).ownBlock ∧ some k_ ≠ ((.slice Ao26 t313.length co26) : Value).ownBlock ∧ some k_ ≠ ((.slice Ao34 t323.length co34) : Value).ownBlock ∧ some k_ ≠ ((.slice Ao35 t326.length co35) : Value).ownBlock ∧ some k_ ≠ ((.slice Ao43 t333.length co43) : Value).ownBlock ∧ some k_ ≠ ((.slice Ao44 t336.length co44) : Value).ownBlock) v317 t316) ∧ Aside0 (Kd.R (Kd.int .i64) 3 wc w.heap.size (fun k_ => some k_ ≠ (v317 : Value).ownBlock ∧ some k_ ≠ ((.slice Ao25 t310.length co25) : Value).ownBlock ∧ some k_ ≠ ((.slice Ao26 t313.length co26) : Value).ownBlock ∧ some k_ ≠ ((.slice Ao34 t323.length co34) : Value).ownBlock ∧ some k_ ≠ ((.slice Ao35 t326.length co35) : Value).ownBlock ∧ some k_ ≠ ((.slice Ao43 t333.length co43) : Value).ownBlock ∧ some k_ ≠ ((.slice Ao44 t336.length co44) : Value).ownBlock) v340 t339) ∧ Aside0 (Kd.R k50 50 wc w.heap.size (fun k_ => some k_ ≠ ((.slice Ao30 t320.length co30) : Value).ownBlock ∧ some k_ ≠ ((.slice Ao38 t330.length co38) : Value).ownBlock) (.slice Ao22 t307.length co22) t307) ∧ Aside0 (Kd.R (Kd.int .i64) 3 wc w.heap.size (fun k_ => some k_ ≠ (v317 : Value).ownBlock ∧ some k_ ≠ (v340 : Value).ownBlock ∧ some k_ ≠ ((.slice Ao26 t313.length co26) : Value).ownBlock ∧ some k_ ≠ ((.slice Ao34 t323.length co34) : Value).ownBlock ∧ some k_ ≠ ((.slice Ao35 t326.length co35) : Value).ownBlock ∧ some k_ ≠ ((.slice Ao43 t333.length co43) : Value).ownBlock ∧ some k_ ≠ ((.slice Ao44 t336.length co44) : Value).ownBlock) (.slice Ao25 t310.length co25) t310) ∧ Aside0 (Kd.R (Kd.int .i64) 3 wc w.heap.size (fun k_ => some k_ ≠ (v317 : Value).ownBlock ∧ some k_ ≠ (v340 : Value).ownBlock ∧ some k_ ≠ ((.slice Ao25 t310.length co25) : Value).ownBlock ∧ some k_ ≠ ((.slice Ao34 t323.length co34) : Value).ownBlock ∧ some k_ ≠ ((.slice Ao35 t326.length co35) : Value).ownBlock ∧ some k_ ≠ ((.slice Ao43 t333.length co43) : Value).ownBlock ∧ some k_ ≠ ((.slice Ao44 t336.length co44) : Value).ownBlock) (.slice Ao26 t313.length co26) t313) ∧ Aside0 (Kd.R k50 50 wc w.heap.size (fun k_ => some k_ ≠ ((.slice Ao22 t307.length co22) : Value).ownBlock ∧ some k_ ≠ ((.slice Ao38 t330.length co38) : Value).ownBlock) (.slice Ao30 t320.length co30) t356) ∧ Aside0 (Kd.R (Kd.int .i64) 3 wc w.heap.size (fun k_ => some k_ ≠ (v317 : Value).ownBlock ∧ some k_ ≠ (v340 : Value).ownBlock ∧ some k_ ≠ ((.slice Ao25 t310.length co25) : Value).ownBlock ∧ some k_ ≠ ((.slice Ao26 t313.length co26) : Value).ownBlock ∧ some k_ ≠ ((.slice Ao35 t326.length co35) : Value).ownBlock ∧ some k_ ≠ ((.slice Ao43 t333.length co43) : Value).ownBlock ∧ some k_ ≠ ((.slice Ao44 t336.length co44) : Value).ownBlock) (.slice Ao34 t323.length co34) t357) ∧ Aside0 (Kd.R (Kd.int .i64) 3 wc w.heap.size (fun k_ => some k_ ≠ (v317 : Value).ownBlock ∧ some k_ ≠ (v340 : Value).ownBlock ∧ some k_ ≠ ((.slice Ao25 t310.length co25) : Value).ownBlock ∧ some k_ ≠ ((.slice Ao26 t313.length co26) : Value).ownBlock ∧ some k_ ≠ ((.slice Ao34 t323.length co34) : Value).ownBlock ∧ some k_ ≠ ((.slice Ao43 t333.length co43) : Value).ownBlock ∧ some k_ ≠ ((.slice Ao44 t336.length co44) : Value).ownBlock) (.slice Ao35 t326.length co35) t358) ∧ Aside0 (Kd.R k50 50 wc w.heap.size (fun k_ => some k_ ≠ ((.slice Ao22 t307.length co22) : Value).ownBlock ∧ some k_ ≠ ((.slice Ao30 t320.length co30) : Value).ownBlock) (.slice Ao38 t330.length co38) t330) ∧ Aside0 (Kd.R (Kd.int .i64) 3 wc w.heap.size (fun k_ => some k_ ≠ (v317 : Value).ownBlock ∧ some k_ ≠ (v340 : Value).ownBlock ∧ some k_ ≠ ((.slice Ao25 t310.length co25) : Value).ownBlock ∧ some k_ ≠ ((.slice Ao26 t313.length co26) : Value).ownBlock ∧ some k_ ≠ ((.slice Ao34 t323.length co34) : Value).ownBlock ∧ some k_ ≠ ((.slice Ao35 t326.length co35) : Value).ownBlock ∧ some k_ ≠ ((.slice Ao44 t336.length co44) : Value).ownBlock) (.slice Ao43 t333.length co43) t333) ∧ Aside0 (Kd.R (Kd.int .i64) 3 wc w.heap.size (fun k_ => some k_ ≠ (v317 : Value).ownBlock ∧ some k_ ≠ (v340 : Value).ownBlock ∧ some k_ ≠ ((.slice Ao25 t310.length co25) : Value).ownBlock ∧ some k_ ≠ ((.slice Ao26 t313.length co26) : Value).ownBlock ∧ some k_ ≠ ((.slice Ao34 t323.length co34) : Value).ownBlock ∧ some k_ ≠ ((.slice Ao35 t326.length co35) : Value).ownBlock ∧ some k_ ≠ ((.slice Ao43 t333.length co43) : Value).ownBlock) (.slice Ao44 t336.length co44) t336) ∧ Aside0 (wc.heap[gb296]? = some (.cells #[(.slice A0_0 l0_0.length c0_0), (.slice A0_1 l0_1.length c0_1), (.slice A0_2 l0_2.length c0_2)] 25 (0, 0))) ∧ Aside0 (wc.heap[gb319]? = some (.cells #[(.slice Ao22 t307.length co22), (.slice Ao25 t310.length co25), (.slice Ao26 t313.length co26)] 29 (0, 0))) ∧ Aside0 (wc.heap[gb329]? = some (.cells #[(.slice Ao30 t320.length co30), (.slice Ao34 t323.length co34), (.slice Ao35 t326.length co35)] 29 (0, 0))) ∧ Aside0 (wc.heap[gb342]? = some (.cells #[(.slice Ao38 t330.length co38), (.slice Ao43 t333.length co43), (.slice Ao44 t336.length co44)] 29 (0, 0))) ∧ Aside0 (Below w.heap.size w wc))
      case first =>
       have H := HC71.out
       clear HC71
       by_cases c83 : t355 < 0
       ·rw [if_pos c83] at H
        have c83b0 : decide (t355 < 0) = true := decide_eq_true c83
        clear c83
        (first | rw [c83b0] | (simp only [i64_w, i32_w]; rw [c83b0]) | skip)
        have H' := Aside0.mk H
        clear H
        go_wp2
        go_meet
        case rel => exact ⟨_, (true), (by first | rfl | (simp; done) | (simp [*]; done)), H', ⟨by have := HJ10.out; first | omega | exact Nat.le_refl _⟩, ⟨by refine rC (a := ?_); exact Kd.R_mono HO_5.out (fun _ hk => ⟨hk.1, ⟨hk.2.1, ⟨hk.2.2.1, ⟨hk.2.2.2.1, ⟨hk.2.2.2.2.1, ⟨hk.2.2.2.2.2.1, hk.2.2.2.2.2.2.1⟩⟩⟩⟩⟩⟩)⟩, ⟨by refine rC (a := ?_); exact Kd.R_mono HO_8.out (fun _ hk => ⟨hk.1, ⟨hk.2.1, ⟨hk.2.2.1, ⟨hk.2.2.2.1, ⟨hk.2.2.2.2.1, ⟨hk.2.2.2.2.2.1, hk.2.2.2.2.2.2.1⟩⟩⟩⟩⟩⟩)⟩, ⟨by refine rC (a := ?_); exact Kd.R_mono HO_320000.out (fun _ hk => ⟨hk.1, hk.2.1⟩)⟩, ⟨by refine rC (a := ?_); exact Kd.R_mono HO_320001.out (fun _ hk => ⟨hk.1, ⟨hk.2.1, ⟨hk.2.2.1, ⟨hk.2.2.2.1, ⟨hk.2.2.2.2.1, ⟨hk.2.2.2.2.2.1, hk.2.2.2.2.2.2.1⟩⟩⟩⟩⟩⟩)⟩, ⟨by refine rC (a := ?_); exact Kd.R_mono HO_320002.out (fun _ hk => ⟨hk.1, ⟨hk.2.1, ⟨hk.2.2.1, ⟨hk.2.2.2.1, ⟨hk.2.2.2.2.1, ⟨hk.2.2.2.2.2.1, hk.2.2.2.2.2.2.1⟩⟩⟩⟩⟩⟩)⟩, ⟨by refine rC (a := ?_); exact Kd.R_mono HO_330000.out (fun _ hk => ⟨hk.1.1, hk.1.2⟩)⟩, ⟨by refine rC (a := ?_); exact Kd.R_mono HO_330001.out (fun _ hk => ⟨hk.1.1.1, ⟨hk.1.1.2.1, ⟨hk.1.1.2.2.1, ⟨hk.1.1.2.2.2.1, ⟨hk.1.1.2.2.2.2.1, ⟨hk.1.1.2.2.2.2.2.1, hk.1.1.2.2.2.2.2.2⟩⟩⟩⟩⟩⟩)⟩, ⟨by refine rC (a := ?_); exact Kd.R_mono HO_330002.out (fun _ hk => ⟨hk.1.1.1, ⟨hk.1.1.2.1, ⟨hk.1.1.2.2.1, ⟨hk.1.1.2.2.2.1, ⟨hk.1.1.2.2.2.2.1, ⟨hk.1.1.2.2.2.2.2.1, hk.1.1.2.2.2.2.2.2⟩⟩⟩⟩⟩⟩)⟩, ⟨by refine rC (a := ?_); exact Kd.R_mono HO_343000.out (fun _ hk => ⟨hk.1, hk.2.1⟩)⟩, ⟨by refine rC (a := ?_); exact Kd.R_mono HO_343001.out (fun _ hk => ⟨hk.1, ⟨hk.2.1, ⟨hk.2.2.1, ⟨hk.2.2.2.1, ⟨hk.2.2.2.2.1, ⟨hk.2.2.2.2.2.1, hk.2.2.2.2.2.2.1⟩⟩⟩⟩⟩⟩)⟩, ⟨by refine rC (a := ?_); exact Kd.R_mono HO_343002.out (fun _ hk => ⟨hk.1, ⟨hk.2.1, ⟨hk.2.2.1, ⟨hk.2.2.2.1, ⟨hk.2.2.2.2.1, ⟨hk.2.2.2.2.2.1, hk.2.2.2.2.2.2.1⟩⟩⟩⟩⟩⟩)⟩, ⟨by refine bC (a := ?_); exact BK296.out⟩, ⟨by refine bC (a := ?_); exact BK319.out⟩, ⟨by refine bC (a := ?_); exact BK329.out⟩, ⟨by refine bC (a := ?_); exact BK342.out⟩, ⟨hA HB.out⟩⟩
       ·rw [if_neg c83] at H
        have c83b0 : decide (t355 < 0) = false := decide_eq_false c83
        clear c83
        (first | rw [c83b0] | (simp only [i64_w, i32_w]; rw [c83b0]) | skip)
        replace H := Option.bind_eq_some_iff.mp H
        obtain ⟨t359, A840, H⟩ := H
        replace H : (if t359 = true then ((laws_eqIntS.f kj10 t339 t316).bind fun t360 => (laws_FnExactMendBook.j1 kj10 t316 t339 (!t360) l0_0 l0_1 l0_2 t307 t310 t313 t330 t333 t336)) else (laws_FnExactMendBook.j1 kj10 t316 t339 true l0_0 l0_1 l0_2 t307 t310 t313 t330 t333 t336)) = some r := H
        have A84 := Aside0.mk A840
        clear A840
        by_cases c85 : t359 = true
        ·subst c85
         have H1 : ((laws_eqIntS.f kj10 t339 t316).bind fun t360 => (laws_FnExactMendBook.j1 kj10 t316 t339 (!t360) l0_0 l0_1 l0_2 t307 t310 t313 t330 t333 t336)) = some r := by rw [if_pos rfl] at H; exact H
         clear H
         have H := H1
         clear H1
         replace H := Option.bind_eq_some_iff.mp H
         obtain ⟨t360, A860, H⟩ := H
         replace H : (laws_FnExactMendBook.j1 kj10 t316 t339 (!t360) l0_0 l0_1 l0_2 t307 t310 t313 t330 t333 t336) = some r := H
         have A86 := Aside0.mk A860
         clear A860
         have H' := Aside0.mk H
         clear H
         have hnb87 := NB342_296.out
         have hnc87 := NB296_342.out
         have hnb88 := NB342_319.out
         have hnc88 := NB319_342.out
         have hnb89 := NB342_329.out
         have hnc89 := NB329_342.out
         have hcz90_0 : w82.cell? ⟨gb342, 0, none⟩ = some (.slice Ao38 t330.length co38) := (blk_cell BK342.out 0).trans rfl
         have hcz90_1 : w82.cell? ⟨gb342, 1, none⟩ = some (.slice Ao43 t333.length co43) := (blk_cell BK342.out 1).trans rfl
         have hcz90_2 : w82.cell? ⟨gb342, 2, none⟩ = some (.slice Ao44 t336.length co44) := (blk_cell BK342.out 2).trans rfl
         have hfz90_0 := blk_frozen BK342.out 0
         have hfz90_1 := blk_frozen BK342.out 1
         have hfz90_2 := blk_frozen BK342.out 2
         have hnb91 := NB319_296.out
         have hnc91 := NB296_319.out
         have hnb92 := NB319_329.out
         have hnc92 := NB329_319.out
         have hcz93_0 : w82.cell? ⟨gb319, 0, none⟩ = some (.slice Ao22 t307.length co22) := (blk_cell BK319.out 0).trans rfl
         have hcz93_1 : w82.cell? ⟨gb319, 1, none⟩ = some (.slice Ao25 t310.length co25) := (blk_cell BK319.out 1).trans rfl
         have hcz93_2 : w82.cell? ⟨gb319, 2, none⟩ = some (.slice Ao26 t313.length co26) := (blk_cell BK319.out 2).trans rfl
         have hfz93_0 := blk_frozen BK319.out 0
         have hfz93_1 := blk_frozen BK319.out 1
         have hfz93_2 := blk_frozen BK319.out 2
         go_wp2_with (first | (go_at_call 13; (with_reducible refine (laws_eqBook.calls kj10 _ _ t330 _ _ t333 _ _ t336 _ _ t307 _ _ t310 _ _ t313 true _ ?side1 ?side2 ?side3 ?side4 ?side5 ?side6 ?side7 ?side8 ?side9 ?side10 ?side11 ?side12 A84.out).mono ?_); (case side1 => repeat (first | exact (Kd.R_reads' HO_343000.out).2.2 | (with_reducible refine Kd.C_alloc ?_ _) | (with_reducible refine Kd.C_drewN ?_ _) | (with_reducible refine Kd.C_drew ?_))); (case side2 => exact (Kd.R_reads' HO_343000.out).2.1); (case side3 => repeat (first | exact (Kd.R_reads' HO_343001.out).2.2 | (with_reducible refine Kd.C_alloc ?_ _) | (with_reducible refine Kd.C_drewN ?_ _) | (with_reducible refine Kd.C_drew ?_))); (case side4 => exact (Kd.R_reads' HO_343001.out).2.1); (case side5 => repeat (first | exact (Kd.R_reads' HO_343002.out).2.2 | (with_reducible refine Kd.C_alloc ?_ _) | (with_reducible refine Kd.C_drewN ?_ _) | (with_reducible refine Kd.C_drew ?_))); (case side6 => exact (Kd.R_reads' HO_343002.out).2.1); (case side7 => repeat (first | exact (Kd.R_reads' HO_320000.out).2.2 | (with_reducible refine Kd.C_alloc ?_ _) | (with_reducible refine Kd.C_drewN ?_ _) | (with_reducible refine Kd.C_drew ?_))); (case side8 => exact (Kd.R_reads' HO_320000.out).2.1); (case side9 => repeat (first | exact (Kd.R_reads' HO_320001.out).2.2 | (with_reducible refine Kd.C_alloc ?_ _) | (with_reducible refine Kd.C_drewN ?_ _) | (with_reducible refine Kd.C_drew ?_))); (case side10 => exact (Kd.R_reads' HO_320001.out).2.1); (case side11 => repeat (first | exact (Kd.R_reads' HO_320002.out).2.2 | (with_reducible refine Kd.C_alloc ?_ _) | (with_reducible refine Kd.C_drewN ?_ _) | (with_reducible refine Kd.C_drew ?_))); (case side12 => exact (Kd.R_reads' HO_320002.out).2.1); rintro e w94 ⟨rfl, hb⟩; have n0_ := Aside0.mk (Kd.R_below (rA HO_5.out) hb); have n1_ := Aside0.mk (Kd.R_below (rA HO_8.out) hb); have n2_ := Aside0.mk (Kd.R_below (rA HO_320000.out) hb); have n3_ := Aside0.mk (Kd.R_below (rA HO_320001.out) hb); have n4_ := Aside0.mk (Kd.R_below (rA HO_320002.out) hb); have n5_ := Aside0.mk (Kd.R_below (rA HO_330000.out) hb); have n6_ := Aside0.mk (Kd.R_below (rA HO_330001.out) hb); have n7_ := Aside0.mk (Kd.R_below (rA HO_330002.out) hb); have n8_ := Aside0.mk (Kd.R_below (rA HO_343000.out) hb); have n9_ := Aside0.mk (Kd.R_below (rA HO_343001.out) hb); have n10_ := Aside0.mk (Kd.R_below (rA HO_343002.out) hb); have n11_ := Aside0.mk (Kd.R_below (rA HO347.out) hb); have n12_ := Aside0.mk (Kd.R_below (rA HO350.out) hb); have n13_ := Aside0.mk (Kd.R_below (rA HO353.out) hb); have n14_ := Aside0.mk (blk_below (g := gb296) (o := .cells #[.slice A0_0 l0_0.length c0_0, .slice A0_1 l0_1.length c0_1, .slice A0_2 l0_2.length c0_2] 25 (0, 0)) (bA BK296.out) hb); have n15_ := Aside0.mk (blk_below (g := gb319) (o := .cells #[.slice Ao22 t307.length co22, .slice Ao25 t310.length co25, .slice Ao26 t313.length co26] 29 (0, 0)) (bA BK319.out) hb); have n16_ := Aside0.mk (blk_below (g := gb329) (o := .cells #[.slice Ao30 t320.length co30, .slice Ao34 t323.length co34, .slice Ao35 t326.length co35] 29 (0, 0)) (bA BK329.out) hb); have n17_ := Aside0.mk (blk_below (g := gb342) (o := .cells #[.slice Ao38 t330.length co38, .slice Ao43 t333.length co43, .slice Ao44 t336.length co44] 29 (0, 0)) (bA BK342.out) hb); have n18_ := Aside0.mk (below_step (hA HB.out) hb); clear HO_5; clear HO_8; clear HO_320000; clear HO_320001; clear HO_320002; clear HO_330000; clear HO_330001; clear HO_330002; clear HO_343000; clear HO_343001; clear HO_343002; clear HO347; clear HO350; clear HO353; clear BK296; clear BK319; clear BK329; clear BK342; clear HB; have HO_5 := n0_; have HO_8 := n1_; have HO_320000 := n2_; have HO_320001 := n3_; have HO_320002 := n4_; have HO_330000 := n5_; have HO_330001 := n6_; have HO_330002 := n7_; have HO_343000 := n8_; have HO_343001 := n9_; have HO_343002 := n10_; have HO347 := n11_; have HO350 := n12_; have HO353 := n13_; have BK296 := n14_; have BK319 := n15_; have BK329 := n16_; have BK342 := n17_; have HB := n18_; clear n0_ n1_ n2_ n3_ n4_ n5_ n6_ n7_ n8_ n9_ n10_ n11_ n12_ n13_ n14_ n15_ n16_ n17_ n18_; (try clear hb); (try clear hb2); (try clear hk); (try clear hi); obtain ⟨Ao95, co95, eo95⟩ := Kd.R_slice HO_8.out; subst eo95; obtain ⟨Ao96, co96, eo96⟩ := Kd.R_slice HO_5.out; subst eo96) | (go_at_call 14; (with_reducible refine (laws_eqIntS.calls kj10 _ _ t339 _ _ t316 t360 _ ?side1 ?side2 ?side3 ?side4 A86.out).mono ?_); (case side1 => repeat (first | exact (Kd.R_reads' HO_8.out).2.2 | (with_reducible refine Kd.C_alloc ?_ _) | (with_reducible refine Kd.C_drewN ?_ _) | (with_reducible refine Kd.C_drew ?_))); (case side2 => exact (Kd.R_reads' HO_8.out).2.1); (case side3 => repeat (first | exact (Kd.R_reads' HO_5.out).2.2 | (with_reducible refine Kd.C_alloc ?_ _) | (with_reducible refine Kd.C_drewN ?_ _) | (with_reducible refine Kd.C_drew ?_))); (case side4 => exact (Kd.R_reads' HO_5.out).2.1); rintro e w' ⟨rfl, ⟨nd, rfl⟩⟩))
         go_meet
         case rel => exact ⟨_, (!t360), (by first | rfl | (simp; done) | (simp [*]; done)), H', ⟨by have := HJ10.out; first | omega | exact Nat.le_refl _⟩, ⟨by refine rC (a := ?_); exact Kd.R_mono HO_5.out (fun _ hk => ⟨hk.1, ⟨hk.2.1, ⟨hk.2.2.1, ⟨hk.2.2.2.1, ⟨hk.2.2.2.2.1, ⟨hk.2.2.2.2.2.1, hk.2.2.2.2.2.2.1⟩⟩⟩⟩⟩⟩)⟩, ⟨by refine rC (a := ?_); exact Kd.R_mono HO_8.out (fun _ hk => ⟨hk.1, ⟨hk.2.1, ⟨hk.2.2.1, ⟨hk.2.2.2.1, ⟨hk.2.2.2.2.1, ⟨hk.2.2.2.2.2.1, hk.2.2.2.2.2.2.1⟩⟩⟩⟩⟩⟩)⟩, ⟨by refine rC (a := ?_); exact Kd.R_mono HO_320000.out (fun _ hk => ⟨hk.1, hk.2.1⟩)⟩, ⟨by refine rC (a := ?_); exact Kd.R_mono HO_320001.out (fun _ hk => ⟨hk.1, ⟨hk.2.1, ⟨hk.2.2.1, ⟨hk.2.2.2.1, ⟨hk.2.2.2.2.1, ⟨hk.2.2.2.2.2.1, hk.2.2.2.2.2.2.1⟩⟩⟩⟩⟩⟩)⟩, ⟨by refine rC (a := ?_); exact Kd.R_mono HO_320002.out (fun _ hk => ⟨hk.1, ⟨hk.2.1, ⟨hk.2.2.1, ⟨hk.2.2.2.1, ⟨hk.2.2.2.2.1, ⟨hk.2.2.2.2.2.1, hk.2.2.2.2.2.2.1⟩⟩⟩⟩⟩⟩)⟩, ⟨by refine rC (a := ?_); exact Kd.R_mono HO_330000.out (fun _ hk => ⟨hk.1.1, hk.1.2⟩)⟩, ⟨by refine rC (a := ?_); exact Kd.R_mono HO_330001.out (fun _ hk => ⟨hk.1.1.1, ⟨hk.1.1.2.1, ⟨hk.1.1.2.2.1, ⟨hk.1.1.2.2.2.1, ⟨hk.1.1.2.2.2.2.1, ⟨hk.1.1.2.2.2.2.2.1, hk.1.1.2.2.2.2.2.2⟩⟩⟩⟩⟩⟩)⟩, ⟨by refine rC (a := ?_); exact Kd.R_mono HO_330002.out (fun _ hk => ⟨hk.1.1.1, ⟨hk.1.1.2.1, ⟨hk.1.1.2.2.1, ⟨hk.1.1.2.2.2.1, ⟨hk.1.1.2.2.2.2.1, ⟨hk.1.1.2.2.2.2.2.1, hk.1.1.2.2.2.2.2.2⟩⟩⟩⟩⟩⟩)⟩, ⟨by refine rC (a := ?_); exact Kd.R_mono HO_343000.out (fun _ hk => ⟨hk.1, hk.2.1⟩)⟩, ⟨by refine rC (a := ?_); exact Kd.R_mono HO_343001.out (fun _ hk => ⟨hk.1, ⟨hk.2.1, ⟨hk.2.2.1, ⟨hk.2.2.2.1, ⟨hk.2.2.2.2.1, ⟨hk.2.2.2.2.2.1, hk.2.2.2.2.2.2.1⟩⟩⟩⟩⟩⟩)⟩, ⟨by refine rC (a := ?_); exact Kd.R_mono HO_343002.out (fun _ hk => ⟨hk.1, ⟨hk.2.1, ⟨hk.2.2.1, ⟨hk.2.2.2.1, ⟨hk.2.2.2.2.1, ⟨hk.2.2.2.2.2.1, hk.2.2.2.2.2.2.1⟩⟩⟩⟩⟩⟩)⟩, ⟨by refine bC (a := ?_); exact BK296.out⟩, ⟨by refine bC (a := ?_); exact BK319.out⟩, ⟨by refine bC (a := ?_); exact BK329.out⟩, ⟨by refine bC (a := ?_); exact BK342.out⟩, ⟨hA HB.out⟩⟩
        ·replace c85 := Bool.eq_false_iff.mpr c85
         subst c85
         have H1 : (laws_FnExactMendBook.j1 kj10 t316 t339 true l0_0 l0_1 l0_2 t307 t310 t313 t330 t333 t336) = some r := by rw [if_neg (show ¬ (false = true) by decide)] at H; exact H
         clear H
         have H := H1
         clear H1
         have H' := Aside0.mk H
         clear H
         have hnb97 := NB342_296.out
         have hnc97 := NB296_342.out
         have hnb98 := NB342_319.out
         have hnc98 := NB319_342.out
         have hnb99 := NB342_329.out
         have hnc99 := NB329_342.out
         have hcz100_0 : w82.cell? ⟨gb342, 0, none⟩ = some (.slice Ao38 t330.length co38) := (blk_cell BK342.out 0).trans rfl
         have hcz100_1 : w82.cell? ⟨gb342, 1, none⟩ = some (.slice Ao43 t333.length co43) := (blk_cell BK342.out 1).trans rfl
         have hcz100_2 : w82.cell? ⟨gb342, 2, none⟩ = some (.slice Ao44 t336.length co44) := (blk_cell BK342.out 2).trans rfl
         have hfz100_0 := blk_frozen BK342.out 0
         have hfz100_1 := blk_frozen BK342.out 1
         have hfz100_2 := blk_frozen BK342.out 2
         have hnb101 := NB319_296.out
         have hnc101 := NB296_319.out
         have hnb102 := NB319_329.out
         have hnc102 := NB329_319.out
         have hcz103_0 : w82.cell? ⟨gb319, 0, none⟩ = some (.slice Ao22 t307.length co22) := (blk_cell BK319.out 0).trans rfl
         have hcz103_1 : w82.cell? ⟨gb319, 1, none⟩ = some (.slice Ao25 t310.length co25) := (blk_cell BK319.out 1).trans rfl
         have hcz103_2 : w82.cell? ⟨gb319, 2, none⟩ = some (.slice Ao26 t313.length co26) := (blk_cell BK319.out 2).trans rfl
         have hfz103_0 := blk_frozen BK319.out 0
         have hfz103_1 := blk_frozen BK319.out 1
         have hfz103_2 := blk_frozen BK319.out 2
         go_wp2_with (first | (go_at_call 13; (with_reducible refine (laws_eqBook.calls kj10 _ _ t330 _ _ t333 _ _ t336 _ _ t307 _ _ t310 _ _ t313 false _ ?side1 ?side2 ?side3 ?side4 ?side5 ?side6 ?side7 ?side8 ?side9 ?side10 ?side11 ?side12 A84.out).mono ?_); (case side1 => repeat (first | exact (Kd.R_reads' HO_343000.out).2.2 | (with_reducible refine Kd.C_alloc ?_ _) | (with_reducible refine Kd.C_drewN ?_ _) | (with_reducible refine Kd.C_drew ?_))); (case side2 => exact (Kd.R_reads' HO_343000.out).2.1); (case side3 => repeat (first | exact (Kd.R_reads' HO_343001.out).2.2 | (with_reducible refine Kd.C_alloc ?_ _) | (with_reducible refine Kd.C_drewN ?_ _) | (with_reducible refine Kd.C_drew ?_))); (case side4 => exact (Kd.R_reads' HO_343001.out).2.1); (case side5 => repeat (first | exact (Kd.R_reads' HO_343002.out).2.2 | (with_reducible refine Kd.C_alloc ?_ _) | (with_reducible refine Kd.C_drewN ?_ _) | (with_reducible refine Kd.C_drew ?_))); (case side6 => exact (Kd.R_reads' HO_343002.out).2.1); (case side7 => repeat (first | exact (Kd.R_reads' HO_320000.out).2.2 | (with_reducible refine Kd.C_alloc ?_ _) | (with_reducible refine Kd.C_drewN ?_ _) | (with_reducible refine Kd.C_drew ?_))); (case side8 => exact (Kd.R_reads' HO_320000.out).2.1); (case side9 => repeat (first | exact (Kd.R_reads' HO_320001.out).2.2 | (with_reducible refine Kd.C_alloc ?_ _) | (with_reducible refine Kd.C_drewN ?_ _) | (with_reducible refine Kd.C_drew ?_))); (case side10 => exact (Kd.R_reads' HO_320001.out).2.1); (case side11 => repeat (first | exact (Kd.R_reads' HO_320002.out).2.2 | (with_reducible refine Kd.C_alloc ?_ _) | (with_reducible refine Kd.C_drewN ?_ _) | (with_reducible refine Kd.C_drew ?_))); (case side12 => exact (Kd.R_reads' HO_320002.out).2.1); rintro e w104 ⟨rfl, hb⟩; have n0_ := Aside0.mk (Kd.R_below (rA HO_5.out) hb); have n1_ := Aside0.mk (Kd.R_below (rA HO_8.out) hb); have n2_ := Aside0.mk (Kd.R_below (rA HO_320000.out) hb); have n3_ := Aside0.mk (Kd.R_below (rA HO_320001.out) hb); have n4_ := Aside0.mk (Kd.R_below (rA HO_320002.out) hb); have n5_ := Aside0.mk (Kd.R_below (rA HO_330000.out) hb); have n6_ := Aside0.mk (Kd.R_below (rA HO_330001.out) hb); have n7_ := Aside0.mk (Kd.R_below (rA HO_330002.out) hb); have n8_ := Aside0.mk (Kd.R_below (rA HO_343000.out) hb); have n9_ := Aside0.mk (Kd.R_below (rA HO_343001.out) hb); have n10_ := Aside0.mk (Kd.R_below (rA HO_343002.out) hb); have n11_ := Aside0.mk (Kd.R_below (rA HO347.out) hb); have n12_ := Aside0.mk (Kd.R_below (rA HO350.out) hb); have n13_ := Aside0.mk (Kd.R_below (rA HO353.out) hb); have n14_ := Aside0.mk (blk_below (g := gb296) (o := .cells #[.slice A0_0 l0_0.length c0_0, .slice A0_1 l0_1.length c0_1, .slice A0_2 l0_2.length c0_2] 25 (0, 0)) (bA BK296.out) hb); have n15_ := Aside0.mk (blk_below (g := gb319) (o := .cells #[.slice Ao22 t307.length co22, .slice Ao25 t310.length co25, .slice Ao26 t313.length co26] 29 (0, 0)) (bA BK319.out) hb); have n16_ := Aside0.mk (blk_below (g := gb329) (o := .cells #[.slice Ao30 t320.length co30, .slice Ao34 t323.length co34, .slice Ao35 t326.length co35] 29 (0, 0)) (bA BK329.out) hb); have n17_ := Aside0.mk (blk_below (g := gb342) (o := .cells #[.slice Ao38 t330.length co38, .slice Ao43 t333.length co43, .slice Ao44 t336.length co44] 29 (0, 0)) (bA BK342.out) hb); have n18_ := Aside0.mk (below_step (hA HB.out) hb); clear HO_5; clear HO_8; clear HO_320000; clear HO_320001; clear HO_320002; clear HO_330000; clear HO_330001; clear HO_330002; clear HO_343000; clear HO_343001; clear HO_343002; clear HO347; clear HO350; clear HO353; clear BK296; clear BK319; clear BK329; clear BK342; clear HB; have HO_5 := n0_; have HO_8 := n1_; have HO_320000 := n2_; have HO_320001 := n3_; have HO_320002 := n4_; have HO_330000 := n5_; have HO_330001 := n6_; have HO_330002 := n7_; have HO_343000 := n8_; have HO_343001 := n9_; have HO_343002 := n10_; have HO347 := n11_; have HO350 := n12_; have HO353 := n13_; have BK296 := n14_; have BK319 := n15_; have BK329 := n16_; have BK342 := n17_; have HB := n18_; clear n0_ n1_ n2_ n3_ n4_ n5_ n6_ n7_ n8_ n9_ n10_ n11_ n12_ n13_ n14_ n15_ n16_ n17_ n18_; (try clear hb); (try clear hb2); (try clear hk); (try clear hi)))
         go_meet
         case rel => exact ⟨_, (true), (by first | rfl | (simp; done) | (simp [*]; done)), H', ⟨by have := HJ10.out; first | omega | exact Nat.le_refl _⟩, ⟨by refine rC (a := ?_); exact Kd.R_mono HO_5.out (fun _ hk => ⟨hk.1, ⟨hk.2.1, ⟨hk.2.2.1, ⟨hk.2.2.2.1, ⟨hk.2.2.2.2.1, ⟨hk.2.2.2.2.2.1, hk.2.2.2.2.2.2.1⟩⟩⟩⟩⟩⟩)⟩, ⟨by refine rC (a := ?_); exact Kd.R_mono HO_8.out (fun _ hk => ⟨hk.1, ⟨hk.2.1, ⟨hk.2.2.1, ⟨hk.2.2.2.1, ⟨hk.2.2.2.2.1, ⟨hk.2.2.2.2.2.1, hk.2.2.2.2.2.2.1⟩⟩⟩⟩⟩⟩)⟩, ⟨by refine rC (a := ?_); exact Kd.R_mono HO_320000.out (fun _ hk => ⟨hk.1, hk.2.1⟩)⟩, ⟨by refine rC (a := ?_); exact Kd.R_mono HO_320001.out (fun _ hk => ⟨hk.1, ⟨hk.2.1, ⟨hk.2.2.1, ⟨hk.2.2.2.1, ⟨hk.2.2.2.2.1, ⟨hk.2.2.2.2.2.1, hk.2.2.2.2.2.2.1⟩⟩⟩⟩⟩⟩)⟩, ⟨by refine rC (a := ?_); exact Kd.R_mono HO_320002.out (fun _ hk => ⟨hk.1, ⟨hk.2.1, ⟨hk.2.2.1, ⟨hk.2.2.2.1, ⟨hk.2.2.2.2.1, ⟨hk.2.2.2.2.2.1, hk.2.2.2.2.2.2.1⟩⟩⟩⟩⟩⟩)⟩, ⟨by refine rC (a := ?_); exact Kd.R_mono HO_330000.out (fun _ hk => ⟨hk.1.1, hk.1.2⟩)⟩, ⟨by refine rC (a := ?_); exact Kd.R_mono HO_330001.out (fun _ hk => ⟨hk.1.1.1, ⟨hk.1.1.2.1, ⟨hk.1.1.2.2.1, ⟨hk.1.1.2.2.2.1, ⟨hk.1.1.2.2.2.2.1, ⟨hk.1.1.2.2.2.2.2.1, hk.1.1.2.2.2.2.2.2⟩⟩⟩⟩⟩⟩)⟩, ⟨by refine rC (a := ?_); exact Kd.R_mono HO_330002.out (fun _ hk => ⟨hk.1.1.1, ⟨hk.1.1.2.1, ⟨hk.1.1.2.2.1, ⟨hk.1.1.2.2.2.1, ⟨hk.1.1.2.2.2.2.1, ⟨hk.1.1.2.2.2.2.2.1, hk.1.1.2.2.2.2.2.2⟩⟩⟩⟩⟩⟩)⟩, ⟨by refine rC (a := ?_); exact Kd.R_mono HO_343000.out (fun _ hk => ⟨hk.1, hk.2.1⟩)⟩, ⟨by refine rC (a := ?_); exact Kd.R_mono HO_343001.out (fun _ hk => ⟨hk.1, ⟨hk.2.1, ⟨hk.2.2.1, ⟨hk.2.2.2.1, ⟨hk.2.2.2.2.1, ⟨hk.2.2.2.2.2.1, hk.2.2.2.2.2.2.1⟩⟩⟩⟩⟩⟩)⟩, ⟨by refine rC (a := ?_); exact Kd.R_mono HO_343002.out (fun _ hk => ⟨hk.1, ⟨hk.2.1, ⟨hk.2.2.1, ⟨hk.2.2.2.1, ⟨hk.2.2.2.2.1, ⟨hk.2.2.2.2.2.1, hk.2.2.2.2.2.2.1⟩⟩⟩⟩⟩⟩)⟩, ⟨by refine bC (a := ?_); exact BK296.out⟩, ⟨by refine bC (a := ?_); exact BK319.out⟩, ⟨by refine bC (a := ?_); exact BK329.out⟩, ⟨by refine bC (a := ?_); exact BK342.out⟩, ⟨hA HB.out⟩⟩
      case rest =>
       clear HC71
       try clear c1
       try clear c2
       try clear p2
       try clear c3
       try clear c3b0
       try clear c4
       try clear c5
       try clear c6
       try clear c7
       try clear c8
       try clear c9
       try clear c10
       try clear c11
       try clear c12
       try clear c13
       try clear c15
       try clear c23
       try clear c31
       try clear c32
       try clear c39
       try clear c40
       try clear c41
       try clear c46
       try clear c48
       try clear c49
       try clear c50
       try clear c52
       try clear c53
       try clear c58
       try clear c59
       try clear c60
       try clear c62
       try clear c63
       try clear c66
       try clear c69
       try clear c78
       try clear c79
       try clear c80
       try clear c83
       try clear c83b0
       try clear c85
       try clear c87
       try clear c88
       try clear c89
       try clear c91
       try clear c92
       try clear c97
       try clear c98
       try clear c99
       try clear c101
       try clear c102
       try clear hcz100_0
       try clear hcz100_1
       try clear hcz100_2
       try clear hcz103_0
       try clear hcz103_1
       try clear hcz103_2
       try clear hcz13_0
       try clear hcz13_1
       try clear hcz13_2
       try clear hcz15_0
       try clear hcz15_1
       try clear hcz15_2
       try clear hcz24_0
       try clear hcz24_1
       try clear hcz24_2
       try clear hcz27_0
       try clear hcz27_1
       try clear hcz27_2
       try clear hcz33_0
       try clear hcz33_1
       try clear hcz33_2
       try clear hcz42_0
       try clear hcz42_1
       try clear hcz42_2
       try clear hcz51_0
       try clear hcz51_1
       try clear hcz51_2
       try clear hcz54_0
       try clear hcz54_1
       try clear hcz54_2
       try clear hcz5_0
       try clear hcz5_1
       try clear hcz5_2
       try clear hcz61_0
       try clear hcz61_1
       try clear hcz61_2
       try clear hcz64_0
       try clear hcz64_1
       try clear hcz64_2
       try clear hcz81_0
       try clear hcz81_1
       try clear hcz81_2
       try clear hcz90_0
       try clear hcz90_1
       try clear hcz90_2
       try clear hcz93_0
       try clear hcz93_1
       try clear hcz93_2
       try clear hfz100_0
       try clear hfz100_1
       try clear hfz100_2
       try clear hfz103_0
       try clear hfz103_1
       try clear hfz103_2
       try clear hfz13_0
       try clear hfz13_1
       try clear hfz13_2
       try clear hfz15_0
       try clear hfz15_1
       try clear hfz15_2
       try clear hfz24_0
       try clear hfz24_1
       try clear hfz24_2
       try clear hfz27_0
       try clear hfz27_1
       try clear hfz27_2
       try clear hfz33_0
       try clear hfz33_1
       try clear hfz33_2
       try clear hfz42_0
       try clear hfz42_1
       try clear hfz42_2
       try clear hfz51_0
       try clear hfz51_1
       try clear hfz51_2
       try clear hfz54_0
       try clear hfz54_1
       try clear hfz54_2
       try clear hfz5_0
       try clear hfz5_1
       try clear hfz5_2
       try clear hfz61_0
       try clear hfz61_1
       try clear hfz61_2
       try clear hfz64_0
       try clear hfz64_1
       try clear hfz64_2
       try clear hfz81_0
       try clear hfz81_1
       try clear hfz81_2
       try clear hfz90_0
       try clear hfz90_1
       try clear hfz90_2
       try clear hfz93_0
       try clear hfz93_1
       try clear hfz93_2
       try clear p2
       obtain ⟨kq, x63_70, rfl, HA, HJ70, HO_5, HO_8, HO_320000, HO_320001, HO_320002, HO_330000, HO_330001, HO_330002, HO_343000, HO_343001, HO_343002, BK296, BK319, BK329, BK342, HB⟩ := hcut
       exact laws_FnExactMendBook.rest2 k A0_0 c0_0 l0_0 A0_1 c0_1 l0_1 A0_2 c0_2 l0_2 r w HR0_0 HC0_0 HR0_1 HC0_1 HR0_2 HC0_2 t297 A2 t298 t301 t304 A7 t307 t310 t313 t316 A8 t320 t323 t326 A9 t330 t333 t336 t339 A10 gb296 w12 GW296 GE296 w14 w16 Ao17 co17 Ao18 co18 Ao19 co19 w20 v317 gb319 w21 GW319 GE319 NB296_319 NB319_296 Ao22 co22 hnb23 hnc23 Ao25 co25 Ao26 co26 w28 gb329 w29 GW329 GE329 NB296_329 NB329_296 NB319_329 NB329_319 Ao30 co30 hnb31 hnc31 hnb32 hnc32 Ao34 co34 Ao35 co35 w36 v340 gb342 w37 GW342 GE342 NB296_342 NB342_296 NB319_342 NB342_319 NB329_342 NB342_329 Ao38 co38 HO300 HO309 HO322 HO332 hnb39 hnc39 hnb40 hnc40 hnb41 hnc41 Ao43 co43 Ao44 co44 HO303 HO306 HO312 HO315 HO318 HO325 HO328 HO335 HO338 HO341 u63 kj10 HJ10 t345 t348 t351 A67 A68 t355 t356 t357 t358 A70 w72 w73 Ao74 co74 Ao75 co75 Ao76 co76 w77 hHeld hnb78 hnc78 hnb79 hnc79 hnb80 hnc80 w82 HO347 HO350 HO353 _ _ rfl (by assumption) _ _ rfl (by assumption) wc u14 u15 u16 u17 u18 u19 u20 u21 u22 u23 u24 u25 u26 u27 u28 u29 u30 u31 u32 u33 u34 u35 u36 u37 u38 u39 u40 u41 u42 u43 u44 u45 u46 u47 u48 u49 u50 u51 u52 u53 u54 u55 u56 u57 u58 u59 u60 u61 u62 u64 u65 u66 u67 u68 u69 u70 u71 u72 u73 u74 u75 u76 u77 u78 u79 u80 u81 u82 u83 u84 u85 u86 u87 u88 u89 u90 u91 u92 u93 u94 u95 u96 u97 u98 u99 u100 u101 u102 u103 u104 u105 u106 u107 u108 u109 u110 u111 kq x63_70 HA HJ70 HO_5 HO_8 HO_320000 HO_320001 HO_320002 HO_330000 HO_330001 HO_330002 HO_343000 HO_343001 HO_343002 BK296 BK319 BK329 BK342 HB
     ·replace c69 := Bool.eq_false_iff.mpr c69
      subst c69
      have H1 : (some false) = some r := by rw [if_neg (show ¬ (false = true) by decide)] at H; exact H
      clear H
      have H := H1
      clear H1
      obtain rfl := Option.some.inj H
      try go_wp2
      have n0_ := Aside0.mk (Kd.R_drew HO_5.out)
      have n1_ := Aside0.mk (Kd.R_drew HO_8.out)
      have n2_ := Aside0.mk (Kd.R_drew HO_320000.out)
      have n3_ := Aside0.mk (Kd.R_drew HO_320001.out)
      have n4_ := Aside0.mk (Kd.R_drew HO_320002.out)
      have n5_ := Aside0.mk (Kd.R_drew HO_330000.out)
      have n6_ := Aside0.mk (Kd.R_drew HO_330001.out)
      have n7_ := Aside0.mk (Kd.R_drew HO_330002.out)
      have n8_ := Aside0.mk (Kd.R_drew HO_343000.out)
      have n9_ := Aside0.mk (Kd.R_drew HO_343001.out)
      have n10_ := Aside0.mk (Kd.R_drew HO_343002.out)
      have n11_ := Aside0.mk (blk_drew BK296.out)
      have n12_ := Aside0.mk (blk_drew BK319.out)
      have n13_ := Aside0.mk (blk_drew BK329.out)
      have n14_ := Aside0.mk (blk_drew BK342.out)
      have n15_ := Aside0.mk (below_drew1 HB.out)
      clear HO_5
      clear HO_8
      clear HO_320000
      clear HO_320001
      clear HO_320002
      clear HO_330000
      clear HO_330001
      clear HO_330002
      clear HO_343000
      clear HO_343001
      clear HO_343002
      clear BK296
      clear BK319
      clear BK329
      clear BK342
      clear HB
      have HO_5 := n0_
      have HO_8 := n1_
      have HO_320000 := n2_
      have HO_320001 := n3_
      have HO_320002 := n4_
      have HO_330000 := n5_
      have HO_330001 := n6_
      have HO_330002 := n7_
      have HO_343000 := n8_
      have HO_343001 := n9_
      have HO_343002 := n10_
      have BK296 := n11_
      have BK319 := n12_
      have BK329 := n13_
      have BK342 := n14_
      have HB := n15_
      clear n0_ n1_ n2_ n3_ n4_ n5_ n6_ n7_ n8_ n9_ n10_ n11_ n12_ n13_ n14_ n15_
      refine start_ (n := 5) (S := fun w' => w'.cell? ⟨gb329, 0, none⟩ = some (.slice Ao30 t320.length co30) ∧ w'.cell? ⟨gb329, 1, none⟩ = some (.slice Ao34 t323.length co34) ∧ w'.cell? ⟨gb329, 2, none⟩ = some (.slice Ao35 t326.length co35) ∧ w'.cell? ⟨gb296, 0, none⟩ = some (.slice A0_0 l0_0.length c0_0) ∧ w'.cell? ⟨gb296, 1, none⟩ = some (.slice A0_1 l0_1.length c0_1) ∧ w'.cell? ⟨gb296, 2, none⟩ = some (.slice A0_2 l0_2.length c0_2)) (ds := []) #[false, false, false, false, false] (by kernel_rfl) rfl rfl ⟨(blk_cell BK329.out 0).trans rfl, (blk_cell BK329.out 1).trans rfl, (blk_cell BK329.out 2).trans rfl, (blk_cell BK296.out 0).trans rfl, (blk_cell BK296.out 1).trans rfl, (blk_cell BK296.out 2).trans rfl⟩ (fun hHeld => ?_)
      generalize wc.drew = w224 at HO_5 HO_8 HO_320000 HO_320001 HO_320002 HO_330000 HO_330001 HO_330002 HO_343000 HO_343001 HO_343002 BK296 BK319 BK329 BK342 HB hHeld ⊢
      refine take_ (i := 0) (N := some 42) (v := ?_) (a' := ?_) #[true, false, false, false, false] rfl rfl (by kernel_rfl) (fun _ _ _ h => h) (Or.inl ⟨by rfl, ?_⟩) hHeld ?_ ?_
      rotate_left
      ·rintro w' ⟨s0, s1, s2, s3, s4, s5⟩
       go_simp
       with_reducible rfl
      rotate_left
      ·simp only [Act.put, List.setIfInBounds_toArray, List.set_cons_zero, List.set_cons_succ, i64_w, i32_w]
       rfl
      refine take_ (i := 1) (N := some 43) (v := ?_) (a' := ?_) #[true, true, false, false, false] rfl rfl (by kernel_rfl) (fun _ _ _ h => h) (Or.inl ⟨by rfl, ?_⟩) hHeld ?_ ?_
      rotate_left
      ·rintro w' ⟨s0, s1, s2, s3, s4, s5⟩
       go_simp
       with_reducible rfl
      rotate_left
      ·simp only [Act.put, List.setIfInBounds_toArray, List.set_cons_zero, List.set_cons_succ, i64_w, i32_w]
       rfl
      refine one_ (i := 2) (N := some 44) #[true, true, true, false, false] rfl rfl (by kernel_rfl) (by decide) (fun K hK => ?_)
      refine goes_ Try.func11 (by kernel_rfl) rfl #[.agg #[.slice A0_0 l0_0.length c0_0, .slice A0_1 l0_1.length c0_1, .slice A0_2 l0_2.length c0_2]] (by rfl) rfl rfl ar ?_
      with_reducible refine (laws_toBook.calls kj10 _ _ l0_0 _ _ l0_1 _ _ l0_2 t345 t348 t351 _ ?side1 ?side2 ?side3 ?side4 ?side5 ?side6 A67.out).mono ?_
      (case side1 => repeat (first | exact (Kd.C_below HR0_0.out HB.out) | (with_reducible refine Kd.C_alloc ?_ _) | (with_reducible refine Kd.C_drewN ?_ _) | (with_reducible refine Kd.C_drew ?_)))
      (case side2 => exact HC0_0.out)
      (case side3 => repeat (first | exact (Kd.C_below HR0_1.out HB.out) | (with_reducible refine Kd.C_alloc ?_ _) | (with_reducible refine Kd.C_drewN ?_ _) | (with_reducible refine Kd.C_drew ?_)))
      (case side4 => exact HC0_1.out)
      (case side5 => repeat (first | exact (Kd.C_below HR0_2.out HB.out) | (with_reducible refine Kd.C_alloc ?_ _) | (with_reducible refine Kd.C_drewN ?_ _) | (with_reducible refine Kd.C_drew ?_)))
      (case side6 => exact HC0_2.out)
      rintro e w225 ⟨v346, v349, v352, rfl, ho0, ho1, ho2, hb⟩
      refine ⟨_, rfl, ?_⟩
      have n0_ := Aside0.mk (Kd.R_mono (Kd.R_told (Kd.R_told (Kd.R_old (rA HO_5.out) hb) (Kd.R_base ho1)) (Kd.R_base ho2)) (fun _ h_ => h_.1))
      have n1_ := Aside0.mk (Kd.R_mono (Kd.R_told (Kd.R_told (Kd.R_old (rA HO_8.out) hb) (Kd.R_base ho1)) (Kd.R_base ho2)) (fun _ h_ => h_.1))
      have n2_ := Aside0.mk (Kd.R_elder' (rA HO_320000.out) (Kd.R_base ho0) hb)
      have n3_ := Aside0.mk (Kd.R_mono (Kd.R_told (Kd.R_told (Kd.R_old (rA HO_320001.out) hb) (Kd.R_base ho1)) (Kd.R_base ho2)) (fun _ h_ => h_.1))
      have n4_ := Aside0.mk (Kd.R_mono (Kd.R_told (Kd.R_told (Kd.R_old (rA HO_320002.out) hb) (Kd.R_base ho1)) (Kd.R_base ho2)) (fun _ h_ => h_.1))
      have n5_ := Aside0.mk (Kd.R_elder' (rA HO_330000.out) (Kd.R_base ho0) hb)
      have n6_ := Aside0.mk (Kd.R_mono (Kd.R_told (Kd.R_told (Kd.R_old (rA HO_330001.out) hb) (Kd.R_base ho1)) (Kd.R_base ho2)) (fun _ h_ => h_.1))
      have n7_ := Aside0.mk (Kd.R_mono (Kd.R_told (Kd.R_told (Kd.R_old (rA HO_330002.out) hb) (Kd.R_base ho1)) (Kd.R_base ho2)) (fun _ h_ => h_.1))
      have n8_ := Aside0.mk (Kd.R_elder' (rA HO_343000.out) (Kd.R_base ho0) hb)
      have n9_ := Aside0.mk (Kd.R_mono (Kd.R_told (Kd.R_told (Kd.R_old (rA HO_343001.out) hb) (Kd.R_base ho1)) (Kd.R_base ho2)) (fun _ h_ => h_.1))
      have n10_ := Aside0.mk (Kd.R_mono (Kd.R_told (Kd.R_told (Kd.R_old (rA HO_343002.out) hb) (Kd.R_base ho1)) (Kd.R_base ho2)) (fun _ h_ => h_.1))
      have n11_ := Aside0.mk (Kd.R_lower (Kd.R_new' (Kd.R_new' (Kd.R_new' ho0 (Kd.R_lt (rA HO_320000.out))) (Kd.R_lt (rA HO_330000.out))) (Kd.R_lt (rA HO_343000.out))) (below_size (hA HB.out)))
      have n12_ := Aside0.mk (Kd.R_lower (Kd.R_new' (Kd.R_new' (Kd.R_new' (Kd.R_new' (Kd.R_new' (Kd.R_new' (Kd.R_new' (Kd.R_new' ho1 (Kd.R_lt (rA HO_5.out))) (Kd.R_lt (rA HO_8.out))) (Kd.R_lt (rA HO_320001.out))) (Kd.R_lt (rA HO_320002.out))) (Kd.R_lt (rA HO_330001.out))) (Kd.R_lt (rA HO_330002.out))) (Kd.R_lt (rA HO_343001.out))) (Kd.R_lt (rA HO_343002.out))) (below_size (hA HB.out)))
      have n13_ := Aside0.mk (Kd.R_lower (Kd.R_new' (Kd.R_new' (Kd.R_new' (Kd.R_new' (Kd.R_new' (Kd.R_new' (Kd.R_new' (Kd.R_new' ho2 (Kd.R_lt (rA HO_5.out))) (Kd.R_lt (rA HO_8.out))) (Kd.R_lt (rA HO_320001.out))) (Kd.R_lt (rA HO_320002.out))) (Kd.R_lt (rA HO_330001.out))) (Kd.R_lt (rA HO_330002.out))) (Kd.R_lt (rA HO_343001.out))) (Kd.R_lt (rA HO_343002.out))) (below_size (hA HB.out)))
      have n14_ := Aside0.mk (blk_below (g := gb296) (o := .cells #[.slice A0_0 l0_0.length c0_0, .slice A0_1 l0_1.length c0_1, .slice A0_2 l0_2.length c0_2] 25 (0, 0)) (bA BK296.out) hb)
      have n15_ := Aside0.mk (blk_below (g := gb319) (o := .cells #[.slice Ao22 t307.length co22, .slice Ao25 t310.length co25, .slice Ao26 t313.length co26] 29 (0, 0)) (bA BK319.out) hb)
      have n16_ := Aside0.mk (blk_below (g := gb329) (o := .cells #[.slice Ao30 t320.length co30, .slice Ao34 t323.length co34, .slice Ao35 t326.length co35] 29 (0, 0)) (bA BK329.out) hb)
      have n17_ := Aside0.mk (blk_below (g := gb342) (o := .cells #[.slice Ao38 t330.length co38, .slice Ao43 t333.length co43, .slice Ao44 t336.length co44] 29 (0, 0)) (bA BK342.out) hb)
      have n18_ := Aside0.mk (below_step (hA HB.out) hb)
      clear HO_5
      clear HO_8
      clear HO_320000
      clear HO_320001
      clear HO_320002
      clear HO_330000
      clear HO_330001
      clear HO_330002
      clear HO_343000
      clear HO_343001
      clear HO_343002
      clear BK296
      clear BK319
      clear BK329
      clear BK342
      clear HB
      have HO_5 := n0_
      have HO_8 := n1_
      have HO_320000 := n2_
      have HO_320001 := n3_
      have HO_320002 := n4_
      have HO_330000 := n5_
      have HO_330001 := n6_
      have HO_330002 := n7_
      have HO_343000 := n8_
      have HO_343001 := n9_
      have HO_343002 := n10_
      have HO347 := n11_
      have HO350 := n12_
      have HO353 := n13_
      have BK296 := n14_
      have BK319 := n15_
      have BK329 := n16_
      have BK342 := n17_
      have HB := n18_
      clear n0_ n1_ n2_ n3_ n4_ n5_ n6_ n7_ n8_ n9_ n10_ n11_ n12_ n13_ n14_ n15_ n16_ n17_ n18_
      (try clear hb)
      (try clear hb2)
      (try clear hk)
      (try clear hi)
      (try clear ho0)
      (try clear ho1)
      (try clear ho2)
      obtain ⟨Ao226, co226, eo226⟩ := Kd.R_slice HO347.out
      (first | subst eo226 | (injection eo226 with f1_ f2_ f3_; have f4_ := f1_.symm; have f5_ := f3_.symm; clear f1_ f2_ f3_; subst f4_; subst f5_))
      obtain ⟨Ao227, co227, eo227⟩ := Kd.R_slice HO350.out
      (first | subst eo227 | (injection eo227 with f1_ f2_ f3_; have f4_ := f1_.symm; have f5_ := f3_.symm; clear f1_ f2_ f3_; subst f4_; subst f5_))
      obtain ⟨Ao228, co228, eo228⟩ := Kd.R_slice HO353.out
      (first | subst eo228 | (injection eo228 with f1_ f2_ f3_; have f4_ := f1_.symm; have f5_ := f3_.symm; clear f1_ f2_ f3_; subst f4_; subst f5_))
      refine hK.out _ _ ⟨(blk_cell BK329.out 0).trans rfl, (blk_cell BK329.out 1).trans rfl, (blk_cell BK329.out 2).trans rfl, (blk_cell BK296.out 0).trans rfl, (blk_cell BK296.out 1).trans rfl, (blk_cell BK296.out 2).trans rfl⟩ (fun hHeld => ?_)
      clear hK K
      refine norm_ (a' := ?_) ?_ ?_
      rotate_left
      ·show Act.put _ (some 44) _ = _
       simp only [Act.put, List.setIfInBounds_toArray, List.set_cons_zero, List.set_cons_succ, i64_w, i32_w]
       rfl
      refine one_ (i := 3) (N := some 45) #[true, true, true, true, false] rfl rfl (by kernel_rfl) (by decide) (fun K hK => ?_)
      refine goes_ Try.func13 (by kernel_rfl) rfl #[.agg #[.slice Ao30 t320.length co30, .slice Ao34 t323.length co34, .slice Ao35 t326.length co35], .agg #[.slice Ao226 t345.length co226, .slice Ao227 t348.length co227, .slice Ao228 t351.length co228]] (by rfl) rfl rfl ar ?_
      with_reducible refine (laws_eqBook.calls kj10 _ _ t320 _ _ t323 _ _ t326 _ _ t345 _ _ t348 _ _ t351 false _ ?side1 ?side2 ?side3 ?side4 ?side5 ?side6 ?side7 ?side8 ?side9 ?side10 ?side11 ?side12 A68.out).mono ?_
      (case side1 => repeat (first | exact (Kd.R_reads' HO_330000.out).2.2 | (with_reducible refine Kd.C_alloc ?_ _) | (with_reducible refine Kd.C_drewN ?_ _) | (with_reducible refine Kd.C_drew ?_)))
      (case side2 => exact (Kd.R_reads' HO_330000.out).2.1)
      (case side3 => repeat (first | exact (Kd.R_reads' HO_330001.out).2.2 | (with_reducible refine Kd.C_alloc ?_ _) | (with_reducible refine Kd.C_drewN ?_ _) | (with_reducible refine Kd.C_drew ?_)))
      (case side4 => exact (Kd.R_reads' HO_330001.out).2.1)
      (case side5 => repeat (first | exact (Kd.R_reads' HO_330002.out).2.2 | (with_reducible refine Kd.C_alloc ?_ _) | (with_reducible refine Kd.C_drewN ?_ _) | (with_reducible refine Kd.C_drew ?_)))
      (case side6 => exact (Kd.R_reads' HO_330002.out).2.1)
      (case side7 => repeat (first | exact (Kd.R_reads' HO347.out).2.2 | (with_reducible refine Kd.C_alloc ?_ _) | (with_reducible refine Kd.C_drewN ?_ _) | (with_reducible refine Kd.C_drew ?_)))
      (case side8 => exact (Kd.R_reads' HO347.out).2.1)
      (case side9 => repeat (first | exact (Kd.R_reads' HO350.out).2.2 | (with_reducible refine Kd.C_alloc ?_ _) | (with_reducible refine Kd.C_drewN ?_ _) | (with_reducible refine Kd.C_drew ?_)))
      (case side10 => exact (Kd.R_reads' HO350.out).2.1)
      (case side11 => repeat (first | exact (Kd.R_reads' HO353.out).2.2 | (with_reducible refine Kd.C_alloc ?_ _) | (with_reducible refine Kd.C_drewN ?_ _) | (with_reducible refine Kd.C_drew ?_)))
      (case side12 => exact (Kd.R_reads' HO353.out).2.1)
      rintro e w229 ⟨rfl, hb⟩
      refine ⟨_, rfl, ?_⟩
      have n0_ := Aside0.mk (Kd.R_below (rA HO_5.out) hb)
      have n1_ := Aside0.mk (Kd.R_below (rA HO_8.out) hb)
      have n2_ := Aside0.mk (Kd.R_below (rA HO_320000.out) hb)
      have n3_ := Aside0.mk (Kd.R_below (rA HO_320001.out) hb)
      have n4_ := Aside0.mk (Kd.R_below (rA HO_320002.out) hb)
      have n5_ := Aside0.mk (Kd.R_below (rA HO_330000.out) hb)
      have n6_ := Aside0.mk (Kd.R_below (rA HO_330001.out) hb)
      have n7_ := Aside0.mk (Kd.R_below (rA HO_330002.out) hb)
      have n8_ := Aside0.mk (Kd.R_below (rA HO_343000.out) hb)
      have n9_ := Aside0.mk (Kd.R_below (rA HO_343001.out) hb)
      have n10_ := Aside0.mk (Kd.R_below (rA HO_343002.out) hb)
      have n11_ := Aside0.mk (Kd.R_below (rA HO347.out) hb)
      have n12_ := Aside0.mk (Kd.R_below (rA HO350.out) hb)
      have n13_ := Aside0.mk (Kd.R_below (rA HO353.out) hb)
      have n14_ := Aside0.mk (blk_below (g := gb296) (o := .cells #[.slice A0_0 l0_0.length c0_0, .slice A0_1 l0_1.length c0_1, .slice A0_2 l0_2.length c0_2] 25 (0, 0)) (bA BK296.out) hb)
      have n15_ := Aside0.mk (blk_below (g := gb319) (o := .cells #[.slice Ao22 t307.length co22, .slice Ao25 t310.length co25, .slice Ao26 t313.length co26] 29 (0, 0)) (bA BK319.out) hb)
      have n16_ := Aside0.mk (blk_below (g := gb329) (o := .cells #[.slice Ao30 t320.length co30, .slice Ao34 t323.length co34, .slice Ao35 t326.length co35] 29 (0, 0)) (bA BK329.out) hb)
      have n17_ := Aside0.mk (blk_below (g := gb342) (o := .cells #[.slice Ao38 t330.length co38, .slice Ao43 t333.length co43, .slice Ao44 t336.length co44] 29 (0, 0)) (bA BK342.out) hb)
      have n18_ := Aside0.mk (below_step (hA HB.out) hb)
      clear HO_5
      clear HO_8
      clear HO_320000
      clear HO_320001
      clear HO_320002
      clear HO_330000
      clear HO_330001
      clear HO_330002
      clear HO_343000
      clear HO_343001
      clear HO_343002
      clear HO347
      clear HO350
      clear HO353
      clear BK296
      clear BK319
      clear BK329
      clear BK342
      clear HB
      have HO_5 := n0_
      have HO_8 := n1_
      have HO_320000 := n2_
      have HO_320001 := n3_
      have HO_320002 := n4_
      have HO_330000 := n5_
      have HO_330001 := n6_
      have HO_330002 := n7_
      have HO_343000 := n8_
      have HO_343001 := n9_
      have HO_343002 := n10_
      have HO347 := n11_
      have HO350 := n12_
      have HO353 := n13_
      have BK296 := n14_
      have BK319 := n15_
      have BK329 := n16_
      have BK342 := n17_
      have HB := n18_
      clear n0_ n1_ n2_ n3_ n4_ n5_ n6_ n7_ n8_ n9_ n10_ n11_ n12_ n13_ n14_ n15_ n16_ n17_ n18_
      (try clear hb)
      (try clear hb2)
      (try clear hk)
      (try clear hi)
      refine hK.out _ _ ⟨(blk_cell BK329.out 0).trans rfl, (blk_cell BK329.out 1).trans rfl, (blk_cell BK329.out 2).trans rfl, (blk_cell BK296.out 0).trans rfl, (blk_cell BK296.out 1).trans rfl, (blk_cell BK296.out 2).trans rfl⟩ (fun hHeld => ?_)
      clear hK K
      refine norm_ (a' := ?_) ?_ ?_
      rotate_left
      ·show Act.put _ (some 45) _ = _
       simp only [Act.put, List.setIfInBounds_toArray, List.set_cons_zero, List.set_cons_succ, i64_w, i32_w]
       rfl
      refine pure_ (i := 4) (N := some 46) (v := ?_) (a' := ?_) #[true, true, true, true, true] rfl rfl (by kernel_rfl) (fun _ _ _ h => h) (Or.inl ⟨by rfl, ?_⟩) ?_ ?_
      rotate_left
      ·intro w'
       go_simp
       with_reducible rfl
      rotate_left
      ·simp only [Act.put, List.setIfInBounds_toArray, List.set_cons_zero, List.set_cons_succ, i64_w, i32_w]
       rfl
      refine done_ (by kernel_rfl) ?_
      try go_wp2
      go_ret
      exact ⟨by first | rfl | (simp [errW_none, errW_some] <;> rfl) | (simp [*, errW_none, errW_some] <;> rfl), hA HB.out⟩

end Go.Proofs.Ytngnkfpciloamaa.MFnExactMendBook
