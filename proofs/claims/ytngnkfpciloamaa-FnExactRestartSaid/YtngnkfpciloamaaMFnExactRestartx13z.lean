/- A piece of the law FnExactRestart: begun as a text of the print over stubs; turned and cut by wip/split.py. -/
import Derived.Test.YtngnkfpciloamaaShortFnExactRestart
import Derived.Test.YtngnkfpciloamaaMFnExactRestartx0
import Derived.Test.YtngnkfpciloamaaMFnExactRestartx4
import Derived.Test.YtngnkfpciloamaaMFnExactRestartx5
import Derived.Test.YtngnkfpciloamaaMFnExactRestartx6
import Derived.Test.YtngnkfpciloamaaMFnExactRestartx10
import Derived.Test.YtngnkfpciloamaaMFnExactRestartx12
import Derived.Test.YtngnkfpciloamaaMFnExactRestartx13
import Derived.Test.YtngnkfpciloamaaMFnExactRestartx13a
namespace Go.Proofs.Ytngnkfpciloamaa.MFnExactRestart
open Go.RowKit Go.Proofs.YtngnkfpciloamaaW.PrintWords Go.Proofs.YtngnkfpciloamaaW.PrintLast Go.Proofs.YtngnkfpciloamaaW.PrintMore
attribute [local go_sem] max2_int min2_int max_two min_two max_three min_three max_four min_four   -- for this text's walks alone
set_option linter.unusedVariables false
set_option linter.unusedSimpArgs false
set_option maxRecDepth 100000
set_option maxHeartbeats 0
theorem laws_FnExactRestart.calls (k : Nat) (A0_0 : Option Addr) (c0_0 : Nat) (l0_0 : List (S54)) (A0_1 : Option Addr) (c0_1 : Nat) (l0_1 : List Int) (A0_2 : Option Addr) (c0_2 : Nat) (l0_2 : List Int) (a1 : Int) (r : Bool) (w : World) (hr0_0 : Kd.C k54 w A0_0 l0_0.length l0_0) (hc0_0 : l0_0.length ≤ c0_0) (hr0_1 : Kd.C (Kd.int .i64) w A0_1 l0_1.length l0_1) (hc0_1 : l0_1.length ≤ c0_1) (hr0_2 : Kd.C (Kd.int .i64) w A0_2 l0_2.length l0_2) (hc0_2 : l0_2.length ≤ c0_2) (h : laws_FnExactRestart.f k l0_0 l0_1 l0_2 a1 = some r) :
  Calls Try.prog 6 #[.agg #[.slice A0_0 l0_0.length c0_0, .slice A0_1 l0_1.length c0_1, .slice A0_2 l0_2.length c0_2], .int .i64 a1] w fun e w' => e = .returned (.bool r) ∧ Below w.heap.size w w' := by
 have hu25 := Try.underlying25
 have hu29 := Try.underlying29
 have HR0_0 := Aside0.mk hr0_0
 have HC0_0 := Aside0.mk hc0_0
 clear hr0_0 hc0_0
 have HR0_1 := Aside0.mk hr0_1
 have HC0_1 := Aside0.mk hc0_1
 clear hr0_1 hc0_1
 have HR0_2 := Aside0.mk hr0_2
 have HC0_2 := Aside0.mk hc0_2
 clear hr0_2 hc0_2
 have HB := Aside0.mk (Below.refl w.heap.size w)
 have H : ((laws_szBook.f l0_0 l0_1 l0_2 1048576).bind fun t403 => (if t403 < 0 then (some true) else ((laws_toBook.f k l0_0 l0_1 l0_2).bind fun bt404 => ((spec_Restart.f k bt404.1 bt404.2.1 bt404.2.2 a1).bind fun bt413 => ((laws_toBook.f k l0_0 l0_1 l0_2).bind fun bt424 => ((impl_Restart.f k bt424.1 bt424.2.1 bt424.2.2 a1).bind fun bt434 => ((laws_eqBook.f k bt434.1 bt434.2.1 bt434.2.2.1 bt413.1 bt413.2.1 bt413.2.2.1).bind fun t445 => (if t445 = true then (laws_FnExactRestart.j0 k a1 bt413.2.2.2 bt434.2.2.2 (bt434.2.2.2 != bt413.2.2.2) l0_0 l0_1 l0_2 bt413.1 bt413.2.1 bt413.2.2.1 bt424.1 bt424.2.1 bt424.2.2 bt434.1 bt434.2.1 bt434.2.2.1) else (laws_FnExactRestart.j0 k a1 bt413.2.2.2 bt434.2.2.2 true l0_0 l0_1 l0_2 bt413.1 bt413.2.1 bt413.2.2.1 bt424.1 bt424.2.1 bt424.2.2 bt434.1 bt434.2.1 bt434.2.2.1))))))))) = some r := h
 clear h
 replace H := Option.bind_eq_some_iff.mp H
 obtain ⟨t403, A30, H⟩ := H
 replace H : (if t403 < 0 then (some true) else ((laws_toBook.f k l0_0 l0_1 l0_2).bind fun bt404 => ((spec_Restart.f k bt404.1 bt404.2.1 bt404.2.2 a1).bind fun bt413 => ((laws_toBook.f k l0_0 l0_1 l0_2).bind fun bt424 => ((impl_Restart.f k bt424.1 bt424.2.1 bt424.2.2 a1).bind fun bt434 => ((laws_eqBook.f k bt434.1 bt434.2.1 bt434.2.2.1 bt413.1 bt413.2.1 bt413.2.2.1).bind fun t445 => (if t445 = true then (laws_FnExactRestart.j0 k a1 bt413.2.2.2 bt434.2.2.2 (bt434.2.2.2 != bt413.2.2.2) l0_0 l0_1 l0_2 bt413.1 bt413.2.1 bt413.2.2.1 bt424.1 bt424.2.1 bt424.2.2 bt434.1 bt434.2.1 bt434.2.2.1) else (laws_FnExactRestart.j0 k a1 bt413.2.2.2 bt434.2.2.2 true l0_0 l0_1 l0_2 bt413.1 bt413.2.1 bt413.2.2.1 bt424.1 bt424.2.1 bt424.2.2 bt434.1 bt434.2.1 bt434.2.2.1)))))))) = some r := H
 have A3 := Aside0.mk A30
 clear A30
 by_cases c4 : t403 < 0
 ·rw [if_pos c4] at H
  have c4b0 : decide (t403 < 0) = true := decide_eq_true c4
  clear c4
  obtain rfl := Option.some.inj H
  go_enter Try.func6, Try.ntmps6
  go_wp2_with (first | ((with_reducible refine gate_dst (N := 2) rfl ?_); refine box_event ?hg (N := 2) ?hd (cs := #[.slice A0_0 l0_0.length c0_0, .slice A0_1 l0_1.length c0_1, .slice A0_2 l0_2.length c0_2]) (t := 25) ?hr ?_; (case hd => rfl); (case hg => rfl); (case hr => first | (go_simp; done) | (go_simp; rfl)); intro gb402 hg w5 hbox hb; have n0_ := Aside0.mk (below_step (hA HB.out) hb); have n1_ := Aside0.mk (hbox); have n2_ := Aside0.mk ((by rw [hg]; exact (below_size (hA HB.out)) : w.heap.size ≤ gb402)); have n3_ := Aside0.mk ((by rw [hg]; exact (below_size (hA HB.out)) : w.heap.size ≤ gb402)); clear HB; have HB := n0_; have BK402 := n1_; have GW402 := n2_; have GE402 := n3_; clear n0_ n1_ n2_ n3_; clear hb hbox hg; have hcz6_0 : w5.cell? ⟨gb402, 0, none⟩ = some (.slice A0_0 l0_0.length c0_0) := (blk_cell BK402.out 0).trans rfl; have hcz6_1 : w5.cell? ⟨gb402, 1, none⟩ = some (.slice A0_1 l0_1.length c0_1) := (blk_cell BK402.out 1).trans rfl; have hcz6_2 : w5.cell? ⟨gb402, 2, none⟩ = some (.slice A0_2 l0_2.length c0_2) := (blk_cell BK402.out 2).trans rfl; have hfz6_0 := blk_frozen BK402.out 0; have hfz6_1 := blk_frozen BK402.out 1; have hfz6_2 := blk_frozen BK402.out 2) | ((with_reducible refine gate_callee (f := 9) rfl ?_); refine goesL_ (some 18) rfl rfl Try.func9 (by kernel_rfl) rfl #[.agg #[.slice A0_0 l0_0.length c0_0, .slice A0_1 l0_1.length c0_1, .slice A0_2 l0_2.length c0_2], .int .i64 1048576] rfl ar ?_; (with_reducible refine (laws_szBook.calls _ _ l0_0 _ _ l0_1 _ _ l0_2 1048576 t403 _ ?side1 ?side2 ?side3 ?side4 ?side5 ?side6 A3.out).mono ?_); (case side1 => exact cA (Kd.C_below HR0_0.out HB.out)); (case side2 => exact HC0_0.out); (case side3 => exact cA (Kd.C_below HR0_1.out HB.out)); (case side4 => exact HC0_1.out); (case side5 => exact cA (Kd.C_below HR0_2.out HB.out)); (case side6 => exact HC0_2.out); rintro e w7 ⟨rfl, hb⟩; refine ⟨_, rfl, ?_⟩; have n0_ := Aside0.mk (bB BK402.out hb); have n1_ := Aside0.mk (below_step (hA HB.out) hb); clear BK402; clear HB; have BK402 := n0_; have HB := n1_; clear n0_ n1_; (try clear hb); (try clear hb2); (try clear hk); (try clear hi)))
  go_ret
  exact ⟨er, hA HB.out⟩
 ·rw [if_neg c4] at H
  have c4b0 : decide (t403 < 0) = false := decide_eq_false c4
  clear c4
  replace H := Option.bind_eq_some_iff.mp H
  obtain ⟨⟨t404, t407, t410⟩, A80, H⟩ := H
  replace H : ((spec_Restart.f k t404 t407 t410 a1).bind fun bt413 => ((laws_toBook.f k l0_0 l0_1 l0_2).bind fun bt424 => ((impl_Restart.f k bt424.1 bt424.2.1 bt424.2.2 a1).bind fun bt434 => ((laws_eqBook.f k bt434.1 bt434.2.1 bt434.2.2.1 bt413.1 bt413.2.1 bt413.2.2.1).bind fun t445 => (if t445 = true then (laws_FnExactRestart.j0 k a1 bt413.2.2.2 bt434.2.2.2 (bt434.2.2.2 != bt413.2.2.2) l0_0 l0_1 l0_2 bt413.1 bt413.2.1 bt413.2.2.1 bt424.1 bt424.2.1 bt424.2.2 bt434.1 bt434.2.1 bt434.2.2.1) else (laws_FnExactRestart.j0 k a1 bt413.2.2.2 bt434.2.2.2 true l0_0 l0_1 l0_2 bt413.1 bt413.2.1 bt413.2.2.1 bt424.1 bt424.2.1 bt424.2.2 bt434.1 bt434.2.1 bt434.2.2.1)))))) = some r := H
  have A8 := Aside0.mk A80
  clear A80
  replace H := Option.bind_eq_some_iff.mp H
  obtain ⟨⟨t413, t416, t419, t422⟩, A90, H⟩ := H
  replace H : ((laws_toBook.f k l0_0 l0_1 l0_2).bind fun bt424 => ((impl_Restart.f k bt424.1 bt424.2.1 bt424.2.2 a1).bind fun bt434 => ((laws_eqBook.f k bt434.1 bt434.2.1 bt434.2.2.1 t413 t416 t419).bind fun t445 => (if t445 = true then (laws_FnExactRestart.j0 k a1 t422 bt434.2.2.2 (bt434.2.2.2 != t422) l0_0 l0_1 l0_2 t413 t416 t419 bt424.1 bt424.2.1 bt424.2.2 bt434.1 bt434.2.1 bt434.2.2.1) else (laws_FnExactRestart.j0 k a1 t422 bt434.2.2.2 true l0_0 l0_1 l0_2 t413 t416 t419 bt424.1 bt424.2.1 bt424.2.2 bt434.1 bt434.2.1 bt434.2.2.1))))) = some r := H
  have A9 := Aside0.mk A90
  clear A90
  replace H := Option.bind_eq_some_iff.mp H
  obtain ⟨⟨t424, t427, t430⟩, A100, H⟩ := H
  replace H : ((impl_Restart.f k t424 t427 t430 a1).bind fun bt434 => ((laws_eqBook.f k bt434.1 bt434.2.1 bt434.2.2.1 t413 t416 t419).bind fun t445 => (if t445 = true then (laws_FnExactRestart.j0 k a1 t422 bt434.2.2.2 (bt434.2.2.2 != t422) l0_0 l0_1 l0_2 t413 t416 t419 t424 t427 t430 bt434.1 bt434.2.1 bt434.2.2.1) else (laws_FnExactRestart.j0 k a1 t422 bt434.2.2.2 true l0_0 l0_1 l0_2 t413 t416 t419 t424 t427 t430 bt434.1 bt434.2.1 bt434.2.2.1)))) = some r := H
  have A10 := Aside0.mk A100
  clear A100
  replace H := Option.bind_eq_some_iff.mp H
  obtain ⟨⟨t434, t437, t440, t443⟩, A110, H⟩ := H
  replace H : ((laws_eqBook.f k t434 t437 t440 t413 t416 t419).bind fun t445 => (if t445 = true then (laws_FnExactRestart.j0 k a1 t422 t443 (t443 != t422) l0_0 l0_1 l0_2 t413 t416 t419 t424 t427 t430 t434 t437 t440) else (laws_FnExactRestart.j0 k a1 t422 t443 true l0_0 l0_1 l0_2 t413 t416 t419 t424 t427 t430 t434 t437 t440))) = some r := H
  have A11 := Aside0.mk A110
  clear A110
  have HC12 := Aside0.mk H
  clear H
  go_enter Try.func6, Try.ntmps6
  go_upto_region 8 with (first | ((with_reducible refine gate_dst (N := 2) rfl ?_); refine box_event ?hg (N := 2) ?hd (cs := #[.slice A0_0 l0_0.length c0_0, .slice A0_1 l0_1.length c0_1, .slice A0_2 l0_2.length c0_2]) (t := 25) ?hr ?_; (case hd => rfl); (case hg => rfl); (case hr => first | (go_simp; done) | (go_simp; rfl)); intro gb402 hg w13 hbox hb; have n0_ := Aside0.mk (below_step (hA HB.out) hb); have n1_ := Aside0.mk (hbox); have n2_ := Aside0.mk ((by rw [hg]; exact (below_size (hA HB.out)) : w.heap.size ≤ gb402)); have n3_ := Aside0.mk ((by rw [hg]; exact (below_size (hA HB.out)) : w.heap.size ≤ gb402)); clear HB; have HB := n0_; have BK402 := n1_; have GW402 := n2_; have GE402 := n3_; clear n0_ n1_ n2_ n3_; clear hb hbox hg; have hcz14_0 : w13.cell? ⟨gb402, 0, none⟩ = some (.slice A0_0 l0_0.length c0_0) := (blk_cell BK402.out 0).trans rfl; have hcz14_1 : w13.cell? ⟨gb402, 1, none⟩ = some (.slice A0_1 l0_1.length c0_1) := (blk_cell BK402.out 1).trans rfl; have hcz14_2 : w13.cell? ⟨gb402, 2, none⟩ = some (.slice A0_2 l0_2.length c0_2) := (blk_cell BK402.out 2).trans rfl; have hfz14_0 := blk_frozen BK402.out 0; have hfz14_1 := blk_frozen BK402.out 1; have hfz14_2 := blk_frozen BK402.out 2) | ((with_reducible refine gate_callee (f := 9) rfl ?_); refine goesL_ (some 18) rfl rfl Try.func9 (by kernel_rfl) rfl #[.agg #[.slice A0_0 l0_0.length c0_0, .slice A0_1 l0_1.length c0_1, .slice A0_2 l0_2.length c0_2], .int .i64 1048576] rfl ar ?_; (with_reducible refine (laws_szBook.calls _ _ l0_0 _ _ l0_1 _ _ l0_2 1048576 t403 _ ?side1 ?side2 ?side3 ?side4 ?side5 ?side6 A3.out).mono ?_); (case side1 => exact cA (Kd.C_below HR0_0.out HB.out)); (case side2 => exact HC0_0.out); (case side3 => exact cA (Kd.C_below HR0_1.out HB.out)); (case side4 => exact HC0_1.out); (case side5 => exact cA (Kd.C_below HR0_2.out HB.out)); (case side6 => exact HC0_2.out); rintro e w15 ⟨rfl, hb⟩; refine ⟨_, rfl, ?_⟩; have n0_ := Aside0.mk (bB BK402.out hb); have n1_ := Aside0.mk (below_step (hA HB.out) hb); clear BK402; clear HB; have BK402 := n0_; have HB := n1_; clear n0_ n1_; (try clear hb); (try clear hb2); (try clear hk); (try clear hi); have hcz16_0 : w15.cell? ⟨gb402, 0, none⟩ = some (.slice A0_0 l0_0.length c0_0) := (blk_cell BK402.out 0).trans rfl; have hcz16_1 : w15.cell? ⟨gb402, 1, none⟩ = some (.slice A0_1 l0_1.length c0_1) := (blk_cell BK402.out 1).trans rfl; have hcz16_2 : w15.cell? ⟨gb402, 2, none⟩ = some (.slice A0_2 l0_2.length c0_2) := (blk_cell BK402.out 2).trans rfl; have hfz16_0 := blk_frozen BK402.out 0; have hfz16_1 := blk_frozen BK402.out 1; have hfz16_2 := blk_frozen BK402.out 2) | ((with_reducible refine gate_callee (f := 11) rfl ?_); refine goesL_ (some 23) rfl rfl Try.func11 (by kernel_rfl) rfl #[.agg #[.slice A0_0 l0_0.length c0_0, .slice A0_1 l0_1.length c0_1, .slice A0_2 l0_2.length c0_2]] rfl ar ?_; (with_reducible refine (laws_toBook.calls k _ _ l0_0 _ _ l0_1 _ _ l0_2 t404 t407 t410 _ ?side1 ?side2 ?side3 ?side4 ?side5 ?side6 A8.out).mono ?_); (case side1 => exact cA (Kd.C_below HR0_0.out HB.out)); (case side2 => exact HC0_0.out); (case side3 => exact cA (Kd.C_below HR0_1.out HB.out)); (case side4 => exact HC0_1.out); (case side5 => exact cA (Kd.C_below HR0_2.out HB.out)); (case side6 => exact HC0_2.out); rintro e w17 ⟨v405, v408, v411, rfl, ho0, ho1, ho2, hb⟩; refine ⟨_, rfl, ?_⟩; have n0_ := Aside0.mk (Kd.R_lower ho0 (below_size (hA HB.out))); have n1_ := Aside0.mk (Kd.R_lower ho1 (below_size (hA HB.out))); have n2_ := Aside0.mk (Kd.R_lower ho2 (below_size (hA HB.out))); have n3_ := Aside0.mk (bB BK402.out hb); have n4_ := Aside0.mk (below_step (hA HB.out) hb); clear BK402; clear HB; have HO406 := n0_; have HO409 := n1_; have HO412 := n2_; have BK402 := n3_; have HB := n4_; clear n0_ n1_ n2_ n3_ n4_; (try clear hb); (try clear hb2); (try clear hk); (try clear hi); (try clear ho0); (try clear ho1); (try clear ho2); obtain ⟨Ao18, co18, eo18⟩ := Kd.R_slice HO406.out; subst eo18; obtain ⟨Ao19, co19, eo19⟩ := Kd.R_slice HO409.out; subst eo19; obtain ⟨Ao20, co20, eo20⟩ := Kd.R_slice HO412.out; subst eo20) | ((with_reducible refine gate_callee (f := 29) rfl ?_); refine goesL_ (some 25) rfl rfl Try.func29 (by kernel_rfl) rfl #[.agg #[.slice Ao18 t404.length co18, .slice Ao19 t407.length co19, .slice Ao20 t410.length co20], .int .i64 a1] rfl ar ?_; (with_reducible refine (spec_Restart.calls k _ _ t404 _ _ t407 _ _ t410 a1 t413 t416 t419 t422 _ ?side1 ?side2 ?side3 ?side4 ?side5 ?side6 A9.out).mono ?_); (case side1 => exact cA (Kd.R_reads' HO406.out).2.2); (case side2 => exact (Kd.R_reads' HO406.out).2.1); (case side3 => exact cA (Kd.R_reads' HO409.out).2.2); (case side4 => exact (Kd.R_reads' HO409.out).2.1); (case side5 => exact cA (Kd.R_reads' HO412.out).2.2); (case side6 => exact (Kd.R_reads' HO412.out).2.1); rintro e w21 ⟨v414, v417, v420, rfl, ho0, ho1, ho2, hb⟩; refine ⟨_, rfl, ?_⟩; have n0_ := Aside0.mk (Kd.R_elder' (rA HO406.out) (Kd.R_base ho0) hb); have n1_ := Aside0.mk (Kd.R_mono (Kd.R_told (Kd.R_told (Kd.R_old (rA HO409.out) hb) (Kd.R_base ho1)) (Kd.R_base ho2)) (fun _ h_ => h_.1)); have n2_ := Aside0.mk (Kd.R_mono (Kd.R_told (Kd.R_told (Kd.R_old (rA HO412.out) hb) (Kd.R_base ho1)) (Kd.R_base ho2)) (fun _ h_ => h_.1)); have n3_ := Aside0.mk (Kd.R_lower (Kd.R_new' ho0 (Kd.R_lt (rA HO406.out))) (below_size (hA HB.out))); have n4_ := Aside0.mk (Kd.R_lower (Kd.R_new' (Kd.R_new' ho1 (Kd.R_lt (rA HO409.out))) (Kd.R_lt (rA HO412.out))) (below_size (hA HB.out))); have n5_ := Aside0.mk (Kd.R_lower (Kd.R_new' (Kd.R_new' ho2 (Kd.R_lt (rA HO409.out))) (Kd.R_lt (rA HO412.out))) (below_size (hA HB.out))); have n6_ := Aside0.mk (bB BK402.out hb); have n7_ := Aside0.mk (below_step (hA HB.out) hb); clear HO406; clear HO409; clear HO412; clear BK402; clear HB; have HO406 := n0_; have HO409 := n1_; have HO412 := n2_; have HO415 := n3_; have HO418 := n4_; have HO421 := n5_; have BK402 := n6_; have HB := n7_; clear n0_ n1_ n2_ n3_ n4_ n5_ n6_ n7_; (try clear hb); (try clear hb2); (try clear hk); (try clear hi); (try clear ho0); (try clear ho1); (try clear ho2)) | ((with_reducible refine gate_dst (N := 6) rfl ?_); refine box_event ?hg (N := 6) ?hd (cs := #[.slice none 0 0, .slice none 0 0, .slice none 0 0]) (t := 29) ?hr ?_; (case hd => rfl); (case hg => rfl); (case hr => first | (go_simp; done) | (go_simp; rfl)); intro gb423 hg w22 hbox hb; have n0_ := Aside0.mk (Kd.R_below (rA HO406.out) hb); have n1_ := Aside0.mk (Kd.R_below (rA HO409.out) hb); have n2_ := Aside0.mk (Kd.R_below (rA HO412.out) hb); have n3_ := Aside0.mk (Kd.R_below (rA HO415.out) hb); have n4_ := Aside0.mk (Kd.R_below (rA HO418.out) hb); have n5_ := Aside0.mk (Kd.R_below (rA HO421.out) hb); have n6_ := Aside0.mk (bB BK402.out hb); have n7_ := Aside0.mk (below_step (hA HB.out) hb); have n8_ := Aside0.mk (hbox); have n9_ := Aside0.mk ((by rw [hg]; exact (below_size (hA HB.out)) : w.heap.size ≤ gb423)); have n10_ := Aside0.mk ((by rw [hg]; exact (below_size (hA HB.out)) : w.heap.size ≤ gb423)); have n11_ := Aside0.mk ((by rw [hg]; exact Nat.ne_of_lt (blk_lt (g := gb402) (o := .cells #[.slice A0_0 l0_0.length c0_0, .slice A0_1 l0_1.length c0_1, .slice A0_2 l0_2.length c0_2] 25 (0, 0)) (bA BK402.out)) : gb402 ≠ gb423)); have n12_ := Aside0.mk ((by rw [hg]; exact Nat.ne_of_gt (blk_lt (g := gb402) (o := .cells #[.slice A0_0 l0_0.length c0_0, .slice A0_1 l0_1.length c0_1, .slice A0_2 l0_2.length c0_2] 25 (0, 0)) (bA BK402.out)) : gb423 ≠ gb402)); clear HO406; clear HO409; clear HO412; clear HO415; clear HO418; clear HO421; clear BK402; clear HB; have HO406 := n0_; have HO409 := n1_; have HO412 := n2_; have HO415 := n3_; have HO418 := n4_; have HO421 := n5_; have BK402 := n6_; have HB := n7_; have BK423 := n8_; have GW423 := n9_; have GE423 := n10_; have NB402_423 := n11_; have NB423_402 := n12_; clear n0_ n1_ n2_ n3_ n4_ n5_ n6_ n7_ n8_ n9_ n10_ n11_ n12_; clear hb hbox hg; obtain ⟨Ao23, co23, eo23⟩ := Kd.R_slice HO415.out; subst eo23; have hnb24 := NB423_402.out; have hnc24 := NB402_423.out; have hcz25_0 : w22.cell? ⟨gb423, 0, none⟩ = some (.slice none 0 0) := (blk_cell BK423.out 0).trans rfl; have hcz25_1 : w22.cell? ⟨gb423, 1, none⟩ = some (.slice none 0 0) := (blk_cell BK423.out 1).trans rfl; have hcz25_2 : w22.cell? ⟨gb423, 2, none⟩ = some (.slice none 0 0) := (blk_cell BK423.out 2).trans rfl; have hfz25_0 := blk_frozen BK423.out 0; have hfz25_1 := blk_frozen BK423.out 1; have hfz25_2 := blk_frozen BK423.out 2; obtain ⟨Ao26, co26, eo26⟩ := Kd.R_slice HO418.out; subst eo26; obtain ⟨Ao27, co27, eo27⟩ := Kd.R_slice HO421.out; subst eo27; have hcz28_0 : w22.cell? ⟨gb402, 0, none⟩ = some (.slice A0_0 l0_0.length c0_0) := (blk_cell BK402.out 0).trans rfl; have hcz28_1 : w22.cell? ⟨gb402, 1, none⟩ = some (.slice A0_1 l0_1.length c0_1) := (blk_cell BK402.out 1).trans rfl; have hcz28_2 : w22.cell? ⟨gb402, 2, none⟩ = some (.slice A0_2 l0_2.length c0_2) := (blk_cell BK402.out 2).trans rfl; have hfz28_0 := blk_frozen BK402.out 0; have hfz28_1 := blk_frozen BK402.out 1; have hfz28_2 := blk_frozen BK402.out 2) | ((with_reducible refine gate_callee (f := 11) rfl ?_); refine goesL_ (some 29) rfl rfl Try.func11 (by kernel_rfl) rfl #[.agg #[.slice A0_0 l0_0.length c0_0, .slice A0_1 l0_1.length c0_1, .slice A0_2 l0_2.length c0_2]] rfl ar ?_; (with_reducible refine (laws_toBook.calls k _ _ l0_0 _ _ l0_1 _ _ l0_2 t424 t427 t430 _ ?side1 ?side2 ?side3 ?side4 ?side5 ?side6 A10.out).mono ?_); (case side1 => exact Kd.C_below HR0_0.out (hA HB.out)); (case side2 => exact HC0_0.out); (case side3 => exact Kd.C_below HR0_1.out (hA HB.out)); (case side4 => exact HC0_1.out); (case side5 => exact Kd.C_below HR0_2.out (hA HB.out)); (case side6 => exact HC0_2.out); rintro e w29 ⟨v425, v428, v431, rfl, ho0, ho1, ho2, hb⟩; refine ⟨_, rfl, ?_⟩; have n0_ := Aside0.mk (Kd.R_elder' (rC (a := by exact (Kd.R_mono (Kd.R_far (p := ⟨gb423, 2, none⟩) (Kd.R_far (p := ⟨gb423, 1, none⟩) (Kd.R_far (p := ⟨gb423, 0, none⟩) (Kd.R_types HO406.out BK423.out (by decide)) (fun _ hk => hk.2) (.slice Ao23 t413.length co23)) (fun _ hk => hk.2) (.slice Ao26 t416.length co26)) (fun _ hk => hk.2) (.slice Ao27 t419.length co27)) (fun _ h_ => h_.1)))) (Kd.R_base ho0) hb); have n1_ := Aside0.mk (Kd.R_mono (Kd.R_told (Kd.R_told (Kd.R_old (rC (a := by exact (Kd.R_mono (Kd.R_far (p := ⟨gb423, 2, none⟩) (Kd.R_far (p := ⟨gb423, 1, none⟩) (Kd.R_far (p := ⟨gb423, 0, none⟩) (Kd.R_types HO409.out BK423.out (by decide)) (fun _ hk => hk.2) (.slice Ao23 t413.length co23)) (fun _ hk => hk.2) (.slice Ao26 t416.length co26)) (fun _ hk => hk.2) (.slice Ao27 t419.length co27)) (fun _ h_ => h_.1)))) hb) (Kd.R_base ho1)) (Kd.R_base ho2)) (fun _ h_ => h_.1)); have n2_ := Aside0.mk (Kd.R_mono (Kd.R_told (Kd.R_told (Kd.R_old (rC (a := by exact (Kd.R_mono (Kd.R_far (p := ⟨gb423, 2, none⟩) (Kd.R_far (p := ⟨gb423, 1, none⟩) (Kd.R_far (p := ⟨gb423, 0, none⟩) (Kd.R_types HO412.out BK423.out (by decide)) (fun _ hk => hk.2) (.slice Ao23 t413.length co23)) (fun _ hk => hk.2) (.slice Ao26 t416.length co26)) (fun _ hk => hk.2) (.slice Ao27 t419.length co27)) (fun _ h_ => h_.1)))) hb) (Kd.R_base ho1)) (Kd.R_base ho2)) (fun _ h_ => h_.1)); have n3_ := Aside0.mk (Kd.R_elder' (rC (a := by exact (Kd.R_mono (Kd.R_far (p := ⟨gb423, 2, none⟩) (Kd.R_far (p := ⟨gb423, 1, none⟩) (Kd.R_far (p := ⟨gb423, 0, none⟩) (Kd.R_types HO415.out BK423.out (by decide)) (fun _ hk => hk.2) (.slice Ao23 t413.length co23)) (fun _ hk => hk.2) (.slice Ao26 t416.length co26)) (fun _ hk => hk.2) (.slice Ao27 t419.length co27)) (fun _ h_ => h_.1)))) (Kd.R_base ho0) hb); have n4_ := Aside0.mk (Kd.R_mono (Kd.R_told (Kd.R_told (Kd.R_old (rC (a := by exact (Kd.R_mono (Kd.R_far (p := ⟨gb423, 2, none⟩) (Kd.R_far (p := ⟨gb423, 1, none⟩) (Kd.R_far (p := ⟨gb423, 0, none⟩) (Kd.R_types HO418.out BK423.out (by decide)) (fun _ hk => hk.2) (.slice Ao23 t413.length co23)) (fun _ hk => hk.2) (.slice Ao26 t416.length co26)) (fun _ hk => hk.2) (.slice Ao27 t419.length co27)) (fun _ h_ => h_.1)))) hb) (Kd.R_base ho1)) (Kd.R_base ho2)) (fun _ h_ => h_.1)); have n5_ := Aside0.mk (Kd.R_mono (Kd.R_told (Kd.R_told (Kd.R_old (rC (a := by exact (Kd.R_mono (Kd.R_far (p := ⟨gb423, 2, none⟩) (Kd.R_far (p := ⟨gb423, 1, none⟩) (Kd.R_far (p := ⟨gb423, 0, none⟩) (Kd.R_types HO421.out BK423.out (by decide)) (fun _ hk => hk.2) (.slice Ao23 t413.length co23)) (fun _ hk => hk.2) (.slice Ao26 t416.length co26)) (fun _ hk => hk.2) (.slice Ao27 t419.length co27)) (fun _ h_ => h_.1)))) hb) (Kd.R_base ho1)) (Kd.R_base ho2)) (fun _ h_ => h_.1)); have n6_ := Aside0.mk (Kd.R_lower (Kd.R_new' (Kd.R_new' ho0 (Kd.R_lt (rC (a := by exact (Kd.R_mono (Kd.R_far (p := ⟨gb423, 2, none⟩) (Kd.R_far (p := ⟨gb423, 1, none⟩) (Kd.R_far (p := ⟨gb423, 0, none⟩) (Kd.R_types HO406.out BK423.out (by decide)) (fun _ hk => hk.2) (.slice Ao23 t413.length co23)) (fun _ hk => hk.2) (.slice Ao26 t416.length co26)) (fun _ hk => hk.2) (.slice Ao27 t419.length co27)) (fun _ h_ => h_.1)))))) (Kd.R_lt (rC (a := by exact (Kd.R_mono (Kd.R_far (p := ⟨gb423, 2, none⟩) (Kd.R_far (p := ⟨gb423, 1, none⟩) (Kd.R_far (p := ⟨gb423, 0, none⟩) (Kd.R_types HO415.out BK423.out (by decide)) (fun _ hk => hk.2) (.slice Ao23 t413.length co23)) (fun _ hk => hk.2) (.slice Ao26 t416.length co26)) (fun _ hk => hk.2) (.slice Ao27 t419.length co27)) (fun _ h_ => h_.1)))))) (below_size (hA HB.out))); have n7_ := Aside0.mk (Kd.R_lower (Kd.R_new' (Kd.R_new' (Kd.R_new' (Kd.R_new' ho1 (Kd.R_lt (rC (a := by exact (Kd.R_mono (Kd.R_far (p := ⟨gb423, 2, none⟩) (Kd.R_far (p := ⟨gb423, 1, none⟩) (Kd.R_far (p := ⟨gb423, 0, none⟩) (Kd.R_types HO409.out BK423.out (by decide)) (fun _ hk => hk.2) (.slice Ao23 t413.length co23)) (fun _ hk => hk.2) (.slice Ao26 t416.length co26)) (fun _ hk => hk.2) (.slice Ao27 t419.length co27)) (fun _ h_ => h_.1)))))) (Kd.R_lt (rC (a := by exact (Kd.R_mono (Kd.R_far (p := ⟨gb423, 2, none⟩) (Kd.R_far (p := ⟨gb423, 1, none⟩) (Kd.R_far (p := ⟨gb423, 0, none⟩) (Kd.R_types HO412.out BK423.out (by decide)) (fun _ hk => hk.2) (.slice Ao23 t413.length co23)) (fun _ hk => hk.2) (.slice Ao26 t416.length co26)) (fun _ hk => hk.2) (.slice Ao27 t419.length co27)) (fun _ h_ => h_.1)))))) (Kd.R_lt (rC (a := by exact (Kd.R_mono (Kd.R_far (p := ⟨gb423, 2, none⟩) (Kd.R_far (p := ⟨gb423, 1, none⟩) (Kd.R_far (p := ⟨gb423, 0, none⟩) (Kd.R_types HO418.out BK423.out (by decide)) (fun _ hk => hk.2) (.slice Ao23 t413.length co23)) (fun _ hk => hk.2) (.slice Ao26 t416.length co26)) (fun _ hk => hk.2) (.slice Ao27 t419.length co27)) (fun _ h_ => h_.1)))))) (Kd.R_lt (rC (a := by exact (Kd.R_mono (Kd.R_far (p := ⟨gb423, 2, none⟩) (Kd.R_far (p := ⟨gb423, 1, none⟩) (Kd.R_far (p := ⟨gb423, 0, none⟩) (Kd.R_types HO421.out BK423.out (by decide)) (fun _ hk => hk.2) (.slice Ao23 t413.length co23)) (fun _ hk => hk.2) (.slice Ao26 t416.length co26)) (fun _ hk => hk.2) (.slice Ao27 t419.length co27)) (fun _ h_ => h_.1)))))) (below_size (hA HB.out))); have n8_ := Aside0.mk (Kd.R_lower (Kd.R_new' (Kd.R_new' (Kd.R_new' (Kd.R_new' ho2 (Kd.R_lt (rC (a := by exact (Kd.R_mono (Kd.R_far (p := ⟨gb423, 2, none⟩) (Kd.R_far (p := ⟨gb423, 1, none⟩) (Kd.R_far (p := ⟨gb423, 0, none⟩) (Kd.R_types HO409.out BK423.out (by decide)) (fun _ hk => hk.2) (.slice Ao23 t413.length co23)) (fun _ hk => hk.2) (.slice Ao26 t416.length co26)) (fun _ hk => hk.2) (.slice Ao27 t419.length co27)) (fun _ h_ => h_.1)))))) (Kd.R_lt (rC (a := by exact (Kd.R_mono (Kd.R_far (p := ⟨gb423, 2, none⟩) (Kd.R_far (p := ⟨gb423, 1, none⟩) (Kd.R_far (p := ⟨gb423, 0, none⟩) (Kd.R_types HO412.out BK423.out (by decide)) (fun _ hk => hk.2) (.slice Ao23 t413.length co23)) (fun _ hk => hk.2) (.slice Ao26 t416.length co26)) (fun _ hk => hk.2) (.slice Ao27 t419.length co27)) (fun _ h_ => h_.1)))))) (Kd.R_lt (rC (a := by exact (Kd.R_mono (Kd.R_far (p := ⟨gb423, 2, none⟩) (Kd.R_far (p := ⟨gb423, 1, none⟩) (Kd.R_far (p := ⟨gb423, 0, none⟩) (Kd.R_types HO418.out BK423.out (by decide)) (fun _ hk => hk.2) (.slice Ao23 t413.length co23)) (fun _ hk => hk.2) (.slice Ao26 t416.length co26)) (fun _ hk => hk.2) (.slice Ao27 t419.length co27)) (fun _ h_ => h_.1)))))) (Kd.R_lt (rC (a := by exact (Kd.R_mono (Kd.R_far (p := ⟨gb423, 2, none⟩) (Kd.R_far (p := ⟨gb423, 1, none⟩) (Kd.R_far (p := ⟨gb423, 0, none⟩) (Kd.R_types HO421.out BK423.out (by decide)) (fun _ hk => hk.2) (.slice Ao23 t413.length co23)) (fun _ hk => hk.2) (.slice Ao26 t416.length co26)) (fun _ hk => hk.2) (.slice Ao27 t419.length co27)) (fun _ h_ => h_.1)))))) (below_size (hA HB.out))); have n9_ := Aside0.mk (blk_below (g := gb402) (o := .cells #[.slice A0_0 l0_0.length c0_0, .slice A0_1 l0_1.length c0_1, .slice A0_2 l0_2.length c0_2] 25 (0, 0)) (by refine bC (a := ?_); refine blk_far ?_ NB402_423.out _; refine bC (a := ?_); refine blk_far ?_ NB402_423.out _; refine bC (a := ?_); refine blk_far ?_ NB402_423.out _; refine bC (a := ?_); exact BK402.out) hb); have n10_ := Aside0.mk (blk_below (g := gb423) (o := .cells #[.slice Ao23 t413.length co23, .slice Ao26 t416.length co26, .slice Ao27 t419.length co27] 29 (0, 0)) (by refine bC (a := ?_); refine blk_put (cs := #[.slice Ao23 t413.length co23, .slice Ao26 t416.length co26, .slice none 0 0]) ?_ 2 _ rfl; refine bC (a := ?_); refine blk_put (cs := #[.slice Ao23 t413.length co23, .slice none 0 0, .slice none 0 0]) ?_ 1 _ rfl; refine bC (a := ?_); refine blk_put (cs := #[.slice none 0 0, .slice none 0 0, .slice none 0 0]) ?_ 0 _ rfl; refine bC (a := ?_); exact BK423.out) hb); have n11_ := Aside0.mk (below_step (hA HB.out) hb); clear HO406; clear HO409; clear HO412; clear HO415; clear HO418; clear HO421; clear BK402; clear BK423; clear HB; have HO406 := n0_; have HO409 := n1_; have HO412 := n2_; have HO415 := n3_; have HO418 := n4_; have HO421 := n5_; have HO426 := n6_; have HO429 := n7_; have HO432 := n8_; have BK402 := n9_; have BK423 := n10_; have HB := n11_; clear n0_ n1_ n2_ n3_ n4_ n5_ n6_ n7_ n8_ n9_ n10_ n11_; (try clear hb); (try clear hb2); (try clear hk); (try clear hi); (try clear ho0); (try clear ho1); (try clear ho2)) | ((with_reducible refine gate_dst (N := 8) rfl ?_); refine box_event ?hg (N := 8) ?hd (cs := #[.slice none 0 0, .slice none 0 0, .slice none 0 0]) (t := 29) ?hr ?_; (case hd => rfl); (case hg => rfl); (case hr => first | (go_simp; done) | (go_simp; rfl)); intro gb433 hg w30 hbox hb; have n0_ := Aside0.mk (Kd.R_below (rA HO406.out) hb); have n1_ := Aside0.mk (Kd.R_below (rA HO409.out) hb); have n2_ := Aside0.mk (Kd.R_below (rA HO412.out) hb); have n3_ := Aside0.mk (Kd.R_below (rA HO415.out) hb); have n4_ := Aside0.mk (Kd.R_below (rA HO418.out) hb); have n5_ := Aside0.mk (Kd.R_below (rA HO421.out) hb); have n6_ := Aside0.mk (Kd.R_below (rA HO426.out) hb); have n7_ := Aside0.mk (Kd.R_below (rA HO429.out) hb); have n8_ := Aside0.mk (Kd.R_below (rA HO432.out) hb); have n9_ := Aside0.mk (bB BK402.out hb); have n10_ := Aside0.mk (bB BK423.out hb); have n11_ := Aside0.mk (below_step (hA HB.out) hb); have n12_ := Aside0.mk (hbox); have n13_ := Aside0.mk ((by rw [hg]; exact (below_size (hA HB.out)) : w.heap.size ≤ gb433)); have n14_ := Aside0.mk ((by rw [hg]; exact (below_size (hA HB.out)) : w.heap.size ≤ gb433)); have n15_ := Aside0.mk ((by rw [hg]; exact Nat.ne_of_lt (blk_lt (g := gb402) (o := .cells #[.slice A0_0 l0_0.length c0_0, .slice A0_1 l0_1.length c0_1, .slice A0_2 l0_2.length c0_2] 25 (0, 0)) (bA BK402.out)) : gb402 ≠ gb433)); have n16_ := Aside0.mk ((by rw [hg]; exact Nat.ne_of_gt (blk_lt (g := gb402) (o := .cells #[.slice A0_0 l0_0.length c0_0, .slice A0_1 l0_1.length c0_1, .slice A0_2 l0_2.length c0_2] 25 (0, 0)) (bA BK402.out)) : gb433 ≠ gb402)); have n17_ := Aside0.mk ((by rw [hg]; exact Nat.ne_of_lt (blk_lt (g := gb423) (o := .cells #[.slice Ao23 t413.length co23, .slice Ao26 t416.length co26, .slice Ao27 t419.length co27] 29 (0, 0)) (bA BK423.out)) : gb423 ≠ gb433)); have n18_ := Aside0.mk ((by rw [hg]; exact Nat.ne_of_gt (blk_lt (g := gb423) (o := .cells #[.slice Ao23 t413.length co23, .slice Ao26 t416.length co26, .slice Ao27 t419.length co27] 29 (0, 0)) (bA BK423.out)) : gb433 ≠ gb423)); clear HO406; clear HO409; clear HO412; clear HO415; clear HO418; clear HO421; clear HO426; clear HO429; clear HO432; clear BK402; clear BK423; clear HB; have HO406 := n0_; have HO409 := n1_; have HO412 := n2_; have HO415 := n3_; have HO418 := n4_; have HO421 := n5_; have HO426 := n6_; have HO429 := n7_; have HO432 := n8_; have BK402 := n9_; have BK423 := n10_; have HB := n11_; have BK433 := n12_; have GW433 := n13_; have GE433 := n14_; have NB402_433 := n15_; have NB433_402 := n16_; have NB423_433 := n17_; have NB433_423 := n18_; clear n0_ n1_ n2_ n3_ n4_ n5_ n6_ n7_ n8_ n9_ n10_ n11_ n12_ n13_ n14_ n15_ n16_ n17_ n18_; clear hb hbox hg; obtain ⟨Ao31, co31, eo31⟩ := Kd.R_slice HO426.out; subst eo31; have hnb32 := NB433_402.out; have hnc32 := NB402_433.out; have hnb33 := NB433_423.out; have hnc33 := NB423_433.out; have hcz34_0 : w30.cell? ⟨gb433, 0, none⟩ = some (.slice none 0 0) := (blk_cell BK433.out 0).trans rfl; have hcz34_1 : w30.cell? ⟨gb433, 1, none⟩ = some (.slice none 0 0) := (blk_cell BK433.out 1).trans rfl; have hcz34_2 : w30.cell? ⟨gb433, 2, none⟩ = some (.slice none 0 0) := (blk_cell BK433.out 2).trans rfl; have hfz34_0 := blk_frozen BK433.out 0; have hfz34_1 := blk_frozen BK433.out 1; have hfz34_2 := blk_frozen BK433.out 2; obtain ⟨Ao35, co35, eo35⟩ := Kd.R_slice HO429.out; subst eo35; obtain ⟨Ao36, co36, eo36⟩ := Kd.R_slice HO432.out; subst eo36) | ((with_reducible refine gate_callee (f := 28) rfl ?_); refine goesL_ (some 33) rfl rfl Try.func28 (by kernel_rfl) rfl #[.agg #[.slice Ao31 t424.length co31, .slice Ao35 t427.length co35, .slice Ao36 t430.length co36], .int .i64 a1] rfl ar ?_; (with_reducible refine (impl_Restart.calls k _ _ t424 _ _ t427 _ _ t430 a1 t434 t437 t440 t443 _ ?side1 ?side2 ?side3 ?side4 ?side5 ?side6 A11.out).mono ?_); (case side1 => refine (Kd.R_reads' (e := 50) (base := w.heap.size) (ok := fun k_ => ((True ∧ some k_ ≠ (.slice Ao18 t404.length co18 : Value).ownBlock) ∧ some k_ ≠ (.slice Ao23 t413.length co23 : Value).ownBlock)) (n := t424.length) (c := co31) ?_).2.2; exact (rC (a := by exact (Kd.R_mono (Kd.R_far (p := ⟨gb433, 2, none⟩) (Kd.R_far (p := ⟨gb433, 1, none⟩) (Kd.R_far (p := ⟨gb433, 0, none⟩) (Kd.R_types HO426.out BK433.out (by decide)) (fun _ hk => hk.2) (.slice Ao31 t424.length co31)) (fun _ hk => hk.2) (.slice Ao35 t427.length co35)) (fun _ hk => hk.2) (.slice Ao36 t430.length co36)) (fun _ h_ => h_.1))))); (case side2 => exact (Kd.R_reads' HO426.out).2.1); (case side3 => refine (Kd.R_reads' (e := 3) (base := w.heap.size) (ok := fun k_ => ((((some k_ ≠ (.slice Ao36 t430.length co36 : Value).ownBlock ∧ some k_ ≠ (.slice Ao19 t407.length co19 : Value).ownBlock) ∧ some k_ ≠ (.slice Ao20 t410.length co20 : Value).ownBlock) ∧ some k_ ≠ (.slice Ao26 t416.length co26 : Value).ownBlock) ∧ some k_ ≠ (.slice Ao27 t419.length co27 : Value).ownBlock)) (n := t427.length) (c := co35) ?_).2.2; exact (rC (a := by exact (Kd.R_mono (Kd.R_far (p := ⟨gb433, 2, none⟩) (Kd.R_far (p := ⟨gb433, 1, none⟩) (Kd.R_far (p := ⟨gb433, 0, none⟩) (Kd.R_types HO429.out BK433.out (by decide)) (fun _ hk => hk.2) (.slice Ao31 t424.length co31)) (fun _ hk => hk.2) (.slice Ao35 t427.length co35)) (fun _ hk => hk.2) (.slice Ao36 t430.length co36)) (fun _ h_ => h_.1))))); (case side4 => exact (Kd.R_reads' HO429.out).2.1); (case side5 => refine (Kd.R_reads' (e := 3) (base := w.heap.size) (ok := fun k_ => ((((some k_ ≠ (.slice Ao35 t427.length co35 : Value).ownBlock ∧ some k_ ≠ (.slice Ao19 t407.length co19 : Value).ownBlock) ∧ some k_ ≠ (.slice Ao20 t410.length co20 : Value).ownBlock) ∧ some k_ ≠ (.slice Ao26 t416.length co26 : Value).ownBlock) ∧ some k_ ≠ (.slice Ao27 t419.length co27 : Value).ownBlock)) (n := t430.length) (c := co36) ?_).2.2; exact (rC (a := by exact (Kd.R_mono (Kd.R_far (p := ⟨gb433, 2, none⟩) (Kd.R_far (p := ⟨gb433, 1, none⟩) (Kd.R_far (p := ⟨gb433, 0, none⟩) (Kd.R_types HO432.out BK433.out (by decide)) (fun _ hk => hk.2) (.slice Ao31 t424.length co31)) (fun _ hk => hk.2) (.slice Ao35 t427.length co35)) (fun _ hk => hk.2) (.slice Ao36 t430.length co36)) (fun _ h_ => h_.1))))); (case side6 => exact (Kd.R_reads' HO432.out).2.1); rintro e w37 ⟨v435, v438, v441, rfl, ho0, ho1, ho2, hb⟩; refine ⟨_, rfl, ?_⟩; have n0_ := Aside0.mk (Kd.R_elder' (rC (a := by exact (Kd.R_mono (Kd.R_far (p := ⟨gb433, 2, none⟩) (Kd.R_far (p := ⟨gb433, 1, none⟩) (Kd.R_far (p := ⟨gb433, 0, none⟩) (Kd.R_types HO406.out BK433.out (by decide)) (fun _ hk => hk.2) (.slice Ao31 t424.length co31)) (fun _ hk => hk.2) (.slice Ao35 t427.length co35)) (fun _ hk => hk.2) (.slice Ao36 t430.length co36)) (fun _ h_ => h_.1)))) (Kd.R_base ho0) hb); have n1_ := Aside0.mk (Kd.R_mono (Kd.R_told (Kd.R_told (Kd.R_old (rC (a := by exact (Kd.R_mono (Kd.R_far (p := ⟨gb433, 2, none⟩) (Kd.R_far (p := ⟨gb433, 1, none⟩) (Kd.R_far (p := ⟨gb433, 0, none⟩) (Kd.R_types HO409.out BK433.out (by decide)) (fun _ hk => hk.2) (.slice Ao31 t424.length co31)) (fun _ hk => hk.2) (.slice Ao35 t427.length co35)) (fun _ hk => hk.2) (.slice Ao36 t430.length co36)) (fun _ h_ => h_.1)))) hb) (Kd.R_base ho1)) (Kd.R_base ho2)) (fun _ h_ => h_.1)); have n2_ := Aside0.mk (Kd.R_mono (Kd.R_told (Kd.R_told (Kd.R_old (rC (a := by exact (Kd.R_mono (Kd.R_far (p := ⟨gb433, 2, none⟩) (Kd.R_far (p := ⟨gb433, 1, none⟩) (Kd.R_far (p := ⟨gb433, 0, none⟩) (Kd.R_types HO412.out BK433.out (by decide)) (fun _ hk => hk.2) (.slice Ao31 t424.length co31)) (fun _ hk => hk.2) (.slice Ao35 t427.length co35)) (fun _ hk => hk.2) (.slice Ao36 t430.length co36)) (fun _ h_ => h_.1)))) hb) (Kd.R_base ho1)) (Kd.R_base ho2)) (fun _ h_ => h_.1)); have n3_ := Aside0.mk (Kd.R_elder' (rC (a := by exact (Kd.R_mono (Kd.R_far (p := ⟨gb433, 2, none⟩) (Kd.R_far (p := ⟨gb433, 1, none⟩) (Kd.R_far (p := ⟨gb433, 0, none⟩) (Kd.R_types HO415.out BK433.out (by decide)) (fun _ hk => hk.2) (.slice Ao31 t424.length co31)) (fun _ hk => hk.2) (.slice Ao35 t427.length co35)) (fun _ hk => hk.2) (.slice Ao36 t430.length co36)) (fun _ h_ => h_.1)))) (Kd.R_base ho0) hb); have n4_ := Aside0.mk (Kd.R_mono (Kd.R_told (Kd.R_told (Kd.R_old (rC (a := by exact (Kd.R_mono (Kd.R_far (p := ⟨gb433, 2, none⟩) (Kd.R_far (p := ⟨gb433, 1, none⟩) (Kd.R_far (p := ⟨gb433, 0, none⟩) (Kd.R_types HO418.out BK433.out (by decide)) (fun _ hk => hk.2) (.slice Ao31 t424.length co31)) (fun _ hk => hk.2) (.slice Ao35 t427.length co35)) (fun _ hk => hk.2) (.slice Ao36 t430.length co36)) (fun _ h_ => h_.1)))) hb) (Kd.R_base ho1)) (Kd.R_base ho2)) (fun _ h_ => h_.1)); have n5_ := Aside0.mk (Kd.R_mono (Kd.R_told (Kd.R_told (Kd.R_old (rC (a := by exact (Kd.R_mono (Kd.R_far (p := ⟨gb433, 2, none⟩) (Kd.R_far (p := ⟨gb433, 1, none⟩) (Kd.R_far (p := ⟨gb433, 0, none⟩) (Kd.R_types HO421.out BK433.out (by decide)) (fun _ hk => hk.2) (.slice Ao31 t424.length co31)) (fun _ hk => hk.2) (.slice Ao35 t427.length co35)) (fun _ hk => hk.2) (.slice Ao36 t430.length co36)) (fun _ h_ => h_.1)))) hb) (Kd.R_base ho1)) (Kd.R_base ho2)) (fun _ h_ => h_.1)); have n6_ := Aside0.mk (Kd.R_elder' (rC (a := by exact (Kd.R_mono (Kd.R_far (p := ⟨gb433, 2, none⟩) (Kd.R_far (p := ⟨gb433, 1, none⟩) (Kd.R_far (p := ⟨gb433, 0, none⟩) (Kd.R_types HO426.out BK433.out (by decide)) (fun _ hk => hk.2) (.slice Ao31 t424.length co31)) (fun _ hk => hk.2) (.slice Ao35 t427.length co35)) (fun _ hk => hk.2) (.slice Ao36 t430.length co36)) (fun _ h_ => h_.1)))) (Kd.R_base ho0) hb); have n7_ := Aside0.mk (Kd.R_mono (Kd.R_told (Kd.R_told (Kd.R_old (rC (a := by exact (Kd.R_mono (Kd.R_far (p := ⟨gb433, 2, none⟩) (Kd.R_far (p := ⟨gb433, 1, none⟩) (Kd.R_far (p := ⟨gb433, 0, none⟩) (Kd.R_types HO429.out BK433.out (by decide)) (fun _ hk => hk.2) (.slice Ao31 t424.length co31)) (fun _ hk => hk.2) (.slice Ao35 t427.length co35)) (fun _ hk => hk.2) (.slice Ao36 t430.length co36)) (fun _ h_ => h_.1)))) hb) (Kd.R_base ho1)) (Kd.R_base ho2)) (fun _ h_ => h_.1)); have n8_ := Aside0.mk (Kd.R_mono (Kd.R_told (Kd.R_told (Kd.R_old (rC (a := by exact (Kd.R_mono (Kd.R_far (p := ⟨gb433, 2, none⟩) (Kd.R_far (p := ⟨gb433, 1, none⟩) (Kd.R_far (p := ⟨gb433, 0, none⟩) (Kd.R_types HO432.out BK433.out (by decide)) (fun _ hk => hk.2) (.slice Ao31 t424.length co31)) (fun _ hk => hk.2) (.slice Ao35 t427.length co35)) (fun _ hk => hk.2) (.slice Ao36 t430.length co36)) (fun _ h_ => h_.1)))) hb) (Kd.R_base ho1)) (Kd.R_base ho2)) (fun _ h_ => h_.1)); have n9_ := Aside0.mk (Kd.R_lower (Kd.R_new' (Kd.R_new' (Kd.R_new' ho0 (Kd.R_lt (rC (a := by exact (Kd.R_mono (Kd.R_far (p := ⟨gb433, 2, none⟩) (Kd.R_far (p := ⟨gb433, 1, none⟩) (Kd.R_far (p := ⟨gb433, 0, none⟩) (Kd.R_types HO406.out BK433.out (by decide)) (fun _ hk => hk.2) (.slice Ao31 t424.length co31)) (fun _ hk => hk.2) (.slice Ao35 t427.length co35)) (fun _ hk => hk.2) (.slice Ao36 t430.length co36)) (fun _ h_ => h_.1)))))) (Kd.R_lt (rC (a := by exact (Kd.R_mono (Kd.R_far (p := ⟨gb433, 2, none⟩) (Kd.R_far (p := ⟨gb433, 1, none⟩) (Kd.R_far (p := ⟨gb433, 0, none⟩) (Kd.R_types HO415.out BK433.out (by decide)) (fun _ hk => hk.2) (.slice Ao31 t424.length co31)) (fun _ hk => hk.2) (.slice Ao35 t427.length co35)) (fun _ hk => hk.2) (.slice Ao36 t430.length co36)) (fun _ h_ => h_.1)))))) (Kd.R_lt (rC (a := by exact (Kd.R_mono (Kd.R_far (p := ⟨gb433, 2, none⟩) (Kd.R_far (p := ⟨gb433, 1, none⟩) (Kd.R_far (p := ⟨gb433, 0, none⟩) (Kd.R_types HO426.out BK433.out (by decide)) (fun _ hk => hk.2) (.slice Ao31 t424.length co31)) (fun _ hk => hk.2) (.slice Ao35 t427.length co35)) (fun _ hk => hk.2) (.slice Ao36 t430.length co36)) (fun _ h_ => h_.1)))))) (below_size (hA HB.out))); have n10_ := Aside0.mk (Kd.R_lower (Kd.R_new' (Kd.R_new' (Kd.R_new' (Kd.R_new' (Kd.R_new' (Kd.R_new' ho1 (Kd.R_lt (rC (a := by exact (Kd.R_mono (Kd.R_far (p := ⟨gb433, 2, none⟩) (Kd.R_far (p := ⟨gb433, 1, none⟩) (Kd.R_far (p := ⟨gb433, 0, none⟩) (Kd.R_types HO409.out BK433.out (by decide)) (fun _ hk => hk.2) (.slice Ao31 t424.length co31)) (fun _ hk => hk.2) (.slice Ao35 t427.length co35)) (fun _ hk => hk.2) (.slice Ao36 t430.length co36)) (fun _ h_ => h_.1)))))) (Kd.R_lt (rC (a := by exact (Kd.R_mono (Kd.R_far (p := ⟨gb433, 2, none⟩) (Kd.R_far (p := ⟨gb433, 1, none⟩) (Kd.R_far (p := ⟨gb433, 0, none⟩) (Kd.R_types HO412.out BK433.out (by decide)) (fun _ hk => hk.2) (.slice Ao31 t424.length co31)) (fun _ hk => hk.2) (.slice Ao35 t427.length co35)) (fun _ hk => hk.2) (.slice Ao36 t430.length co36)) (fun _ h_ => h_.1)))))) (Kd.R_lt (rC (a := by exact (Kd.R_mono (Kd.R_far (p := ⟨gb433, 2, none⟩) (Kd.R_far (p := ⟨gb433, 1, none⟩) (Kd.R_far (p := ⟨gb433, 0, none⟩) (Kd.R_types HO418.out BK433.out (by decide)) (fun _ hk => hk.2) (.slice Ao31 t424.length co31)) (fun _ hk => hk.2) (.slice Ao35 t427.length co35)) (fun _ hk => hk.2) (.slice Ao36 t430.length co36)) (fun _ h_ => h_.1)))))) (Kd.R_lt (rC (a := by exact (Kd.R_mono (Kd.R_far (p := ⟨gb433, 2, none⟩) (Kd.R_far (p := ⟨gb433, 1, none⟩) (Kd.R_far (p := ⟨gb433, 0, none⟩) (Kd.R_types HO421.out BK433.out (by decide)) (fun _ hk => hk.2) (.slice Ao31 t424.length co31)) (fun _ hk => hk.2) (.slice Ao35 t427.length co35)) (fun _ hk => hk.2) (.slice Ao36 t430.length co36)) (fun _ h_ => h_.1)))))) (Kd.R_lt (rC (a := by exact (Kd.R_mono (Kd.R_far (p := ⟨gb433, 2, none⟩) (Kd.R_far (p := ⟨gb433, 1, none⟩) (Kd.R_far (p := ⟨gb433, 0, none⟩) (Kd.R_types HO429.out BK433.out (by decide)) (fun _ hk => hk.2) (.slice Ao31 t424.length co31)) (fun _ hk => hk.2) (.slice Ao35 t427.length co35)) (fun _ hk => hk.2) (.slice Ao36 t430.length co36)) (fun _ h_ => h_.1)))))) (Kd.R_lt (rC (a := by exact (Kd.R_mono (Kd.R_far (p := ⟨gb433, 2, none⟩) (Kd.R_far (p := ⟨gb433, 1, none⟩) (Kd.R_far (p := ⟨gb433, 0, none⟩) (Kd.R_types HO432.out BK433.out (by decide)) (fun _ hk => hk.2) (.slice Ao31 t424.length co31)) (fun _ hk => hk.2) (.slice Ao35 t427.length co35)) (fun _ hk => hk.2) (.slice Ao36 t430.length co36)) (fun _ h_ => h_.1)))))) (below_size (hA HB.out))); have n11_ := Aside0.mk (Kd.R_lower (Kd.R_new' (Kd.R_new' (Kd.R_new' (Kd.R_new' (Kd.R_new' (Kd.R_new' ho2 (Kd.R_lt (rC (a := by exact (Kd.R_mono (Kd.R_far (p := ⟨gb433, 2, none⟩) (Kd.R_far (p := ⟨gb433, 1, none⟩) (Kd.R_far (p := ⟨gb433, 0, none⟩) (Kd.R_types HO409.out BK433.out (by decide)) (fun _ hk => hk.2) (.slice Ao31 t424.length co31)) (fun _ hk => hk.2) (.slice Ao35 t427.length co35)) (fun _ hk => hk.2) (.slice Ao36 t430.length co36)) (fun _ h_ => h_.1)))))) (Kd.R_lt (rC (a := by exact (Kd.R_mono (Kd.R_far (p := ⟨gb433, 2, none⟩) (Kd.R_far (p := ⟨gb433, 1, none⟩) (Kd.R_far (p := ⟨gb433, 0, none⟩) (Kd.R_types HO412.out BK433.out (by decide)) (fun _ hk => hk.2) (.slice Ao31 t424.length co31)) (fun _ hk => hk.2) (.slice Ao35 t427.length co35)) (fun _ hk => hk.2) (.slice Ao36 t430.length co36)) (fun _ h_ => h_.1)))))) (Kd.R_lt (rC (a := by exact (Kd.R_mono (Kd.R_far (p := ⟨gb433, 2, none⟩) (Kd.R_far (p := ⟨gb433, 1, none⟩) (Kd.R_far (p := ⟨gb433, 0, none⟩) (Kd.R_types HO418.out BK433.out (by decide)) (fun _ hk => hk.2) (.slice Ao31 t424.length co31)) (fun _ hk => hk.2) (.slice Ao35 t427.length co35)) (fun _ hk => hk.2) (.slice Ao36 t430.length co36)) (fun _ h_ => h_.1)))))) (Kd.R_lt (rC (a := by exact (Kd.R_mono (Kd.R_far (p := ⟨gb433, 2, none⟩) (Kd.R_far (p := ⟨gb433, 1, none⟩) (Kd.R_far (p := ⟨gb433, 0, none⟩) (Kd.R_types HO421.out BK433.out (by decide)) (fun _ hk => hk.2) (.slice Ao31 t424.length co31)) (fun _ hk => hk.2) (.slice Ao35 t427.length co35)) (fun _ hk => hk.2) (.slice Ao36 t430.length co36)) (fun _ h_ => h_.1)))))) (Kd.R_lt (rC (a := by exact (Kd.R_mono (Kd.R_far (p := ⟨gb433, 2, none⟩) (Kd.R_far (p := ⟨gb433, 1, none⟩) (Kd.R_far (p := ⟨gb433, 0, none⟩) (Kd.R_types HO429.out BK433.out (by decide)) (fun _ hk => hk.2) (.slice Ao31 t424.length co31)) (fun _ hk => hk.2) (.slice Ao35 t427.length co35)) (fun _ hk => hk.2) (.slice Ao36 t430.length co36)) (fun _ h_ => h_.1)))))) (Kd.R_lt (rC (a := by exact (Kd.R_mono (Kd.R_far (p := ⟨gb433, 2, none⟩) (Kd.R_far (p := ⟨gb433, 1, none⟩) (Kd.R_far (p := ⟨gb433, 0, none⟩) (Kd.R_types HO432.out BK433.out (by decide)) (fun _ hk => hk.2) (.slice Ao31 t424.length co31)) (fun _ hk => hk.2) (.slice Ao35 t427.length co35)) (fun _ hk => hk.2) (.slice Ao36 t430.length co36)) (fun _ h_ => h_.1)))))) (below_size (hA HB.out))); have n12_ := Aside0.mk (blk_below (g := gb402) (o := .cells #[.slice A0_0 l0_0.length c0_0, .slice A0_1 l0_1.length c0_1, .slice A0_2 l0_2.length c0_2] 25 (0, 0)) (by refine bC (a := ?_); refine blk_far ?_ NB402_433.out _; refine bC (a := ?_); refine blk_far ?_ NB402_433.out _; refine bC (a := ?_); refine blk_far ?_ NB402_433.out _; refine bC (a := ?_); exact BK402.out) hb); have n13_ := Aside0.mk (blk_below (g := gb423) (o := .cells #[.slice Ao23 t413.length co23, .slice Ao26 t416.length co26, .slice Ao27 t419.length co27] 29 (0, 0)) (by refine bC (a := ?_); refine blk_far ?_ NB423_433.out _; refine bC (a := ?_); refine blk_far ?_ NB423_433.out _; refine bC (a := ?_); refine blk_far ?_ NB423_433.out _; refine bC (a := ?_); exact BK423.out) hb); have n14_ := Aside0.mk (blk_below (g := gb433) (o := .cells #[.slice Ao31 t424.length co31, .slice Ao35 t427.length co35, .slice Ao36 t430.length co36] 29 (0, 0)) (by refine bC (a := ?_); refine blk_put (cs := #[.slice Ao31 t424.length co31, .slice Ao35 t427.length co35, .slice none 0 0]) ?_ 2 _ rfl; refine bC (a := ?_); refine blk_put (cs := #[.slice Ao31 t424.length co31, .slice none 0 0, .slice none 0 0]) ?_ 1 _ rfl; refine bC (a := ?_); refine blk_put (cs := #[.slice none 0 0, .slice none 0 0, .slice none 0 0]) ?_ 0 _ rfl; refine bC (a := ?_); exact BK433.out) hb); have n15_ := Aside0.mk (below_step (hA HB.out) hb); clear HO406; clear HO409; clear HO412; clear HO415; clear HO418; clear HO421; clear HO426; clear HO429; clear HO432; clear BK402; clear BK423; clear BK433; clear HB; have HO406 := n0_; have HO409 := n1_; have HO412 := n2_; have HO415 := n3_; have HO418 := n4_; have HO421 := n5_; have HO426 := n6_; have HO429 := n7_; have HO432 := n8_; have HO436 := n9_; have HO439 := n10_; have HO442 := n11_; have BK402 := n12_; have BK423 := n13_; have BK433 := n14_; have HB := n15_; clear n0_ n1_ n2_ n3_ n4_ n5_ n6_ n7_ n8_ n9_ n10_ n11_ n12_ n13_ n14_ n15_; (try clear hb); (try clear hb2); (try clear hk); (try clear hi); (try clear ho0); (try clear ho1); (try clear ho2)) | ((with_reducible refine gate_dst (N := 9) rfl ?_); refine box_event ?hg (N := 9) ?hd (cs := #[.slice none 0 0, .slice none 0 0, .slice none 0 0]) (t := 29) ?hr ?_; (case hd => rfl); (case hg => rfl); (case hr => first | (go_simp; done) | (go_simp; rfl)); intro gb444 hg w38 hbox hb; have n0_ := Aside0.mk (Kd.R_below (rA HO406.out) hb); have n1_ := Aside0.mk (Kd.R_below (rA HO409.out) hb); have n2_ := Aside0.mk (Kd.R_below (rA HO412.out) hb); have n3_ := Aside0.mk (Kd.R_below (rA HO415.out) hb); have n4_ := Aside0.mk (Kd.R_below (rA HO418.out) hb); have n5_ := Aside0.mk (Kd.R_below (rA HO421.out) hb); have n6_ := Aside0.mk (Kd.R_below (rA HO426.out) hb); have n7_ := Aside0.mk (Kd.R_below (rA HO429.out) hb); have n8_ := Aside0.mk (Kd.R_below (rA HO432.out) hb); have n9_ := Aside0.mk (Kd.R_below (rA HO436.out) hb); have n10_ := Aside0.mk (Kd.R_below (rA HO439.out) hb); have n11_ := Aside0.mk (Kd.R_below (rA HO442.out) hb); have n12_ := Aside0.mk (bB BK402.out hb); have n13_ := Aside0.mk (bB BK423.out hb); have n14_ := Aside0.mk (bB BK433.out hb); have n15_ := Aside0.mk (below_step (hA HB.out) hb); have n16_ := Aside0.mk (hbox); have n17_ := Aside0.mk ((by rw [hg]; exact (below_size (hA HB.out)) : w.heap.size ≤ gb444)); have n18_ := Aside0.mk ((by rw [hg]; exact (below_size (hA HB.out)) : w.heap.size ≤ gb444)); have n19_ := Aside0.mk ((by rw [hg]; exact Nat.ne_of_lt (blk_lt (g := gb402) (o := .cells #[.slice A0_0 l0_0.length c0_0, .slice A0_1 l0_1.length c0_1, .slice A0_2 l0_2.length c0_2] 25 (0, 0)) (bA BK402.out)) : gb402 ≠ gb444)); have n20_ := Aside0.mk ((by rw [hg]; exact Nat.ne_of_gt (blk_lt (g := gb402) (o := .cells #[.slice A0_0 l0_0.length c0_0, .slice A0_1 l0_1.length c0_1, .slice A0_2 l0_2.length c0_2] 25 (0, 0)) (bA BK402.out)) : gb444 ≠ gb402)); have n21_ := Aside0.mk ((by rw [hg]; exact Nat.ne_of_lt (blk_lt (g := gb423) (o := .cells #[.slice Ao23 t413.length co23, .slice Ao26 t416.length co26, .slice Ao27 t419.length co27] 29 (0, 0)) (bA BK423.out)) : gb423 ≠ gb444)); have n22_ := Aside0.mk ((by rw [hg]; exact Nat.ne_of_gt (blk_lt (g := gb423) (o := .cells #[.slice Ao23 t413.length co23, .slice Ao26 t416.length co26, .slice Ao27 t419.length co27] 29 (0, 0)) (bA BK423.out)) : gb444 ≠ gb423)); have n23_ := Aside0.mk ((by rw [hg]; exact Nat.ne_of_lt (blk_lt (g := gb433) (o := .cells #[.slice Ao31 t424.length co31, .slice Ao35 t427.length co35, .slice Ao36 t430.length co36] 29 (0, 0)) (bA BK433.out)) : gb433 ≠ gb444)); have n24_ := Aside0.mk ((by rw [hg]; exact Nat.ne_of_gt (blk_lt (g := gb433) (o := .cells #[.slice Ao31 t424.length co31, .slice Ao35 t427.length co35, .slice Ao36 t430.length co36] 29 (0, 0)) (bA BK433.out)) : gb444 ≠ gb433)); clear HO406; clear HO409; clear HO412; clear HO415; clear HO418; clear HO421; clear HO426; clear HO429; clear HO432; clear HO436; clear HO439; clear HO442; clear BK402; clear BK423; clear BK433; clear HB; have HO406 := n0_; have HO409 := n1_; have HO412 := n2_; have HO415 := n3_; have HO418 := n4_; have HO421 := n5_; have HO426 := n6_; have HO429 := n7_; have HO432 := n8_; have HO436 := n9_; have HO439 := n10_; have HO442 := n11_; have BK402 := n12_; have BK423 := n13_; have BK433 := n14_; have HB := n15_; have BK444 := n16_; have GW444 := n17_; have GE444 := n18_; have NB402_444 := n19_; have NB444_402 := n20_; have NB423_444 := n21_; have NB444_423 := n22_; have NB433_444 := n23_; have NB444_433 := n24_; clear n0_ n1_ n2_ n3_ n4_ n5_ n6_ n7_ n8_ n9_ n10_ n11_ n12_ n13_ n14_ n15_ n16_ n17_ n18_ n19_ n20_ n21_ n22_ n23_ n24_; clear hb hbox hg; obtain ⟨Ao39, co39, eo39⟩ := Kd.R_slice HO436.out; subst eo39; have hnb40 := NB444_402.out; have hnc40 := NB402_444.out; have hnb41 := NB444_423.out; have hnc41 := NB423_444.out; have hnb42 := NB444_433.out; have hnc42 := NB433_444.out; have hcz43_0 : w38.cell? ⟨gb444, 0, none⟩ = some (.slice none 0 0) := (blk_cell BK444.out 0).trans rfl; have hcz43_1 : w38.cell? ⟨gb444, 1, none⟩ = some (.slice none 0 0) := (blk_cell BK444.out 1).trans rfl; have hcz43_2 : w38.cell? ⟨gb444, 2, none⟩ = some (.slice none 0 0) := (blk_cell BK444.out 2).trans rfl; have hfz43_0 := blk_frozen BK444.out 0; have hfz43_1 := blk_frozen BK444.out 1; have hfz43_2 := blk_frozen BK444.out 2; obtain ⟨Ao44, co44, eo44⟩ := Kd.R_slice HO439.out; subst eo44; obtain ⟨Ao45, co45, eo45⟩ := Kd.R_slice HO442.out; subst eo45))
  (try simp only [Act.put, List.setIfInBounds_toArray, List.set_cons_zero, List.set_cons_succ])
  go_cut [44] (fun v44 wc => ∃ (kq : Nat) (x44_11 : Bool), v44 = .bool x44_11 ∧ Aside0 (laws_FnExactRestart.j0 kq a1 t422 t443 x44_11 l0_0 l0_1 l0_2 t413 t416 t419 t424 t427 t430 t434 t437 t440 = some r) ∧ Aside0 (kq ≤ k) ∧ Aside0 (Kd.R k50 50 wc w.heap.size (fun k_ => some k_ ≠ ((.slice Ao31 t424.length co31) : Value).ownBlock ∧ some k_ ≠ ((.slice Ao39 t434.length co39) : Value).ownBlock) (.slice Ao23 t413.length co23) t413) ∧ Aside0 (Kd.R (Kd.int .i64) 3 wc w.heap.size (fun k_ => some k_ ≠ ((.slice Ao27 t419.length co27) : Value).ownBlock ∧ some k_ ≠ ((.slice Ao35 t427.length co35) : Value).ownBlock ∧ some k_ ≠ ((.slice Ao36 t430.length co36) : Value).ownBlock ∧ some k_ ≠ ((.slice Ao44 t437.length co44) : Value).ownBlock ∧ some k_ ≠ ((.slice Ao45 t440.length co45) : Value).ownBlock) (.slice Ao26 t416.length co26) t416) ∧ Aside0 (Kd.R (Kd.int .i64) 3 wc w.heap.size (fun k_ => some k_ ≠ ((.slice Ao26 t416.length co26) : Value).ownBlock ∧ some k_ ≠ ((.slice Ao35 t427.length co35) : Value).ownBlock ∧ some k_ ≠ ((.slice Ao36 t430.length co36) : Value).ownBlock ∧ some k_ ≠ ((.slice Ao44 t437.length co44) : Value).ownBlock ∧ some k_ ≠ ((.slice Ao45 t440.length co45) : Value).ownBlock) (.slice Ao27 t419.length co27) t419) ∧ Aside0 (Kd.R k50 50 wc w.heap.size (fun k_ => some k_ ≠ ((.slice Ao23 t413.length co23) : Value).ownBlock ∧ some k_ ≠ ((.slice Ao39 t434.length co39) : Value).ownBlock) (.slice Ao31 t424.length co31) t424) ∧ Aside0 (Kd.R (Kd.int .i64) 3 wc w.heap.size (fun k_ => some k_ ≠ ((.slice Ao26 t416.length co26) : Value).ownBlock ∧ some k_ ≠ ((.slice Ao27 t419.length co27) : Value).ownBlock ∧ some k_ ≠ ((.slice Ao36 t430.length co36) : Value).ownBlock ∧ some k_ ≠ ((.slice Ao44 t437.length co44) : Value).ownBlock ∧ some k_ ≠ ((.slice Ao45 t440.length co45) : Value).ownBlock) (.slice Ao35 t427.length co35) t427) ∧ Aside0 (Kd.R (Kd.int .i64) 3 wc w.heap.size (fun k_ => some k_ ≠ ((.slice Ao26 t416.length co26) : Value).ownBlock ∧ some k_ ≠ ((.slice Ao27 t419.length co27) : Value).ownBlock ∧ some k_ ≠ ((.slice Ao35 t427.length co35) : Value).ownBlock ∧ some k_ ≠ ((.slice Ao44 t437.length co44) : Value).ownBlock ∧ some k_ ≠ ((.slice Ao45 t440.length co45) : Value).ownBlock) (.slice Ao36 t430.length co36) t430) ∧ Aside0 (Kd.R k50 50 wc w.heap.size (fun k_ => some k_ ≠ ((.slice Ao23 t413.length co23) : Value).ownBlock ∧ some k_ ≠ ((.slice Ao31 t424.length co31) : Value).ownBlock) (.slice Ao39 t434.length co39) t434) ∧ Aside0 (Kd.R (Kd.int .i64) 3 wc w.heap.size (fun k_ => some k_ ≠ ((.slice Ao26 t416.length co26) : Value).ownBlock ∧ some k_ ≠ ((.slice Ao27 t419.length co27) : Value).ownBlock ∧ some k_ ≠ ((.slice Ao35 t427.length co35) : Value).ownBlock ∧ some k_ ≠ ((.slice Ao36 t430.length co36) : Value).ownBlock ∧ some k_ ≠ ((.slice Ao45 t440.length co45) : Value).ownBlock) (.slice Ao44 t437.length co44) t437) ∧ Aside0 (Kd.R (Kd.int .i64) 3 wc w.heap.size (fun k_ => some k_ ≠ ((.slice Ao26 t416.length co26) : Value).ownBlock ∧ some k_ ≠ ((.slice Ao27 t419.length co27) : Value).ownBlock ∧ some k_ ≠ ((.slice Ao35 t427.length co35) : Value).ownBlock ∧ some k_ ≠ ((.slice Ao36 t430.length co36) : Value).ownBlock ∧ some k_ ≠ ((.slice Ao44 t437.length co44) : Value).ownBlock) (.slice Ao45 t440.length co45) t440) ∧ Aside0 (wc.heap[gb402]? = some (.cells #[(.slice A0_0 l0_0.length c0_0), (.slice A0_1 l0_1.length c0_1), (.slice A0_2 l0_2.length c0_2)] 25 (0, 0))) ∧ Aside0 (wc.heap[gb423]? = some (.cells #[(.slice Ao23 t413.length co23), (.slice Ao26 t416.length co26), (.slice Ao27 t419.length co27)] 29 (0, 0))) ∧ Aside0 (wc.heap[gb433]? = some (.cells #[(.slice Ao31 t424.length co31), (.slice Ao35 t427.length co35), (.slice Ao36 t430.length co36)] 29 (0, 0))) ∧ Aside0 (wc.heap[gb444]? = some (.cells #[(.slice Ao39 t434.length co39), (.slice Ao44 t437.length co44), (.slice Ao45 t440.length co45)] 29 (0, 0))) ∧ Aside0 (Below w.heap.size w wc))
  case first =>
   have H := HC12.out
   clear HC12
   replace H := Option.bind_eq_some_iff.mp H
   obtain ⟨t445, A460, H⟩ := H
   replace H : (if t445 = true then (laws_FnExactRestart.j0 k a1 t422 t443 (t443 != t422) l0_0 l0_1 l0_2 t413 t416 t419 t424 t427 t430 t434 t437 t440) else (laws_FnExactRestart.j0 k a1 t422 t443 true l0_0 l0_1 l0_2 t413 t416 t419 t424 t427 t430 t434 t437 t440)) = some r := H
   have A46 := Aside0.mk A460
   clear A460
   by_cases c47 : t445 = true
   ·subst c47
    have H1 : (laws_FnExactRestart.j0 k a1 t422 t443 (t443 != t422) l0_0 l0_1 l0_2 t413 t416 t419 t424 t427 t430 t434 t437 t440) = some r := by rw [if_pos rfl] at H; exact H
    clear H
    have H := H1
    clear H1
    have H' := Aside0.mk H
    clear H
    have hnb48 := NB444_402.out
    have hnc48 := NB402_444.out
    have hnb49 := NB444_423.out
    have hnc49 := NB423_444.out
    have hnb50 := NB444_433.out
    have hnc50 := NB433_444.out
    have hcz51_0 : w38.cell? ⟨gb444, 0, none⟩ = some (.slice none 0 0) := (blk_cell BK444.out 0).trans rfl
    have hcz51_1 : w38.cell? ⟨gb444, 1, none⟩ = some (.slice none 0 0) := (blk_cell BK444.out 1).trans rfl
    have hcz51_2 : w38.cell? ⟨gb444, 2, none⟩ = some (.slice none 0 0) := (blk_cell BK444.out 2).trans rfl
    have hfz51_0 := blk_frozen BK444.out 0
    have hfz51_1 := blk_frozen BK444.out 1
    have hfz51_2 := blk_frozen BK444.out 2
    have hnb52 := NB423_402.out
    have hnc52 := NB402_423.out
    have hnb53 := NB423_433.out
    have hnc53 := NB433_423.out
    have hcz54_0 : w38.cell? ⟨gb423, 0, none⟩ = some (.slice Ao23 t413.length co23) := (blk_cell BK423.out 0).trans rfl
    have hcz54_1 : w38.cell? ⟨gb423, 1, none⟩ = some (.slice Ao26 t416.length co26) := (blk_cell BK423.out 1).trans rfl
    have hcz54_2 : w38.cell? ⟨gb423, 2, none⟩ = some (.slice Ao27 t419.length co27) := (blk_cell BK423.out 2).trans rfl
    have hfz54_0 := blk_frozen BK423.out 0
    have hfz54_1 := blk_frozen BK423.out 1
    have hfz54_2 := blk_frozen BK423.out 2
    go_wp2_with (first | ((with_reducible refine gate_callee (f := 13) rfl ?_); refine goesL_ (some 38) rfl rfl Try.func13 (by kernel_rfl) rfl #[.agg #[.slice Ao39 t434.length co39, .slice Ao44 t437.length co44, .slice Ao45 t440.length co45], .agg #[.slice Ao23 t413.length co23, .slice Ao26 t416.length co26, .slice Ao27 t419.length co27]] rfl ar ?_; (with_reducible refine (laws_eqBook.calls k _ _ t434 _ _ t437 _ _ t440 _ _ t413 _ _ t416 _ _ t419 true _ ?side1 ?side2 ?side3 ?side4 ?side5 ?side6 ?side7 ?side8 ?side9 ?side10 ?side11 ?side12 A46.out).mono ?_); (case side1 => refine (Kd.R_reads' (e := 50) (base := w.heap.size) (ok := fun k_ => (((True ∧ some k_ ≠ (.slice Ao18 t404.length co18 : Value).ownBlock) ∧ some k_ ≠ (.slice Ao23 t413.length co23 : Value).ownBlock) ∧ some k_ ≠ (.slice Ao31 t424.length co31 : Value).ownBlock)) (n := t434.length) (c := co39) ?_).2.2; exact (rC (a := by exact (Kd.R_mono (Kd.R_far (p := ⟨gb444, 2, none⟩) (Kd.R_far (p := ⟨gb444, 1, none⟩) (Kd.R_far (p := ⟨gb444, 0, none⟩) (Kd.R_types HO436.out BK444.out (by decide)) (fun _ hk => hk.2) (.slice Ao39 t434.length co39)) (fun _ hk => hk.2) (.slice Ao44 t437.length co44)) (fun _ hk => hk.2) (.slice Ao45 t440.length co45)) (fun _ h_ => h_.1))))); (case side2 => exact (Kd.R_reads' HO436.out).2.1); (case side3 => refine (Kd.R_reads' (e := 3) (base := w.heap.size) (ok := fun k_ => ((((((some k_ ≠ (.slice Ao45 t440.length co45 : Value).ownBlock ∧ some k_ ≠ (.slice Ao19 t407.length co19 : Value).ownBlock) ∧ some k_ ≠ (.slice Ao20 t410.length co20 : Value).ownBlock) ∧ some k_ ≠ (.slice Ao26 t416.length co26 : Value).ownBlock) ∧ some k_ ≠ (.slice Ao27 t419.length co27 : Value).ownBlock) ∧ some k_ ≠ (.slice Ao35 t427.length co35 : Value).ownBlock) ∧ some k_ ≠ (.slice Ao36 t430.length co36 : Value).ownBlock)) (n := t437.length) (c := co44) ?_).2.2; exact (rC (a := by exact (Kd.R_mono (Kd.R_far (p := ⟨gb444, 2, none⟩) (Kd.R_far (p := ⟨gb444, 1, none⟩) (Kd.R_far (p := ⟨gb444, 0, none⟩) (Kd.R_types HO439.out BK444.out (by decide)) (fun _ hk => hk.2) (.slice Ao39 t434.length co39)) (fun _ hk => hk.2) (.slice Ao44 t437.length co44)) (fun _ hk => hk.2) (.slice Ao45 t440.length co45)) (fun _ h_ => h_.1))))); (case side4 => exact (Kd.R_reads' HO439.out).2.1); (case side5 => refine (Kd.R_reads' (e := 3) (base := w.heap.size) (ok := fun k_ => ((((((some k_ ≠ (.slice Ao44 t437.length co44 : Value).ownBlock ∧ some k_ ≠ (.slice Ao19 t407.length co19 : Value).ownBlock) ∧ some k_ ≠ (.slice Ao20 t410.length co20 : Value).ownBlock) ∧ some k_ ≠ (.slice Ao26 t416.length co26 : Value).ownBlock) ∧ some k_ ≠ (.slice Ao27 t419.length co27 : Value).ownBlock) ∧ some k_ ≠ (.slice Ao35 t427.length co35 : Value).ownBlock) ∧ some k_ ≠ (.slice Ao36 t430.length co36 : Value).ownBlock)) (n := t440.length) (c := co45) ?_).2.2; exact (rC (a := by exact (Kd.R_mono (Kd.R_far (p := ⟨gb444, 2, none⟩) (Kd.R_far (p := ⟨gb444, 1, none⟩) (Kd.R_far (p := ⟨gb444, 0, none⟩) (Kd.R_types HO442.out BK444.out (by decide)) (fun _ hk => hk.2) (.slice Ao39 t434.length co39)) (fun _ hk => hk.2) (.slice Ao44 t437.length co44)) (fun _ hk => hk.2) (.slice Ao45 t440.length co45)) (fun _ h_ => h_.1))))); (case side6 => exact (Kd.R_reads' HO442.out).2.1); (case side7 => refine (Kd.R_reads' (e := 50) (base := w.heap.size) (ok := fun k_ => (((True ∧ some k_ ≠ (.slice Ao18 t404.length co18 : Value).ownBlock) ∧ some k_ ≠ (.slice Ao31 t424.length co31 : Value).ownBlock) ∧ some k_ ≠ (.slice Ao39 t434.length co39 : Value).ownBlock)) (n := t413.length) (c := co23) ?_).2.2; exact (rC (a := by exact (Kd.R_mono (Kd.R_far (p := ⟨gb444, 2, none⟩) (Kd.R_far (p := ⟨gb444, 1, none⟩) (Kd.R_far (p := ⟨gb444, 0, none⟩) (Kd.R_types HO415.out BK444.out (by decide)) (fun _ hk => hk.2) (.slice Ao39 t434.length co39)) (fun _ hk => hk.2) (.slice Ao44 t437.length co44)) (fun _ hk => hk.2) (.slice Ao45 t440.length co45)) (fun _ h_ => h_.1))))); (case side8 => exact (Kd.R_reads' HO415.out).2.1); (case side9 => refine (Kd.R_reads' (e := 3) (base := w.heap.size) (ok := fun k_ => ((((((some k_ ≠ (.slice Ao27 t419.length co27 : Value).ownBlock ∧ some k_ ≠ (.slice Ao19 t407.length co19 : Value).ownBlock) ∧ some k_ ≠ (.slice Ao20 t410.length co20 : Value).ownBlock) ∧ some k_ ≠ (.slice Ao35 t427.length co35 : Value).ownBlock) ∧ some k_ ≠ (.slice Ao36 t430.length co36 : Value).ownBlock) ∧ some k_ ≠ (.slice Ao44 t437.length co44 : Value).ownBlock) ∧ some k_ ≠ (.slice Ao45 t440.length co45 : Value).ownBlock)) (n := t416.length) (c := co26) ?_).2.2; exact (rC (a := by exact (Kd.R_mono (Kd.R_far (p := ⟨gb444, 2, none⟩) (Kd.R_far (p := ⟨gb444, 1, none⟩) (Kd.R_far (p := ⟨gb444, 0, none⟩) (Kd.R_types HO418.out BK444.out (by decide)) (fun _ hk => hk.2) (.slice Ao39 t434.length co39)) (fun _ hk => hk.2) (.slice Ao44 t437.length co44)) (fun _ hk => hk.2) (.slice Ao45 t440.length co45)) (fun _ h_ => h_.1))))); (case side10 => exact (Kd.R_reads' HO418.out).2.1); (case side11 => refine (Kd.R_reads' (e := 3) (base := w.heap.size) (ok := fun k_ => ((((((some k_ ≠ (.slice Ao26 t416.length co26 : Value).ownBlock ∧ some k_ ≠ (.slice Ao19 t407.length co19 : Value).ownBlock) ∧ some k_ ≠ (.slice Ao20 t410.length co20 : Value).ownBlock) ∧ some k_ ≠ (.slice Ao35 t427.length co35 : Value).ownBlock) ∧ some k_ ≠ (.slice Ao36 t430.length co36 : Value).ownBlock) ∧ some k_ ≠ (.slice Ao44 t437.length co44 : Value).ownBlock) ∧ some k_ ≠ (.slice Ao45 t440.length co45 : Value).ownBlock)) (n := t419.length) (c := co27) ?_).2.2; exact (rC (a := by exact (Kd.R_mono (Kd.R_far (p := ⟨gb444, 2, none⟩) (Kd.R_far (p := ⟨gb444, 1, none⟩) (Kd.R_far (p := ⟨gb444, 0, none⟩) (Kd.R_types HO421.out BK444.out (by decide)) (fun _ hk => hk.2) (.slice Ao39 t434.length co39)) (fun _ hk => hk.2) (.slice Ao44 t437.length co44)) (fun _ hk => hk.2) (.slice Ao45 t440.length co45)) (fun _ h_ => h_.1))))); (case side12 => exact (Kd.R_reads' HO421.out).2.1); rintro e w55 ⟨rfl, hb⟩; refine ⟨_, rfl, ?_⟩; have n0_ := Aside0.mk (Kd.R_below (rC (a := by exact (Kd.R_mono (Kd.R_far (p := ⟨gb444, 2, none⟩) (Kd.R_far (p := ⟨gb444, 1, none⟩) (Kd.R_far (p := ⟨gb444, 0, none⟩) (Kd.R_types HO406.out BK444.out (by decide)) (fun _ hk => hk.2) (.slice Ao39 t434.length co39)) (fun _ hk => hk.2) (.slice Ao44 t437.length co44)) (fun _ hk => hk.2) (.slice Ao45 t440.length co45)) (fun _ h_ => h_.1)))) hb); have n1_ := Aside0.mk (Kd.R_below (rC (a := by exact (Kd.R_mono (Kd.R_far (p := ⟨gb444, 2, none⟩) (Kd.R_far (p := ⟨gb444, 1, none⟩) (Kd.R_far (p := ⟨gb444, 0, none⟩) (Kd.R_types HO409.out BK444.out (by decide)) (fun _ hk => hk.2) (.slice Ao39 t434.length co39)) (fun _ hk => hk.2) (.slice Ao44 t437.length co44)) (fun _ hk => hk.2) (.slice Ao45 t440.length co45)) (fun _ h_ => h_.1)))) hb); have n2_ := Aside0.mk (Kd.R_below (rC (a := by exact (Kd.R_mono (Kd.R_far (p := ⟨gb444, 2, none⟩) (Kd.R_far (p := ⟨gb444, 1, none⟩) (Kd.R_far (p := ⟨gb444, 0, none⟩) (Kd.R_types HO412.out BK444.out (by decide)) (fun _ hk => hk.2) (.slice Ao39 t434.length co39)) (fun _ hk => hk.2) (.slice Ao44 t437.length co44)) (fun _ hk => hk.2) (.slice Ao45 t440.length co45)) (fun _ h_ => h_.1)))) hb); have n3_ := Aside0.mk (Kd.R_below (rC (a := by exact (Kd.R_mono (Kd.R_far (p := ⟨gb444, 2, none⟩) (Kd.R_far (p := ⟨gb444, 1, none⟩) (Kd.R_far (p := ⟨gb444, 0, none⟩) (Kd.R_types HO415.out BK444.out (by decide)) (fun _ hk => hk.2) (.slice Ao39 t434.length co39)) (fun _ hk => hk.2) (.slice Ao44 t437.length co44)) (fun _ hk => hk.2) (.slice Ao45 t440.length co45)) (fun _ h_ => h_.1)))) hb); have n4_ := Aside0.mk (Kd.R_below (rC (a := by exact (Kd.R_mono (Kd.R_far (p := ⟨gb444, 2, none⟩) (Kd.R_far (p := ⟨gb444, 1, none⟩) (Kd.R_far (p := ⟨gb444, 0, none⟩) (Kd.R_types HO418.out BK444.out (by decide)) (fun _ hk => hk.2) (.slice Ao39 t434.length co39)) (fun _ hk => hk.2) (.slice Ao44 t437.length co44)) (fun _ hk => hk.2) (.slice Ao45 t440.length co45)) (fun _ h_ => h_.1)))) hb); have n5_ := Aside0.mk (Kd.R_below (rC (a := by exact (Kd.R_mono (Kd.R_far (p := ⟨gb444, 2, none⟩) (Kd.R_far (p := ⟨gb444, 1, none⟩) (Kd.R_far (p := ⟨gb444, 0, none⟩) (Kd.R_types HO421.out BK444.out (by decide)) (fun _ hk => hk.2) (.slice Ao39 t434.length co39)) (fun _ hk => hk.2) (.slice Ao44 t437.length co44)) (fun _ hk => hk.2) (.slice Ao45 t440.length co45)) (fun _ h_ => h_.1)))) hb); have n6_ := Aside0.mk (Kd.R_below (rC (a := by exact (Kd.R_mono (Kd.R_far (p := ⟨gb444, 2, none⟩) (Kd.R_far (p := ⟨gb444, 1, none⟩) (Kd.R_far (p := ⟨gb444, 0, none⟩) (Kd.R_types HO426.out BK444.out (by decide)) (fun _ hk => hk.2) (.slice Ao39 t434.length co39)) (fun _ hk => hk.2) (.slice Ao44 t437.length co44)) (fun _ hk => hk.2) (.slice Ao45 t440.length co45)) (fun _ h_ => h_.1)))) hb); have n7_ := Aside0.mk (Kd.R_below (rC (a := by exact (Kd.R_mono (Kd.R_far (p := ⟨gb444, 2, none⟩) (Kd.R_far (p := ⟨gb444, 1, none⟩) (Kd.R_far (p := ⟨gb444, 0, none⟩) (Kd.R_types HO429.out BK444.out (by decide)) (fun _ hk => hk.2) (.slice Ao39 t434.length co39)) (fun _ hk => hk.2) (.slice Ao44 t437.length co44)) (fun _ hk => hk.2) (.slice Ao45 t440.length co45)) (fun _ h_ => h_.1)))) hb); have n8_ := Aside0.mk (Kd.R_below (rC (a := by exact (Kd.R_mono (Kd.R_far (p := ⟨gb444, 2, none⟩) (Kd.R_far (p := ⟨gb444, 1, none⟩) (Kd.R_far (p := ⟨gb444, 0, none⟩) (Kd.R_types HO432.out BK444.out (by decide)) (fun _ hk => hk.2) (.slice Ao39 t434.length co39)) (fun _ hk => hk.2) (.slice Ao44 t437.length co44)) (fun _ hk => hk.2) (.slice Ao45 t440.length co45)) (fun _ h_ => h_.1)))) hb); have n9_ := Aside0.mk (Kd.R_below (rC (a := by exact (Kd.R_mono (Kd.R_far (p := ⟨gb444, 2, none⟩) (Kd.R_far (p := ⟨gb444, 1, none⟩) (Kd.R_far (p := ⟨gb444, 0, none⟩) (Kd.R_types HO436.out BK444.out (by decide)) (fun _ hk => hk.2) (.slice Ao39 t434.length co39)) (fun _ hk => hk.2) (.slice Ao44 t437.length co44)) (fun _ hk => hk.2) (.slice Ao45 t440.length co45)) (fun _ h_ => h_.1)))) hb); have n10_ := Aside0.mk (Kd.R_below (rC (a := by exact (Kd.R_mono (Kd.R_far (p := ⟨gb444, 2, none⟩) (Kd.R_far (p := ⟨gb444, 1, none⟩) (Kd.R_far (p := ⟨gb444, 0, none⟩) (Kd.R_types HO439.out BK444.out (by decide)) (fun _ hk => hk.2) (.slice Ao39 t434.length co39)) (fun _ hk => hk.2) (.slice Ao44 t437.length co44)) (fun _ hk => hk.2) (.slice Ao45 t440.length co45)) (fun _ h_ => h_.1)))) hb); have n11_ := Aside0.mk (Kd.R_below (rC (a := by exact (Kd.R_mono (Kd.R_far (p := ⟨gb444, 2, none⟩) (Kd.R_far (p := ⟨gb444, 1, none⟩) (Kd.R_far (p := ⟨gb444, 0, none⟩) (Kd.R_types HO442.out BK444.out (by decide)) (fun _ hk => hk.2) (.slice Ao39 t434.length co39)) (fun _ hk => hk.2) (.slice Ao44 t437.length co44)) (fun _ hk => hk.2) (.slice Ao45 t440.length co45)) (fun _ h_ => h_.1)))) hb); have n12_ := Aside0.mk (blk_below (g := gb402) (o := .cells #[.slice A0_0 l0_0.length c0_0, .slice A0_1 l0_1.length c0_1, .slice A0_2 l0_2.length c0_2] 25 (0, 0)) (by refine bC (a := ?_); refine blk_far ?_ NB402_444.out _; refine bC (a := ?_); refine blk_far ?_ NB402_444.out _; refine bC (a := ?_); refine blk_far ?_ NB402_444.out _; refine bC (a := ?_); exact BK402.out) hb); have n13_ := Aside0.mk (blk_below (g := gb423) (o := .cells #[.slice Ao23 t413.length co23, .slice Ao26 t416.length co26, .slice Ao27 t419.length co27] 29 (0, 0)) (by refine bC (a := ?_); refine blk_far ?_ NB423_444.out _; refine bC (a := ?_); refine blk_far ?_ NB423_444.out _; refine bC (a := ?_); refine blk_far ?_ NB423_444.out _; refine bC (a := ?_); exact BK423.out) hb); have n14_ := Aside0.mk (blk_below (g := gb433) (o := .cells #[.slice Ao31 t424.length co31, .slice Ao35 t427.length co35, .slice Ao36 t430.length co36] 29 (0, 0)) (by refine bC (a := ?_); refine blk_far ?_ NB433_444.out _; refine bC (a := ?_); refine blk_far ?_ NB433_444.out _; refine bC (a := ?_); refine blk_far ?_ NB433_444.out _; refine bC (a := ?_); exact BK433.out) hb); have n15_ := Aside0.mk (blk_below (g := gb444) (o := .cells #[.slice Ao39 t434.length co39, .slice Ao44 t437.length co44, .slice Ao45 t440.length co45] 29 (0, 0)) (by refine bC (a := ?_); refine blk_put (cs := #[.slice Ao39 t434.length co39, .slice Ao44 t437.length co44, .slice none 0 0]) ?_ 2 _ rfl; refine bC (a := ?_); refine blk_put (cs := #[.slice Ao39 t434.length co39, .slice none 0 0, .slice none 0 0]) ?_ 1 _ rfl; refine bC (a := ?_); refine blk_put (cs := #[.slice none 0 0, .slice none 0 0, .slice none 0 0]) ?_ 0 _ rfl; refine bC (a := ?_); exact BK444.out) hb); have n16_ := Aside0.mk (below_step (hA HB.out) hb); clear HO406; clear HO409; clear HO412; clear HO415; clear HO418; clear HO421; clear HO426; clear HO429; clear HO432; clear HO436; clear HO439; clear HO442; clear BK402; clear BK423; clear BK433; clear BK444; clear HB; have HO406 := n0_; have HO409 := n1_; have HO412 := n2_; have HO415 := n3_; have HO418 := n4_; have HO421 := n5_; have HO426 := n6_; have HO429 := n7_; have HO432 := n8_; have HO436 := n9_; have HO439 := n10_; have HO442 := n11_; have BK402 := n12_; have BK423 := n13_; have BK433 := n14_; have BK444 := n15_; have HB := n16_; clear n0_ n1_ n2_ n3_ n4_ n5_ n6_ n7_ n8_ n9_ n10_ n11_ n12_ n13_ n14_ n15_ n16_; (try clear hb); (try clear hb2); (try clear hk); (try clear hi)))
    go_meet
    case rel => exact ⟨_, ((t443 != t422)), rs, H', ⟨by first | omega | exact Nat.le_refl _⟩, ⟨by refine rC (a := ?_); exact Kd.R_mono HO415.out (fun _ hk => ⟨hk.1.2, hk.2⟩)⟩, ⟨by refine rC (a := ?_); exact Kd.R_mono HO418.out (fun _ hk => ⟨hk.1.1.1.1.1.1, ⟨hk.1.1.1.2, ⟨hk.1.1.2, ⟨hk.1.2, hk.2⟩⟩⟩⟩)⟩, ⟨by refine rC (a := ?_); exact Kd.R_mono HO421.out (fun _ hk => ⟨hk.1.1.1.1.1.1, ⟨hk.1.1.1.2, ⟨hk.1.1.2, ⟨hk.1.2, hk.2⟩⟩⟩⟩)⟩, ⟨by refine rC (a := ?_); exact Kd.R_mono HO426.out (fun _ hk => ⟨hk.1.2, hk.2⟩)⟩, ⟨by refine rC (a := ?_); exact Kd.R_mono HO429.out (fun _ hk => ⟨hk.1.1.1.2, ⟨hk.1.1.2, ⟨hk.1.1.1.1.1.1, ⟨hk.1.2, hk.2⟩⟩⟩⟩)⟩, ⟨by refine rC (a := ?_); exact Kd.R_mono HO432.out (fun _ hk => ⟨hk.1.1.1.2, ⟨hk.1.1.2, ⟨hk.1.1.1.1.1.1, ⟨hk.1.2, hk.2⟩⟩⟩⟩)⟩, ⟨by refine rC (a := ?_); exact Kd.R_mono HO436.out (fun _ hk => ⟨hk.1.2, hk.2⟩)⟩, ⟨by refine rC (a := ?_); exact Kd.R_mono HO439.out (fun _ hk => ⟨hk.1.1.1.2, ⟨hk.1.1.2, ⟨hk.1.2, ⟨hk.2, hk.1.1.1.1.1.1⟩⟩⟩⟩)⟩, ⟨by refine rC (a := ?_); exact Kd.R_mono HO442.out (fun _ hk => ⟨hk.1.1.1.2, ⟨hk.1.1.2, ⟨hk.1.2, ⟨hk.2, hk.1.1.1.1.1.1⟩⟩⟩⟩)⟩, ⟨by refine bC (a := ?_); exact BK402.out⟩, ⟨by refine bC (a := ?_); exact BK423.out⟩, ⟨by refine bC (a := ?_); exact BK433.out⟩, ⟨by refine bC (a := ?_); exact BK444.out⟩, ⟨hA HB.out⟩⟩
   ·replace c47 := Bool.eq_false_iff.mpr c47
    subst c47
    have H1 : (laws_FnExactRestart.j0 k a1 t422 t443 true l0_0 l0_1 l0_2 t413 t416 t419 t424 t427 t430 t434 t437 t440) = some r := by rw [if_neg (show ¬ (false = true) by decide)] at H; exact H
    clear H
    have H := H1
    clear H1
    have H' := Aside0.mk H
    clear H
    have hnb56 := NB444_402.out
    have hnc56 := NB402_444.out
    have hnb57 := NB444_423.out
    have hnc57 := NB423_444.out
    have hnb58 := NB444_433.out
    have hnc58 := NB433_444.out
    have hcz59_0 : w38.cell? ⟨gb444, 0, none⟩ = some (.slice none 0 0) := (blk_cell BK444.out 0).trans rfl
    have hcz59_1 : w38.cell? ⟨gb444, 1, none⟩ = some (.slice none 0 0) := (blk_cell BK444.out 1).trans rfl
    have hcz59_2 : w38.cell? ⟨gb444, 2, none⟩ = some (.slice none 0 0) := (blk_cell BK444.out 2).trans rfl
    have hfz59_0 := blk_frozen BK444.out 0
    have hfz59_1 := blk_frozen BK444.out 1
    have hfz59_2 := blk_frozen BK444.out 2
    have hnb60 := NB423_402.out
    have hnc60 := NB402_423.out
    have hnb61 := NB423_433.out
    have hnc61 := NB433_423.out
    have hcz62_0 : w38.cell? ⟨gb423, 0, none⟩ = some (.slice Ao23 t413.length co23) := (blk_cell BK423.out 0).trans rfl
    have hcz62_1 : w38.cell? ⟨gb423, 1, none⟩ = some (.slice Ao26 t416.length co26) := (blk_cell BK423.out 1).trans rfl
    have hcz62_2 : w38.cell? ⟨gb423, 2, none⟩ = some (.slice Ao27 t419.length co27) := (blk_cell BK423.out 2).trans rfl
    have hfz62_0 := blk_frozen BK423.out 0
    have hfz62_1 := blk_frozen BK423.out 1
    have hfz62_2 := blk_frozen BK423.out 2
    go_wp2_with (first | ((with_reducible refine gate_callee (f := 13) rfl ?_); refine goesL_ (some 38) rfl rfl Try.func13 (by kernel_rfl) rfl #[.agg #[.slice Ao39 t434.length co39, .slice Ao44 t437.length co44, .slice Ao45 t440.length co45], .agg #[.slice Ao23 t413.length co23, .slice Ao26 t416.length co26, .slice Ao27 t419.length co27]] rfl ar ?_; (with_reducible refine (laws_eqBook.calls k _ _ t434 _ _ t437 _ _ t440 _ _ t413 _ _ t416 _ _ t419 false _ ?side1 ?side2 ?side3 ?side4 ?side5 ?side6 ?side7 ?side8 ?side9 ?side10 ?side11 ?side12 A46.out).mono ?_); (case side1 => refine (Kd.R_reads' (e := 50) (base := w.heap.size) (ok := fun k_ => (((True ∧ some k_ ≠ (.slice Ao18 t404.length co18 : Value).ownBlock) ∧ some k_ ≠ (.slice Ao23 t413.length co23 : Value).ownBlock) ∧ some k_ ≠ (.slice Ao31 t424.length co31 : Value).ownBlock)) (n := t434.length) (c := co39) ?_).2.2; exact (rC (a := by exact (Kd.R_mono (Kd.R_far (p := ⟨gb444, 2, none⟩) (Kd.R_far (p := ⟨gb444, 1, none⟩) (Kd.R_far (p := ⟨gb444, 0, none⟩) (Kd.R_types HO436.out BK444.out (by decide)) (fun _ hk => hk.2) (.slice Ao39 t434.length co39)) (fun _ hk => hk.2) (.slice Ao44 t437.length co44)) (fun _ hk => hk.2) (.slice Ao45 t440.length co45)) (fun _ h_ => h_.1))))); (case side2 => exact (Kd.R_reads' HO436.out).2.1); (case side3 => refine (Kd.R_reads' (e := 3) (base := w.heap.size) (ok := fun k_ => ((((((some k_ ≠ (.slice Ao45 t440.length co45 : Value).ownBlock ∧ some k_ ≠ (.slice Ao19 t407.length co19 : Value).ownBlock) ∧ some k_ ≠ (.slice Ao20 t410.length co20 : Value).ownBlock) ∧ some k_ ≠ (.slice Ao26 t416.length co26 : Value).ownBlock) ∧ some k_ ≠ (.slice Ao27 t419.length co27 : Value).ownBlock) ∧ some k_ ≠ (.slice Ao35 t427.length co35 : Value).ownBlock) ∧ some k_ ≠ (.slice Ao36 t430.length co36 : Value).ownBlock)) (n := t437.length) (c := co44) ?_).2.2; exact (rC (a := by exact (Kd.R_mono (Kd.R_far (p := ⟨gb444, 2, none⟩) (Kd.R_far (p := ⟨gb444, 1, none⟩) (Kd.R_far (p := ⟨gb444, 0, none⟩) (Kd.R_types HO439.out BK444.out (by decide)) (fun _ hk => hk.2) (.slice Ao39 t434.length co39)) (fun _ hk => hk.2) (.slice Ao44 t437.length co44)) (fun _ hk => hk.2) (.slice Ao45 t440.length co45)) (fun _ h_ => h_.1))))); (case side4 => exact (Kd.R_reads' HO439.out).2.1); (case side5 => refine (Kd.R_reads' (e := 3) (base := w.heap.size) (ok := fun k_ => ((((((some k_ ≠ (.slice Ao44 t437.length co44 : Value).ownBlock ∧ some k_ ≠ (.slice Ao19 t407.length co19 : Value).ownBlock) ∧ some k_ ≠ (.slice Ao20 t410.length co20 : Value).ownBlock) ∧ some k_ ≠ (.slice Ao26 t416.length co26 : Value).ownBlock) ∧ some k_ ≠ (.slice Ao27 t419.length co27 : Value).ownBlock) ∧ some k_ ≠ (.slice Ao35 t427.length co35 : Value).ownBlock) ∧ some k_ ≠ (.slice Ao36 t430.length co36 : Value).ownBlock)) (n := t440.length) (c := co45) ?_).2.2; exact (rC (a := by exact (Kd.R_mono (Kd.R_far (p := ⟨gb444, 2, none⟩) (Kd.R_far (p := ⟨gb444, 1, none⟩) (Kd.R_far (p := ⟨gb444, 0, none⟩) (Kd.R_types HO442.out BK444.out (by decide)) (fun _ hk => hk.2) (.slice Ao39 t434.length co39)) (fun _ hk => hk.2) (.slice Ao44 t437.length co44)) (fun _ hk => hk.2) (.slice Ao45 t440.length co45)) (fun _ h_ => h_.1))))); (case side6 => exact (Kd.R_reads' HO442.out).2.1); (case side7 => refine (Kd.R_reads' (e := 50) (base := w.heap.size) (ok := fun k_ => (((True ∧ some k_ ≠ (.slice Ao18 t404.length co18 : Value).ownBlock) ∧ some k_ ≠ (.slice Ao31 t424.length co31 : Value).ownBlock) ∧ some k_ ≠ (.slice Ao39 t434.length co39 : Value).ownBlock)) (n := t413.length) (c := co23) ?_).2.2; exact (rC (a := by exact (Kd.R_mono (Kd.R_far (p := ⟨gb444, 2, none⟩) (Kd.R_far (p := ⟨gb444, 1, none⟩) (Kd.R_far (p := ⟨gb444, 0, none⟩) (Kd.R_types HO415.out BK444.out (by decide)) (fun _ hk => hk.2) (.slice Ao39 t434.length co39)) (fun _ hk => hk.2) (.slice Ao44 t437.length co44)) (fun _ hk => hk.2) (.slice Ao45 t440.length co45)) (fun _ h_ => h_.1))))); (case side8 => exact (Kd.R_reads' HO415.out).2.1); (case side9 => refine (Kd.R_reads' (e := 3) (base := w.heap.size) (ok := fun k_ => ((((((some k_ ≠ (.slice Ao27 t419.length co27 : Value).ownBlock ∧ some k_ ≠ (.slice Ao19 t407.length co19 : Value).ownBlock) ∧ some k_ ≠ (.slice Ao20 t410.length co20 : Value).ownBlock) ∧ some k_ ≠ (.slice Ao35 t427.length co35 : Value).ownBlock) ∧ some k_ ≠ (.slice Ao36 t430.length co36 : Value).ownBlock) ∧ some k_ ≠ (.slice Ao44 t437.length co44 : Value).ownBlock) ∧ some k_ ≠ (.slice Ao45 t440.length co45 : Value).ownBlock)) (n := t416.length) (c := co26) ?_).2.2; exact (rC (a := by exact (Kd.R_mono (Kd.R_far (p := ⟨gb444, 2, none⟩) (Kd.R_far (p := ⟨gb444, 1, none⟩) (Kd.R_far (p := ⟨gb444, 0, none⟩) (Kd.R_types HO418.out BK444.out (by decide)) (fun _ hk => hk.2) (.slice Ao39 t434.length co39)) (fun _ hk => hk.2) (.slice Ao44 t437.length co44)) (fun _ hk => hk.2) (.slice Ao45 t440.length co45)) (fun _ h_ => h_.1))))); (case side10 => exact (Kd.R_reads' HO418.out).2.1); (case side11 => refine (Kd.R_reads' (e := 3) (base := w.heap.size) (ok := fun k_ => ((((((some k_ ≠ (.slice Ao26 t416.length co26 : Value).ownBlock ∧ some k_ ≠ (.slice Ao19 t407.length co19 : Value).ownBlock) ∧ some k_ ≠ (.slice Ao20 t410.length co20 : Value).ownBlock) ∧ some k_ ≠ (.slice Ao35 t427.length co35 : Value).ownBlock) ∧ some k_ ≠ (.slice Ao36 t430.length co36 : Value).ownBlock) ∧ some k_ ≠ (.slice Ao44 t437.length co44 : Value).ownBlock) ∧ some k_ ≠ (.slice Ao45 t440.length co45 : Value).ownBlock)) (n := t419.length) (c := co27) ?_).2.2; exact (rC (a := by exact (Kd.R_mono (Kd.R_far (p := ⟨gb444, 2, none⟩) (Kd.R_far (p := ⟨gb444, 1, none⟩) (Kd.R_far (p := ⟨gb444, 0, none⟩) (Kd.R_types HO421.out BK444.out (by decide)) (fun _ hk => hk.2) (.slice Ao39 t434.length co39)) (fun _ hk => hk.2) (.slice Ao44 t437.length co44)) (fun _ hk => hk.2) (.slice Ao45 t440.length co45)) (fun _ h_ => h_.1))))); (case side12 => exact (Kd.R_reads' HO421.out).2.1); rintro e w63 ⟨rfl, hb⟩; refine ⟨_, rfl, ?_⟩; have n0_ := Aside0.mk (Kd.R_below (rC (a := by exact (Kd.R_mono (Kd.R_far (p := ⟨gb444, 2, none⟩) (Kd.R_far (p := ⟨gb444, 1, none⟩) (Kd.R_far (p := ⟨gb444, 0, none⟩) (Kd.R_types HO406.out BK444.out (by decide)) (fun _ hk => hk.2) (.slice Ao39 t434.length co39)) (fun _ hk => hk.2) (.slice Ao44 t437.length co44)) (fun _ hk => hk.2) (.slice Ao45 t440.length co45)) (fun _ h_ => h_.1)))) hb); have n1_ := Aside0.mk (Kd.R_below (rC (a := by exact (Kd.R_mono (Kd.R_far (p := ⟨gb444, 2, none⟩) (Kd.R_far (p := ⟨gb444, 1, none⟩) (Kd.R_far (p := ⟨gb444, 0, none⟩) (Kd.R_types HO409.out BK444.out (by decide)) (fun _ hk => hk.2) (.slice Ao39 t434.length co39)) (fun _ hk => hk.2) (.slice Ao44 t437.length co44)) (fun _ hk => hk.2) (.slice Ao45 t440.length co45)) (fun _ h_ => h_.1)))) hb); have n2_ := Aside0.mk (Kd.R_below (rC (a := by exact (Kd.R_mono (Kd.R_far (p := ⟨gb444, 2, none⟩) (Kd.R_far (p := ⟨gb444, 1, none⟩) (Kd.R_far (p := ⟨gb444, 0, none⟩) (Kd.R_types HO412.out BK444.out (by decide)) (fun _ hk => hk.2) (.slice Ao39 t434.length co39)) (fun _ hk => hk.2) (.slice Ao44 t437.length co44)) (fun _ hk => hk.2) (.slice Ao45 t440.length co45)) (fun _ h_ => h_.1)))) hb); have n3_ := Aside0.mk (Kd.R_below (rC (a := by exact (Kd.R_mono (Kd.R_far (p := ⟨gb444, 2, none⟩) (Kd.R_far (p := ⟨gb444, 1, none⟩) (Kd.R_far (p := ⟨gb444, 0, none⟩) (Kd.R_types HO415.out BK444.out (by decide)) (fun _ hk => hk.2) (.slice Ao39 t434.length co39)) (fun _ hk => hk.2) (.slice Ao44 t437.length co44)) (fun _ hk => hk.2) (.slice Ao45 t440.length co45)) (fun _ h_ => h_.1)))) hb); have n4_ := Aside0.mk (Kd.R_below (rC (a := by exact (Kd.R_mono (Kd.R_far (p := ⟨gb444, 2, none⟩) (Kd.R_far (p := ⟨gb444, 1, none⟩) (Kd.R_far (p := ⟨gb444, 0, none⟩) (Kd.R_types HO418.out BK444.out (by decide)) (fun _ hk => hk.2) (.slice Ao39 t434.length co39)) (fun _ hk => hk.2) (.slice Ao44 t437.length co44)) (fun _ hk => hk.2) (.slice Ao45 t440.length co45)) (fun _ h_ => h_.1)))) hb); have n5_ := Aside0.mk (Kd.R_below (rC (a := by exact (Kd.R_mono (Kd.R_far (p := ⟨gb444, 2, none⟩) (Kd.R_far (p := ⟨gb444, 1, none⟩) (Kd.R_far (p := ⟨gb444, 0, none⟩) (Kd.R_types HO421.out BK444.out (by decide)) (fun _ hk => hk.2) (.slice Ao39 t434.length co39)) (fun _ hk => hk.2) (.slice Ao44 t437.length co44)) (fun _ hk => hk.2) (.slice Ao45 t440.length co45)) (fun _ h_ => h_.1)))) hb); have n6_ := Aside0.mk (Kd.R_below (rC (a := by exact (Kd.R_mono (Kd.R_far (p := ⟨gb444, 2, none⟩) (Kd.R_far (p := ⟨gb444, 1, none⟩) (Kd.R_far (p := ⟨gb444, 0, none⟩) (Kd.R_types HO426.out BK444.out (by decide)) (fun _ hk => hk.2) (.slice Ao39 t434.length co39)) (fun _ hk => hk.2) (.slice Ao44 t437.length co44)) (fun _ hk => hk.2) (.slice Ao45 t440.length co45)) (fun _ h_ => h_.1)))) hb); have n7_ := Aside0.mk (Kd.R_below (rC (a := by exact (Kd.R_mono (Kd.R_far (p := ⟨gb444, 2, none⟩) (Kd.R_far (p := ⟨gb444, 1, none⟩) (Kd.R_far (p := ⟨gb444, 0, none⟩) (Kd.R_types HO429.out BK444.out (by decide)) (fun _ hk => hk.2) (.slice Ao39 t434.length co39)) (fun _ hk => hk.2) (.slice Ao44 t437.length co44)) (fun _ hk => hk.2) (.slice Ao45 t440.length co45)) (fun _ h_ => h_.1)))) hb); have n8_ := Aside0.mk (Kd.R_below (rC (a := by exact (Kd.R_mono (Kd.R_far (p := ⟨gb444, 2, none⟩) (Kd.R_far (p := ⟨gb444, 1, none⟩) (Kd.R_far (p := ⟨gb444, 0, none⟩) (Kd.R_types HO432.out BK444.out (by decide)) (fun _ hk => hk.2) (.slice Ao39 t434.length co39)) (fun _ hk => hk.2) (.slice Ao44 t437.length co44)) (fun _ hk => hk.2) (.slice Ao45 t440.length co45)) (fun _ h_ => h_.1)))) hb); have n9_ := Aside0.mk (Kd.R_below (rC (a := by exact (Kd.R_mono (Kd.R_far (p := ⟨gb444, 2, none⟩) (Kd.R_far (p := ⟨gb444, 1, none⟩) (Kd.R_far (p := ⟨gb444, 0, none⟩) (Kd.R_types HO436.out BK444.out (by decide)) (fun _ hk => hk.2) (.slice Ao39 t434.length co39)) (fun _ hk => hk.2) (.slice Ao44 t437.length co44)) (fun _ hk => hk.2) (.slice Ao45 t440.length co45)) (fun _ h_ => h_.1)))) hb); have n10_ := Aside0.mk (Kd.R_below (rC (a := by exact (Kd.R_mono (Kd.R_far (p := ⟨gb444, 2, none⟩) (Kd.R_far (p := ⟨gb444, 1, none⟩) (Kd.R_far (p := ⟨gb444, 0, none⟩) (Kd.R_types HO439.out BK444.out (by decide)) (fun _ hk => hk.2) (.slice Ao39 t434.length co39)) (fun _ hk => hk.2) (.slice Ao44 t437.length co44)) (fun _ hk => hk.2) (.slice Ao45 t440.length co45)) (fun _ h_ => h_.1)))) hb); have n11_ := Aside0.mk (Kd.R_below (rC (a := by exact (Kd.R_mono (Kd.R_far (p := ⟨gb444, 2, none⟩) (Kd.R_far (p := ⟨gb444, 1, none⟩) (Kd.R_far (p := ⟨gb444, 0, none⟩) (Kd.R_types HO442.out BK444.out (by decide)) (fun _ hk => hk.2) (.slice Ao39 t434.length co39)) (fun _ hk => hk.2) (.slice Ao44 t437.length co44)) (fun _ hk => hk.2) (.slice Ao45 t440.length co45)) (fun _ h_ => h_.1)))) hb); have n12_ := Aside0.mk (blk_below (g := gb402) (o := .cells #[.slice A0_0 l0_0.length c0_0, .slice A0_1 l0_1.length c0_1, .slice A0_2 l0_2.length c0_2] 25 (0, 0)) (by refine bC (a := ?_); refine blk_far ?_ NB402_444.out _; refine bC (a := ?_); refine blk_far ?_ NB402_444.out _; refine bC (a := ?_); refine blk_far ?_ NB402_444.out _; refine bC (a := ?_); exact BK402.out) hb); have n13_ := Aside0.mk (blk_below (g := gb423) (o := .cells #[.slice Ao23 t413.length co23, .slice Ao26 t416.length co26, .slice Ao27 t419.length co27] 29 (0, 0)) (by refine bC (a := ?_); refine blk_far ?_ NB423_444.out _; refine bC (a := ?_); refine blk_far ?_ NB423_444.out _; refine bC (a := ?_); refine blk_far ?_ NB423_444.out _; refine bC (a := ?_); exact BK423.out) hb); have n14_ := Aside0.mk (blk_below (g := gb433) (o := .cells #[.slice Ao31 t424.length co31, .slice Ao35 t427.length co35, .slice Ao36 t430.length co36] 29 (0, 0)) (by refine bC (a := ?_); refine blk_far ?_ NB433_444.out _; refine bC (a := ?_); refine blk_far ?_ NB433_444.out _; refine bC (a := ?_); refine blk_far ?_ NB433_444.out _; refine bC (a := ?_); exact BK433.out) hb); have n15_ := Aside0.mk (blk_below (g := gb444) (o := .cells #[.slice Ao39 t434.length co39, .slice Ao44 t437.length co44, .slice Ao45 t440.length co45] 29 (0, 0)) (by refine bC (a := ?_); refine blk_put (cs := #[.slice Ao39 t434.length co39, .slice Ao44 t437.length co44, .slice none 0 0]) ?_ 2 _ rfl; refine bC (a := ?_); refine blk_put (cs := #[.slice Ao39 t434.length co39, .slice none 0 0, .slice none 0 0]) ?_ 1 _ rfl; refine bC (a := ?_); refine blk_put (cs := #[.slice none 0 0, .slice none 0 0, .slice none 0 0]) ?_ 0 _ rfl; refine bC (a := ?_); exact BK444.out) hb); have n16_ := Aside0.mk (below_step (hA HB.out) hb); clear HO406; clear HO409; clear HO412; clear HO415; clear HO418; clear HO421; clear HO426; clear HO429; clear HO432; clear HO436; clear HO439; clear HO442; clear BK402; clear BK423; clear BK433; clear BK444; clear HB; have HO406 := n0_; have HO409 := n1_; have HO412 := n2_; have HO415 := n3_; have HO418 := n4_; have HO421 := n5_; have HO426 := n6_; have HO429 := n7_; have HO432 := n8_; have HO436 := n9_; have HO439 := n10_; have HO442 := n11_; have BK402 := n12_; have BK423 := n13_; have BK433 := n14_; have BK444 := n15_; have HB := n16_; clear n0_ n1_ n2_ n3_ n4_ n5_ n6_ n7_ n8_ n9_ n10_ n11_ n12_ n13_ n14_ n15_ n16_; (try clear hb); (try clear hb2); (try clear hk); (try clear hi)))
    go_meet
    case rel => exact ⟨_, (true), rs, H', ⟨by first | omega | exact Nat.le_refl _⟩, ⟨by refine rC (a := ?_); exact Kd.R_mono HO415.out (fun _ hk => ⟨hk.1.2, hk.2⟩)⟩, ⟨by refine rC (a := ?_); exact Kd.R_mono HO418.out (fun _ hk => ⟨hk.1.1.1.1.1.1, ⟨hk.1.1.1.2, ⟨hk.1.1.2, ⟨hk.1.2, hk.2⟩⟩⟩⟩)⟩, ⟨by refine rC (a := ?_); exact Kd.R_mono HO421.out (fun _ hk => ⟨hk.1.1.1.1.1.1, ⟨hk.1.1.1.2, ⟨hk.1.1.2, ⟨hk.1.2, hk.2⟩⟩⟩⟩)⟩, ⟨by refine rC (a := ?_); exact Kd.R_mono HO426.out (fun _ hk => ⟨hk.1.2, hk.2⟩)⟩, ⟨by refine rC (a := ?_); exact Kd.R_mono HO429.out (fun _ hk => ⟨hk.1.1.1.2, ⟨hk.1.1.2, ⟨hk.1.1.1.1.1.1, ⟨hk.1.2, hk.2⟩⟩⟩⟩)⟩, ⟨by refine rC (a := ?_); exact Kd.R_mono HO432.out (fun _ hk => ⟨hk.1.1.1.2, ⟨hk.1.1.2, ⟨hk.1.1.1.1.1.1, ⟨hk.1.2, hk.2⟩⟩⟩⟩)⟩, ⟨by refine rC (a := ?_); exact Kd.R_mono HO436.out (fun _ hk => ⟨hk.1.2, hk.2⟩)⟩, ⟨by refine rC (a := ?_); exact Kd.R_mono HO439.out (fun _ hk => ⟨hk.1.1.1.2, ⟨hk.1.1.2, ⟨hk.1.2, ⟨hk.2, hk.1.1.1.1.1.1⟩⟩⟩⟩)⟩, ⟨by refine rC (a := ?_); exact Kd.R_mono HO442.out (fun _ hk => ⟨hk.1.1.1.2, ⟨hk.1.1.2, ⟨hk.1.2, ⟨hk.2, hk.1.1.1.1.1.1⟩⟩⟩⟩)⟩, ⟨by refine bC (a := ?_); exact BK402.out⟩, ⟨by refine bC (a := ?_); exact BK423.out⟩, ⟨by refine bC (a := ?_); exact BK433.out⟩, ⟨by refine bC (a := ?_); exact BK444.out⟩, ⟨hA HB.out⟩⟩
  case rest =>
   clear HC12
   (try clear c1); (try clear c2); (try clear p2); (try clear c3); (try clear c4); (try clear c4b0); (try clear c5); (try clear c6); (try clear c9); (try clear c11); (try clear c13); (try clear c24); (try clear c28); (try clear c29); (try clear c32); (try clear c33); (try clear c40); (try clear c41); (try clear c42); (try clear c47); (try clear c48); (try clear c49); (try clear c50); (try clear c52); (try clear c53); (try clear c56); (try clear c57); (try clear c58); (try clear c60); (try clear c61); (try clear hcz14_0); (try clear hcz14_1); (try clear hcz14_2); (try clear hcz16_0); (try clear hcz16_1); (try clear hcz16_2); (try clear hcz25_0); (try clear hcz25_1); (try clear hcz25_2); (try clear hcz28_0); (try clear hcz28_1); (try clear hcz28_2); (try clear hcz34_0); (try clear hcz34_1); (try clear hcz34_2); (try clear hcz43_0); (try clear hcz43_1); (try clear hcz43_2); (try clear hcz51_0); (try clear hcz51_1); (try clear hcz51_2); (try clear hcz54_0); (try clear hcz54_1); (try clear hcz54_2); (try clear hcz59_0); (try clear hcz59_1); (try clear hcz59_2); (try clear hcz62_0); (try clear hcz62_1); (try clear hcz62_2); (try clear hcz6_0); (try clear hcz6_1); (try clear hcz6_2); (try clear hfz14_0); (try clear hfz14_1); (try clear hfz14_2); (try clear hfz16_0); (try clear hfz16_1); (try clear hfz16_2); (try clear hfz25_0); (try clear hfz25_1); (try clear hfz25_2); (try clear hfz28_0); (try clear hfz28_1); (try clear hfz28_2); (try clear hfz34_0); (try clear hfz34_1); (try clear hfz34_2); (try clear hfz43_0); (try clear hfz43_1); (try clear hfz43_2); (try clear hfz51_0); (try clear hfz51_1); (try clear hfz51_2); (try clear hfz54_0); (try clear hfz54_1); (try clear hfz54_2); (try clear hfz59_0); (try clear hfz59_1); (try clear hfz59_2); (try clear hfz62_0); (try clear hfz62_1); (try clear hfz62_2); (try clear hfz6_0); (try clear hfz6_1); (try clear hfz6_2)
   obtain ⟨kq, x44_11, rfl, HA, HJ11, HO_424000, HO_424001, HO_424002, HO_434000, HO_434001, HO_434002, HO_445000, HO_445001, HO_445002, BK402, BK423, BK433, BK444, HB⟩ := hcut
   cases kq with
   | zero => exact absurd HA.out (by simp [laws_FnExactRestart.j0])
   | succ kj11 =>
    have H := HA.out
    clear HA
    simp only [laws_FnExactRestart.j0] at H
    by_cases c64 : x44_11 = true
    ·subst c64
     have H1 : (some false) = some r := by rw [if_pos rfl] at H; exact H
     clear H
     have H := H1
     clear H1
     obtain rfl := Option.some.inj H
     go_wp2
     go_ret
     exact ⟨er, hA HB.out⟩
    ·replace c64 := Bool.eq_false_iff.mpr c64
     subst c64
     have H1 : ((laws_toBook.f kj11 l0_0 l0_1 l0_2).bind fun bt446 => ((laws_eqBook.f kj11 t424 t427 t430 bt446.1 bt446.2.1 bt446.2.2).bind fun t455 => (if t455 = true then ((laws_markBook.f kj11 t424 t427 t430 1).bind fun bt456 => (if bt456.1 < 0 then (laws_FnExactRestart.j1 kj11 a1 t422 true l0_0 l0_1 l0_2 t413 t416 t419 t434 t437 t440) else ((laws_eqBook.f kj11 t434 t437 t440 t413 t416 t419).bind fun t460 => (if t460 = true then (laws_FnExactRestart.j1 kj11 a1 t422 (t443 != t422) l0_0 l0_1 l0_2 t413 t416 t419 t434 t437 t440) else (laws_FnExactRestart.j1 kj11 a1 t422 true l0_0 l0_1 l0_2 t413 t416 t419 t434 t437 t440))))) else (some false)))) = some r := by rw [if_neg (show ¬ (false = true) by decide)] at H; exact H
     clear H
     have H := H1
     clear H1
     replace H := Option.bind_eq_some_iff.mp H
     obtain ⟨⟨t446, t449, t452⟩, A650, H⟩ := H
     replace H : ((laws_eqBook.f kj11 t424 t427 t430 t446 t449 t452).bind fun t455 => (if t455 = true then ((laws_markBook.f kj11 t424 t427 t430 1).bind fun bt456 => (if bt456.1 < 0 then (laws_FnExactRestart.j1 kj11 a1 t422 true l0_0 l0_1 l0_2 t413 t416 t419 t434 t437 t440) else ((laws_eqBook.f kj11 t434 t437 t440 t413 t416 t419).bind fun t460 => (if t460 = true then (laws_FnExactRestart.j1 kj11 a1 t422 (t443 != t422) l0_0 l0_1 l0_2 t413 t416 t419 t434 t437 t440) else (laws_FnExactRestart.j1 kj11 a1 t422 true l0_0 l0_1 l0_2 t413 t416 t419 t434 t437 t440))))) else (some false))) = some r := H
     have A65 := Aside0.mk A650
     clear A650
     replace H := Option.bind_eq_some_iff.mp H
     obtain ⟨t455, A660, H⟩ := H
     replace H : (if t455 = true then ((laws_markBook.f kj11 t424 t427 t430 1).bind fun bt456 => (if bt456.1 < 0 then (laws_FnExactRestart.j1 kj11 a1 t422 true l0_0 l0_1 l0_2 t413 t416 t419 t434 t437 t440) else ((laws_eqBook.f kj11 t434 t437 t440 t413 t416 t419).bind fun t460 => (if t460 = true then (laws_FnExactRestart.j1 kj11 a1 t422 (t443 != t422) l0_0 l0_1 l0_2 t413 t416 t419 t434 t437 t440) else (laws_FnExactRestart.j1 kj11 a1 t422 true l0_0 l0_1 l0_2 t413 t416 t419 t434 t437 t440))))) else (some false)) = some r := H
     have A66 := Aside0.mk A660
     clear A660
     by_cases c67 : t455 = true
     ·subst c67
      have H1 : ((laws_markBook.f kj11 t424 t427 t430 1).bind fun bt456 => (if bt456.1 < 0 then (laws_FnExactRestart.j1 kj11 a1 t422 true l0_0 l0_1 l0_2 t413 t416 t419 t434 t437 t440) else ((laws_eqBook.f kj11 t434 t437 t440 t413 t416 t419).bind fun t460 => (if t460 = true then (laws_FnExactRestart.j1 kj11 a1 t422 (t443 != t422) l0_0 l0_1 l0_2 t413 t416 t419 t434 t437 t440) else (laws_FnExactRestart.j1 kj11 a1 t422 true l0_0 l0_1 l0_2 t413 t416 t419 t434 t437 t440))))) = some r := by rw [if_pos rfl] at H; exact H
      clear H
      have H := H1
      clear H1
      replace H := Option.bind_eq_some_iff.mp H
      obtain ⟨⟨t456, t457, t458, t459⟩, A680, H⟩ := H
      replace H : (if t456 < 0 then (laws_FnExactRestart.j1 kj11 a1 t422 true l0_0 l0_1 l0_2 t413 t416 t419 t434 t437 t440) else ((laws_eqBook.f kj11 t434 t437 t440 t413 t416 t419).bind fun t460 => (if t460 = true then (laws_FnExactRestart.j1 kj11 a1 t422 (t443 != t422) l0_0 l0_1 l0_2 t413 t416 t419 t434 t437 t440) else (laws_FnExactRestart.j1 kj11 a1 t422 true l0_0 l0_1 l0_2 t413 t416 t419 t434 t437 t440)))) = some r := H
      have A68 := Aside0.mk A680
      clear A680
      have HC69 := Aside0.mk H
      clear H
      try go_wp2
      have n0_ := Aside0.mk (Kd.R_drew HO_424000.out)
      have n1_ := Aside0.mk (Kd.R_drew HO_424001.out)
      have n2_ := Aside0.mk (Kd.R_drew HO_424002.out)
      have n3_ := Aside0.mk (Kd.R_drew HO_434000.out)
      have n4_ := Aside0.mk (Kd.R_drew HO_434001.out)
      have n5_ := Aside0.mk (Kd.R_drew HO_434002.out)
      have n6_ := Aside0.mk (Kd.R_drew HO_445000.out)
      have n7_ := Aside0.mk (Kd.R_drew HO_445001.out)
      have n8_ := Aside0.mk (Kd.R_drew HO_445002.out)
      have n9_ := Aside0.mk (blk_drew BK402.out)
      have n10_ := Aside0.mk (blk_drew BK423.out)
      have n11_ := Aside0.mk (blk_drew BK433.out)
      have n12_ := Aside0.mk (blk_drew BK444.out)
      have n13_ := Aside0.mk (below_drew1 HB.out)
      clear HO_424000
      clear HO_424001
      clear HO_424002
      clear HO_434000
      clear HO_434001
      clear HO_434002
      clear HO_445000
      clear HO_445001
      clear HO_445002
      clear BK402
      clear BK423
      clear BK433
      clear BK444
      clear HB
      have HO_424000 := n0_
      have HO_424001 := n1_
      have HO_424002 := n2_
      have HO_434000 := n3_
      have HO_434001 := n4_
      have HO_434002 := n5_
      have HO_445000 := n6_
      have HO_445001 := n7_
      have HO_445002 := n8_
      have BK402 := n9_
      have BK423 := n10_
      have BK433 := n11_
      have BK444 := n12_
      have HB := n13_
      clear n0_ n1_ n2_ n3_ n4_ n5_ n6_ n7_ n8_ n9_ n10_ n11_ n12_ n13_
      refine start_ (n := 5) (S := fun w' => w'.cell? ⟨gb433, 0, none⟩ = some (.slice Ao31 t424.length co31) ∧ w'.cell? ⟨gb433, 1, none⟩ = some (.slice Ao35 t427.length co35) ∧ w'.cell? ⟨gb433, 2, none⟩ = some (.slice Ao36 t430.length co36) ∧ w'.cell? ⟨gb402, 0, none⟩ = some (.slice A0_0 l0_0.length c0_0) ∧ w'.cell? ⟨gb402, 1, none⟩ = some (.slice A0_1 l0_1.length c0_1) ∧ w'.cell? ⟨gb402, 2, none⟩ = some (.slice A0_2 l0_2.length c0_2)) (ds := []) #[false, false, false, false, false] (by kernel_rfl) rfl rfl ⟨(blk_cell BK433.out 0).trans rfl, (blk_cell BK433.out 1).trans rfl, (blk_cell BK433.out 2).trans rfl, (blk_cell BK402.out 0).trans rfl, (blk_cell BK402.out 1).trans rfl, (blk_cell BK402.out 2).trans rfl⟩ (fun hHeld => ?_)
      generalize wc.drew = w70 at HO_424000 HO_424001 HO_424002 HO_434000 HO_434001 HO_434002 HO_445000 HO_445001 HO_445002 BK402 BK423 BK433 BK444 HB hHeld ⊢
      refine take_ (i := 0) (N := some 45) (v := ?_) (a' := ?_) #[true, false, false, false, false] rfl rfl (by kernel_rfl) (fun _ _ _ h => h) (Or.inl ⟨by rfl, ?_⟩) hHeld ?_ ?_
      rotate_left
      ·rintro w' ⟨s0, s1, s2, s3, s4, s5⟩
       go_simp
       with_reducible rfl
      rotate_left
      ·simp only [Act.put, List.setIfInBounds_toArray, List.set_cons_zero, List.set_cons_succ, i64_w, i32_w]
       rfl
      refine take_ (i := 1) (N := some 46) (v := ?_) (a' := ?_) #[true, true, false, false, false] rfl rfl (by kernel_rfl) (fun _ _ _ h => h) (Or.inl ⟨by rfl, ?_⟩) hHeld ?_ ?_
      rotate_left
      ·rintro w' ⟨s0, s1, s2, s3, s4, s5⟩
       go_simp
       with_reducible rfl
      rotate_left
      ·simp only [Act.put, List.setIfInBounds_toArray, List.set_cons_zero, List.set_cons_succ, i64_w, i32_w]
       rfl
      refine one_ (i := 2) (N := some 47) #[true, true, true, false, false] rfl rfl (by kernel_rfl) (by decide) (fun K hK => ?_)
      refine goes_ Try.func11 (by kernel_rfl) rfl #[.agg #[.slice A0_0 l0_0.length c0_0, .slice A0_1 l0_1.length c0_1, .slice A0_2 l0_2.length c0_2]] (by rfl) rfl rfl ar ?_
      with_reducible refine (laws_toBook.calls kj11 _ _ l0_0 _ _ l0_1 _ _ l0_2 t446 t449 t452 _ ?side1 ?side2 ?side3 ?side4 ?side5 ?side6 A65.out).mono ?_
      (case side1 => exact cA (Kd.C_below HR0_0.out HB.out))
      (case side2 => exact HC0_0.out)
      (case side3 => exact cA (Kd.C_below HR0_1.out HB.out))
      (case side4 => exact HC0_1.out)
      (case side5 => exact cA (Kd.C_below HR0_2.out HB.out))
      (case side6 => exact HC0_2.out)
      rintro e w71 ⟨v447, v450, v453, rfl, ho0, ho1, ho2, hb⟩
      refine ⟨_, rfl, ?_⟩
      have n0_ := Aside0.mk (Kd.R_elder' (rA HO_424000.out) (Kd.R_base ho0) hb)
      have n1_ := Aside0.mk (Kd.R_mono (Kd.R_told (Kd.R_told (Kd.R_old (rA HO_424001.out) hb) (Kd.R_base ho1)) (Kd.R_base ho2)) (fun _ h_ => h_.1))
      have n2_ := Aside0.mk (Kd.R_mono (Kd.R_told (Kd.R_told (Kd.R_old (rA HO_424002.out) hb) (Kd.R_base ho1)) (Kd.R_base ho2)) (fun _ h_ => h_.1))
      have n3_ := Aside0.mk (Kd.R_elder' (rA HO_434000.out) (Kd.R_base ho0) hb)
      have n4_ := Aside0.mk (Kd.R_mono (Kd.R_told (Kd.R_told (Kd.R_old (rA HO_434001.out) hb) (Kd.R_base ho1)) (Kd.R_base ho2)) (fun _ h_ => h_.1))
      have n5_ := Aside0.mk (Kd.R_mono (Kd.R_told (Kd.R_told (Kd.R_old (rA HO_434002.out) hb) (Kd.R_base ho1)) (Kd.R_base ho2)) (fun _ h_ => h_.1))
      have n6_ := Aside0.mk (Kd.R_elder' (rA HO_445000.out) (Kd.R_base ho0) hb)
      have n7_ := Aside0.mk (Kd.R_mono (Kd.R_told (Kd.R_told (Kd.R_old (rA HO_445001.out) hb) (Kd.R_base ho1)) (Kd.R_base ho2)) (fun _ h_ => h_.1))
      have n8_ := Aside0.mk (Kd.R_mono (Kd.R_told (Kd.R_told (Kd.R_old (rA HO_445002.out) hb) (Kd.R_base ho1)) (Kd.R_base ho2)) (fun _ h_ => h_.1))
      have n9_ := Aside0.mk (Kd.R_lower (Kd.R_new' (Kd.R_new' (Kd.R_new' ho0 (Kd.R_lt (rA HO_424000.out))) (Kd.R_lt (rA HO_434000.out))) (Kd.R_lt (rA HO_445000.out))) (below_size (hA HB.out)))
      have n10_ := Aside0.mk (Kd.R_lower (Kd.R_new' (Kd.R_new' (Kd.R_new' (Kd.R_new' (Kd.R_new' (Kd.R_new' ho1 (Kd.R_lt (rA HO_424001.out))) (Kd.R_lt (rA HO_424002.out))) (Kd.R_lt (rA HO_434001.out))) (Kd.R_lt (rA HO_434002.out))) (Kd.R_lt (rA HO_445001.out))) (Kd.R_lt (rA HO_445002.out))) (below_size (hA HB.out)))
      have n11_ := Aside0.mk (Kd.R_lower (Kd.R_new' (Kd.R_new' (Kd.R_new' (Kd.R_new' (Kd.R_new' (Kd.R_new' ho2 (Kd.R_lt (rA HO_424001.out))) (Kd.R_lt (rA HO_424002.out))) (Kd.R_lt (rA HO_434001.out))) (Kd.R_lt (rA HO_434002.out))) (Kd.R_lt (rA HO_445001.out))) (Kd.R_lt (rA HO_445002.out))) (below_size (hA HB.out)))
      have n12_ := Aside0.mk (bB BK402.out hb)
      have n13_ := Aside0.mk (bB BK423.out hb)
      have n14_ := Aside0.mk (bB BK433.out hb)
      have n15_ := Aside0.mk (bB BK444.out hb)
      have n16_ := Aside0.mk (below_step (hA HB.out) hb)
      clear HO_424000
      clear HO_424001
      clear HO_424002
      clear HO_434000
      clear HO_434001
      clear HO_434002
      clear HO_445000
      clear HO_445001
      clear HO_445002
      clear BK402
      clear BK423
      clear BK433
      clear BK444
      clear HB
      have HO_424000 := n0_
      have HO_424001 := n1_
      have HO_424002 := n2_
      have HO_434000 := n3_
      have HO_434001 := n4_
      have HO_434002 := n5_
      have HO_445000 := n6_
      have HO_445001 := n7_
      have HO_445002 := n8_
      have HO448 := n9_
      have HO451 := n10_
      have HO454 := n11_
      have BK402 := n12_
      have BK423 := n13_
      have BK433 := n14_
      have BK444 := n15_
      have HB := n16_
      clear n0_ n1_ n2_ n3_ n4_ n5_ n6_ n7_ n8_ n9_ n10_ n11_ n12_ n13_ n14_ n15_ n16_
      (try clear hb); (try clear hb2); (try clear hk); (try clear hi); (try clear ho0); (try clear ho1); (try clear ho2)
      obtain ⟨Ao72, co72, eo72⟩ := Kd.R_slice HO448.out
      (first | subst eo72 | (injection eo72 with f1_ f2_ f3_; have f4_ := f1_.symm; have f5_ := f3_.symm; clear f1_ f2_ f3_; subst f4_; subst f5_))
      obtain ⟨Ao73, co73, eo73⟩ := Kd.R_slice HO451.out
      (first | subst eo73 | (injection eo73 with f1_ f2_ f3_; have f4_ := f1_.symm; have f5_ := f3_.symm; clear f1_ f2_ f3_; subst f4_; subst f5_))
      obtain ⟨Ao74, co74, eo74⟩ := Kd.R_slice HO454.out
      (first | subst eo74 | (injection eo74 with f1_ f2_ f3_; have f4_ := f1_.symm; have f5_ := f3_.symm; clear f1_ f2_ f3_; subst f4_; subst f5_))
      refine hK.out _ _ ⟨(blk_cell BK433.out 0).trans rfl, (blk_cell BK433.out 1).trans rfl, (blk_cell BK433.out 2).trans rfl, (blk_cell BK402.out 0).trans rfl, (blk_cell BK402.out 1).trans rfl, (blk_cell BK402.out 2).trans rfl⟩ (fun hHeld => ?_)
      clear hK K
      refine norm_ (a' := ?_) ?_ ?_
      rotate_left
      ·show Act.put _ (some 47) _ = _
       simp only [Act.put, List.setIfInBounds_toArray, List.set_cons_zero, List.set_cons_succ, i64_w, i32_w]
       rfl
      refine one_ (i := 3) (N := some 48) #[true, true, true, true, false] rfl rfl (by kernel_rfl) (by decide) (fun K hK => ?_)
      refine goes_ Try.func13 (by kernel_rfl) rfl #[.agg #[.slice Ao31 t424.length co31, .slice Ao35 t427.length co35, .slice Ao36 t430.length co36], .agg #[.slice Ao72 t446.length co72, .slice Ao73 t449.length co73, .slice Ao74 t452.length co74]] (by rfl) rfl rfl ar ?_
      with_reducible refine (laws_eqBook.calls kj11 _ _ t424 _ _ t427 _ _ t430 _ _ t446 _ _ t449 _ _ t452 true _ ?side1 ?side2 ?side3 ?side4 ?side5 ?side6 ?side7 ?side8 ?side9 ?side10 ?side11 ?side12 A66.out).mono ?_
      (case side1 => exact cA (Kd.R_reads' HO_434000.out).2.2)
      (case side2 => exact (Kd.R_reads' HO_434000.out).2.1)
      (case side3 => exact cA (Kd.R_reads' HO_434001.out).2.2)
      (case side4 => exact (Kd.R_reads' HO_434001.out).2.1)
      (case side5 => exact cA (Kd.R_reads' HO_434002.out).2.2)
      (case side6 => exact (Kd.R_reads' HO_434002.out).2.1)
      (case side7 => exact cA (Kd.R_reads' HO448.out).2.2)
      (case side8 => exact (Kd.R_reads' HO448.out).2.1)
      (case side9 => exact cA (Kd.R_reads' HO451.out).2.2)
      (case side10 => exact (Kd.R_reads' HO451.out).2.1)
      (case side11 => exact cA (Kd.R_reads' HO454.out).2.2)
      (case side12 => exact (Kd.R_reads' HO454.out).2.1)
      rintro e w75 ⟨rfl, hb⟩
      refine ⟨_, rfl, ?_⟩
      have n0_ := Aside0.mk (Kd.R_below (rA HO_424000.out) hb)
      have n1_ := Aside0.mk (Kd.R_below (rA HO_424001.out) hb)
      have n2_ := Aside0.mk (Kd.R_below (rA HO_424002.out) hb)
      have n3_ := Aside0.mk (Kd.R_below (rA HO_434000.out) hb)
      have n4_ := Aside0.mk (Kd.R_below (rA HO_434001.out) hb)
      have n5_ := Aside0.mk (Kd.R_below (rA HO_434002.out) hb)
      have n6_ := Aside0.mk (Kd.R_below (rA HO_445000.out) hb)
      have n7_ := Aside0.mk (Kd.R_below (rA HO_445001.out) hb)
      have n8_ := Aside0.mk (Kd.R_below (rA HO_445002.out) hb)
      have n9_ := Aside0.mk (Kd.R_below (rA HO448.out) hb)
      have n10_ := Aside0.mk (Kd.R_below (rA HO451.out) hb)
      have n11_ := Aside0.mk (Kd.R_below (rA HO454.out) hb)
      have n12_ := Aside0.mk (bB BK402.out hb)
      have n13_ := Aside0.mk (bB BK423.out hb)
      have n14_ := Aside0.mk (bB BK433.out hb)
      have n15_ := Aside0.mk (bB BK444.out hb)
      have n16_ := Aside0.mk (below_step (hA HB.out) hb)
      clear HO_424000
      clear HO_424001
      clear HO_424002
      clear HO_434000
      clear HO_434001
      clear HO_434002
      clear HO_445000
      clear HO_445001
      clear HO_445002
      clear HO448
      clear HO451
      clear HO454
      clear BK402
      clear BK423
      clear BK433
      clear BK444
      clear HB
      have HO_424000 := n0_
      have HO_424001 := n1_
      have HO_424002 := n2_
      have HO_434000 := n3_
      have HO_434001 := n4_
      have HO_434002 := n5_
      have HO_445000 := n6_
      have HO_445001 := n7_
      have HO_445002 := n8_
      have HO448 := n9_
      have HO451 := n10_
      have HO454 := n11_
      have BK402 := n12_
      have BK423 := n13_
      have BK433 := n14_
      have BK444 := n15_
      have HB := n16_
      clear n0_ n1_ n2_ n3_ n4_ n5_ n6_ n7_ n8_ n9_ n10_ n11_ n12_ n13_ n14_ n15_ n16_
      (try clear hb); (try clear hb2); (try clear hk); (try clear hi)
      refine hK.out _ _ ⟨(blk_cell BK433.out 0).trans rfl, (blk_cell BK433.out 1).trans rfl, (blk_cell BK433.out 2).trans rfl, (blk_cell BK402.out 0).trans rfl, (blk_cell BK402.out 1).trans rfl, (blk_cell BK402.out 2).trans rfl⟩ (fun hHeld => ?_)
      clear hK K
      refine norm_ (a' := ?_) ?_ ?_
      rotate_left
      ·show Act.put _ (some 48) _ = _
       simp only [Act.put, List.setIfInBounds_toArray, List.set_cons_zero, List.set_cons_succ, i64_w, i32_w]
       rfl
      refine pure_ (i := 4) (N := some 49) (v := ?_) (a' := ?_) #[true, true, true, true, true] rfl rfl (by kernel_rfl) (fun _ _ _ h => h) (Or.inl ⟨by rfl, ?_⟩) ?_ ?_
      rotate_left
      ·intro w'
       go_simp
       with_reducible rfl
      rotate_left
      ·simp only [Act.put, List.setIfInBounds_toArray, List.set_cons_zero, List.set_cons_succ, i64_w, i32_w]
       rfl
      refine done_ (by kernel_rfl) ?_
      have hnb76 := NB433_402.out
      have hnc76 := NB402_433.out
      have hnb77 := NB433_423.out
      have hnc77 := NB423_433.out
      have hnb78 := NB433_444.out
      have hnc78 := NB444_433.out
      have hcz79_0 : w75.cell? ⟨gb433, 0, none⟩ = some (.slice Ao31 t424.length co31) := (blk_cell BK433.out 0).trans rfl
      have hcz79_1 : w75.cell? ⟨gb433, 1, none⟩ = some (.slice Ao35 t427.length co35) := (blk_cell BK433.out 1).trans rfl
      have hcz79_2 : w75.cell? ⟨gb433, 2, none⟩ = some (.slice Ao36 t430.length co36) := (blk_cell BK433.out 2).trans rfl
      have hfz79_0 := blk_frozen BK433.out 0
      have hfz79_1 := blk_frozen BK433.out 1
      have hfz79_2 := blk_frozen BK433.out 2
      go_upto_region 14 with (first | ((with_reducible refine gate_callee (f := 15) rfl ?_); refine goesL_ (some 52) rfl rfl Try.func15 (by kernel_rfl) rfl #[.agg #[.slice Ao31 t424.length co31, .slice Ao35 t427.length co35, .slice Ao36 t430.length co36], .int .i64 1] rfl ar ?_; (with_reducible refine (laws_markBook.calls kj11 (fun k_ => some k_ = (.slice Ao31 t424.length co31 : Value).ownBlock) (.slice Ao31 t424.length co31) t424 (fun k_ => some k_ = (.slice Ao35 t427.length co35 : Value).ownBlock) (.slice Ao35 t427.length co35) t427 (fun k_ => some k_ = (.slice Ao36 t430.length co36 : Value).ownBlock) (.slice Ao36 t430.length co36) t430 1 t456 t457 t458 t459 w _ ?side1 ?side2 ?side3 ?side4 ?side5 ?side6 A68.out).mono ?_); (case side1 => repeat (first | (with_reducible first | exact HB.out | apply below_alloc | apply pw_below_drewN | apply below_drew1 | refine below_set ?_ GE402.out | refine below_set ?_ GE423.out | refine below_set ?_ GE433.out | refine below_set ?_ GE444.out) | exact HB.out)); (case side2 => exact Kd.R_tight rfl HO_434000.out); (case side3 => exact Kd.R_tight rfl HO_434001.out); (case side4 => exact fun k_ e_ => (HO_434001.out.1 k_ e_.symm).1.1.2.2.1); (case side5 => exact Kd.R_tight rfl HO_434002.out); (case side6 => exact fun k_ e_ => (HO_434002.out.1 k_ e_.symm).1.1.2.2.1); rintro e w80 ⟨rfl, hy0, hy1, hy2, hb, hkp⟩; refine ⟨_, rfl, ?_⟩; have n0_ := Aside0.mk (Kd.R_mono (ok' := fun k_ => some k_ ≠ (.slice Ao31 t424.length co31 : Value).ownBlock ∧ some k_ ≠ (.slice Ao39 t434.length co39 : Value).ownBlock ∧ some k_ ≠ (.slice Ao72 t446.length co72 : Value).ownBlock) (Kd.R_keptB ((Kd.R_apart' (Kd.R_apart' HO_424000.out (Kd.R_typed HO_434001.out) (by decide)) (Kd.R_typed HO_434002.out) (by decide))) hkp (fun k_ hk_ hs_ => Or.elim hs_ (fun e_ => (hk_.1.1.1.1) e_) (fun e_ => Or.elim e_ (fun e_ => (hk_.1.2) e_) (fun e_ => (hk_.2) e_)))) (fun k_ hk_ => ⟨hk_.1.1.1.1.1, hk_.1.1.1.1.2, hk_.1.1.1.2⟩)); have n1_ := Aside0.mk (Kd.R_mono (ok' := fun k_ => some k_ ≠ (.slice Ao27 t419.length co27 : Value).ownBlock ∧ some k_ ≠ (.slice Ao35 t427.length co35 : Value).ownBlock ∧ some k_ ≠ (.slice Ao36 t430.length co36 : Value).ownBlock ∧ some k_ ≠ (.slice Ao44 t437.length co44 : Value).ownBlock ∧ some k_ ≠ (.slice Ao45 t440.length co45 : Value).ownBlock ∧ some k_ ≠ (.slice Ao73 t449.length co73 : Value).ownBlock ∧ some k_ ≠ (.slice Ao74 t452.length co74 : Value).ownBlock) (Kd.R_keptB ((Kd.R_apart' HO_424001.out (Kd.R_typed HO_434000.out) (by decide))) hkp (fun k_ hk_ hs_ => Or.elim hs_ (fun e_ => (hk_.2) e_) (fun e_ => Or.elim e_ (fun e_ => (hk_.1.1.1.2.1) e_) (fun e_ => (hk_.1.1.1.2.2.1) e_)))) (fun k_ hk_ => ⟨hk_.1.1.1.1.1, hk_.1.1.1.1.2.1, hk_.1.1.1.1.2.2.1, hk_.1.1.1.1.2.2.2.1, hk_.1.1.1.1.2.2.2.2, hk_.1.1.1.2, hk_.1.1.2⟩)); have n2_ := Aside0.mk (Kd.R_mono (ok' := fun k_ => some k_ ≠ (.slice Ao26 t416.length co26 : Value).ownBlock ∧ some k_ ≠ (.slice Ao35 t427.length co35 : Value).ownBlock ∧ some k_ ≠ (.slice Ao36 t430.length co36 : Value).ownBlock ∧ some k_ ≠ (.slice Ao44 t437.length co44 : Value).ownBlock ∧ some k_ ≠ (.slice Ao45 t440.length co45 : Value).ownBlock ∧ some k_ ≠ (.slice Ao73 t449.length co73 : Value).ownBlock ∧ some k_ ≠ (.slice Ao74 t452.length co74 : Value).ownBlock) (Kd.R_keptB ((Kd.R_apart' HO_424002.out (Kd.R_typed HO_434000.out) (by decide))) hkp (fun k_ hk_ hs_ => Or.elim hs_ (fun e_ => (hk_.2) e_) (fun e_ => Or.elim e_ (fun e_ => (hk_.1.1.1.2.1) e_) (fun e_ => (hk_.1.1.1.2.2.1) e_)))) (fun k_ hk_ => ⟨hk_.1.1.1.1.1, hk_.1.1.1.1.2.1, hk_.1.1.1.1.2.2.1, hk_.1.1.1.1.2.2.2.1, hk_.1.1.1.1.2.2.2.2, hk_.1.1.1.2, hk_.1.1.2⟩)); have n3_ := Aside0.mk (Kd.R_reok rfl hy0 (fun k_ e_ => HO_434000.out.1 k_ e_)); have n4_ := Aside0.mk (Kd.R_reok rfl hy1 (fun k_ e_ => HO_434001.out.1 k_ e_)); have n5_ := Aside0.mk (Kd.R_reok rfl hy2 (fun k_ e_ => HO_434002.out.1 k_ e_)); have n6_ := Aside0.mk (Kd.R_mono (ok' := fun k_ => some k_ ≠ (.slice Ao23 t413.length co23 : Value).ownBlock ∧ some k_ ≠ (.slice Ao31 t424.length co31 : Value).ownBlock ∧ some k_ ≠ (.slice Ao72 t446.length co72 : Value).ownBlock) (Kd.R_keptB ((Kd.R_apart' (Kd.R_apart' HO_445000.out (Kd.R_typed HO_434001.out) (by decide)) (Kd.R_typed HO_434002.out) (by decide))) hkp (fun k_ hk_ hs_ => Or.elim hs_ (fun e_ => (hk_.1.1.1.2) e_) (fun e_ => Or.elim e_ (fun e_ => (hk_.1.2) e_) (fun e_ => (hk_.2) e_)))) (fun k_ hk_ => ⟨hk_.1.1.1.1.1, hk_.1.1.1.1.2, hk_.1.1.1.2⟩)); have n7_ := Aside0.mk (Kd.R_mono (ok' := fun k_ => some k_ ≠ (.slice Ao26 t416.length co26 : Value).ownBlock ∧ some k_ ≠ (.slice Ao27 t419.length co27 : Value).ownBlock ∧ some k_ ≠ (.slice Ao35 t427.length co35 : Value).ownBlock ∧ some k_ ≠ (.slice Ao36 t430.length co36 : Value).ownBlock ∧ some k_ ≠ (.slice Ao45 t440.length co45 : Value).ownBlock ∧ some k_ ≠ (.slice Ao73 t449.length co73 : Value).ownBlock ∧ some k_ ≠ (.slice Ao74 t452.length co74 : Value).ownBlock) (Kd.R_keptB ((Kd.R_apart' HO_445001.out (Kd.R_typed HO_434000.out) (by decide))) hkp (fun k_ hk_ hs_ => Or.elim hs_ (fun e_ => (hk_.2) e_) (fun e_ => Or.elim e_ (fun e_ => (hk_.1.1.1.2.2.1) e_) (fun e_ => (hk_.1.1.1.2.2.2.1) e_)))) (fun k_ hk_ => ⟨hk_.1.1.1.1.1, hk_.1.1.1.1.2.1, hk_.1.1.1.1.2.2.1, hk_.1.1.1.1.2.2.2.1, hk_.1.1.1.1.2.2.2.2, hk_.1.1.1.2, hk_.1.1.2⟩)); have n8_ := Aside0.mk (Kd.R_mono (ok' := fun k_ => some k_ ≠ (.slice Ao26 t416.length co26 : Value).ownBlock ∧ some k_ ≠ (.slice Ao27 t419.length co27 : Value).ownBlock ∧ some k_ ≠ (.slice Ao35 t427.length co35 : Value).ownBlock ∧ some k_ ≠ (.slice Ao36 t430.length co36 : Value).ownBlock ∧ some k_ ≠ (.slice Ao44 t437.length co44 : Value).ownBlock ∧ some k_ ≠ (.slice Ao73 t449.length co73 : Value).ownBlock ∧ some k_ ≠ (.slice Ao74 t452.length co74 : Value).ownBlock) (Kd.R_keptB ((Kd.R_apart' HO_445002.out (Kd.R_typed HO_434000.out) (by decide))) hkp (fun k_ hk_ hs_ => Or.elim hs_ (fun e_ => (hk_.2) e_) (fun e_ => Or.elim e_ (fun e_ => (hk_.1.1.1.2.2.1) e_) (fun e_ => (hk_.1.1.1.2.2.2.1) e_)))) (fun k_ hk_ => ⟨hk_.1.1.1.1.1, hk_.1.1.1.1.2.1, hk_.1.1.1.1.2.2.1, hk_.1.1.1.1.2.2.2.1, hk_.1.1.1.1.2.2.2.2, hk_.1.1.1.2, hk_.1.1.2⟩)); have n9_ := Aside0.mk (blk_kept (bA BK402.out) hkp (fun hs_ => Or.elim hs_ (fun e_ => (fun e_ => (Kd.R_ne HO_434000.out BK402.out (by decide)) e_) e_) (fun e_ => Or.elim e_ (fun e_ => (fun e_ => (Kd.R_ne HO_434001.out BK402.out (by decide)) e_) e_) (fun e_ => (fun e_ => (Kd.R_ne HO_434002.out BK402.out (by decide)) e_) e_)))); have n10_ := Aside0.mk (blk_kept (bA BK423.out) hkp (fun hs_ => Or.elim hs_ (fun e_ => (fun e_ => (Kd.R_ne HO_434000.out BK423.out (by decide)) e_) e_) (fun e_ => Or.elim e_ (fun e_ => (fun e_ => (Kd.R_ne HO_434001.out BK423.out (by decide)) e_) e_) (fun e_ => (fun e_ => (Kd.R_ne HO_434002.out BK423.out (by decide)) e_) e_)))); have n11_ := Aside0.mk (blk_kept (bA BK433.out) hkp (fun hs_ => Or.elim hs_ (fun e_ => (fun e_ => (Kd.R_ne HO_434000.out BK433.out (by decide)) e_) e_) (fun e_ => Or.elim e_ (fun e_ => (fun e_ => (Kd.R_ne HO_434001.out BK433.out (by decide)) e_) e_) (fun e_ => (fun e_ => (Kd.R_ne HO_434002.out BK433.out (by decide)) e_) e_)))); have n12_ := Aside0.mk (blk_kept (bA BK444.out) hkp (fun hs_ => Or.elim hs_ (fun e_ => (fun e_ => (Kd.R_ne HO_434000.out BK444.out (by decide)) e_) e_) (fun e_ => Or.elim e_ (fun e_ => (fun e_ => (Kd.R_ne HO_434001.out BK444.out (by decide)) e_) e_) (fun e_ => (fun e_ => (Kd.R_ne HO_434002.out BK444.out (by decide)) e_) e_)))); have n13_ := Aside0.mk (Kd.R_mono (ok' := fun k_ => some k_ ≠ (.slice Ao23 t413.length co23 : Value).ownBlock ∧ some k_ ≠ (.slice Ao31 t424.length co31 : Value).ownBlock ∧ some k_ ≠ (.slice Ao39 t434.length co39 : Value).ownBlock) (Kd.R_keptB ((Kd.R_apart' (Kd.R_apart' HO448.out (Kd.R_typed HO_434001.out) (by decide)) (Kd.R_typed HO_434002.out) (by decide))) hkp (fun k_ hk_ hs_ => Or.elim hs_ (fun e_ => (hk_.1.1.1.2) e_) (fun e_ => Or.elim e_ (fun e_ => (hk_.1.2) e_) (fun e_ => (hk_.2) e_)))) (fun k_ hk_ => ⟨hk_.1.1.1.1.1.2, hk_.1.1.1.1.2, hk_.1.1.1.2⟩)); have n14_ := Aside0.mk (Kd.R_mono (ok' := fun k_ => some k_ ≠ (.slice Ao26 t416.length co26 : Value).ownBlock ∧ some k_ ≠ (.slice Ao27 t419.length co27 : Value).ownBlock ∧ some k_ ≠ (.slice Ao35 t427.length co35 : Value).ownBlock ∧ some k_ ≠ (.slice Ao36 t430.length co36 : Value).ownBlock ∧ some k_ ≠ (.slice Ao44 t437.length co44 : Value).ownBlock ∧ some k_ ≠ (.slice Ao45 t440.length co45 : Value).ownBlock ∧ some k_ ≠ (.slice Ao74 t452.length co74 : Value).ownBlock) (Kd.R_keptB ((Kd.R_apart' HO451.out (Kd.R_typed HO_434000.out) (by decide))) hkp (fun k_ hk_ hs_ => Or.elim hs_ (fun e_ => (hk_.2) e_) (fun e_ => Or.elim e_ (fun e_ => (hk_.1.1.1.1.2) e_) (fun e_ => (hk_.1.1.1.2) e_)))) (fun k_ hk_ => ⟨hk_.1.1.1.1.1.1.1.2, hk_.1.1.1.1.1.1.2, hk_.1.1.1.1.1.2, hk_.1.1.1.1.2, hk_.1.1.1.2, hk_.1.1.2, hk_.1.1.1.1.1.1.1.1⟩)); have n15_ := Aside0.mk (Kd.R_mono (ok' := fun k_ => some k_ ≠ (.slice Ao26 t416.length co26 : Value).ownBlock ∧ some k_ ≠ (.slice Ao27 t419.length co27 : Value).ownBlock ∧ some k_ ≠ (.slice Ao35 t427.length co35 : Value).ownBlock ∧ some k_ ≠ (.slice Ao36 t430.length co36 : Value).ownBlock ∧ some k_ ≠ (.slice Ao44 t437.length co44 : Value).ownBlock ∧ some k_ ≠ (.slice Ao45 t440.length co45 : Value).ownBlock ∧ some k_ ≠ (.slice Ao73 t449.length co73 : Value).ownBlock) (Kd.R_keptB ((Kd.R_apart' HO454.out (Kd.R_typed HO_434000.out) (by decide))) hkp (fun k_ hk_ hs_ => Or.elim hs_ (fun e_ => (hk_.2) e_) (fun e_ => Or.elim e_ (fun e_ => (hk_.1.1.1.1.2) e_) (fun e_ => (hk_.1.1.1.2) e_)))) (fun k_ hk_ => ⟨hk_.1.1.1.1.1.1.1.2, hk_.1.1.1.1.1.1.2, hk_.1.1.1.1.1.2, hk_.1.1.1.1.2, hk_.1.1.1.2, hk_.1.1.2, hk_.1.1.1.1.1.1.1.1⟩)); have n16_ := Aside0.mk (hb); clear HO_424000; clear HO_424001; clear HO_424002; clear HO_434000; clear HO_434001; clear HO_434002; clear HO_445000; clear HO_445001; clear HO_445002; clear BK402; clear BK423; clear BK433; clear BK444; clear HO448; clear HO451; clear HO454; clear HB; have HO_424000 := n0_; have HO_424001 := n1_; have HO_424002 := n2_; have HO_434000 := n3_; have HO_434001 := n4_; have HO_434002 := n5_; have HO_445000 := n6_; have HO_445001 := n7_; have HO_445002 := n8_; have BK402 := n9_; have BK423 := n10_; have BK433 := n11_; have BK444 := n12_; have HO448 := n13_; have HO451 := n14_; have HO454 := n15_; have HB := n16_; clear n0_ n1_ n2_ n3_ n4_ n5_ n6_ n7_ n8_ n9_ n10_ n11_ n12_ n13_ n14_ n15_ n16_; (try clear hb); (try clear hkp); (try clear hy0); (try clear hy1); (try clear hy2)))
      (try simp only [Act.put, List.setIfInBounds_toArray, List.set_cons_zero, List.set_cons_succ])
      go_cut [65] (fun v65 wc => ∃ (kq : Nat) (x65_68 : Bool), v65 = .bool x65_68 ∧ Aside0 (laws_FnExactRestart.j1 kq a1 t422 x65_68 l0_0 l0_1 l0_2 t413 t416 t419 t434 t437 t440 = some r) ∧ Aside0 (kq ≤ kj11) ∧ Aside0 (Kd.R k50 50 wc w.heap.size (fun k_ => some k_ ≠ ((.slice Ao31 t424.length co31) : Value).ownBlock ∧ some k_ ≠ ((.slice Ao39 t434.length co39) : Value).ownBlock) (.slice Ao23 t413.length co23) t413) ∧ Aside0 (Kd.R (Kd.int .i64) 3 wc w.heap.size (fun k_ => some k_ ≠ ((.slice Ao27 t419.length co27) : Value).ownBlock ∧ some k_ ≠ ((.slice Ao35 t427.length co35) : Value).ownBlock ∧ some k_ ≠ ((.slice Ao36 t430.length co36) : Value).ownBlock ∧ some k_ ≠ ((.slice Ao44 t437.length co44) : Value).ownBlock ∧ some k_ ≠ ((.slice Ao45 t440.length co45) : Value).ownBlock) (.slice Ao26 t416.length co26) t416) ∧ Aside0 (Kd.R (Kd.int .i64) 3 wc w.heap.size (fun k_ => some k_ ≠ ((.slice Ao26 t416.length co26) : Value).ownBlock ∧ some k_ ≠ ((.slice Ao35 t427.length co35) : Value).ownBlock ∧ some k_ ≠ ((.slice Ao36 t430.length co36) : Value).ownBlock ∧ some k_ ≠ ((.slice Ao44 t437.length co44) : Value).ownBlock ∧ some k_ ≠ ((.slice Ao45 t440.length co45) : Value).ownBlock) (.slice Ao27 t419.length co27) t419) ∧ Aside0 (Kd.R k50 50 wc w.heap.size (fun k_ => some k_ ≠ ((.slice Ao23 t413.length co23) : Value).ownBlock ∧ some k_ ≠ ((.slice Ao39 t434.length co39) : Value).ownBlock) (.slice Ao31 t424.length co31) t457) ∧ Aside0 (Kd.R (Kd.int .i64) 3 wc w.heap.size (fun k_ => some k_ ≠ ((.slice Ao26 t416.length co26) : Value).ownBlock ∧ some k_ ≠ ((.slice Ao27 t419.length co27) : Value).ownBlock ∧ some k_ ≠ ((.slice Ao36 t430.length co36) : Value).ownBlock ∧ some k_ ≠ ((.slice Ao44 t437.length co44) : Value).ownBlock ∧ some k_ ≠ ((.slice Ao45 t440.length co45) : Value).ownBlock) (.slice Ao35 t427.length co35) t458) ∧ Aside0 (Kd.R (Kd.int .i64) 3 wc w.heap.size (fun k_ => some k_ ≠ ((.slice Ao26 t416.length co26) : Value).ownBlock ∧ some k_ ≠ ((.slice Ao27 t419.length co27) : Value).ownBlock ∧ some k_ ≠ ((.slice Ao35 t427.length co35) : Value).ownBlock ∧ some k_ ≠ ((.slice Ao44 t437.length co44) : Value).ownBlock ∧ some k_ ≠ ((.slice Ao45 t440.length co45) : Value).ownBlock) (.slice Ao36 t430.length co36) t459) ∧ Aside0 (Kd.R k50 50 wc w.heap.size (fun k_ => some k_ ≠ ((.slice Ao23 t413.length co23) : Value).ownBlock ∧ some k_ ≠ ((.slice Ao31 t424.length co31) : Value).ownBlock) (.slice Ao39 t434.length co39) t434) ∧ Aside0 (Kd.R (Kd.int .i64) 3 wc w.heap.size (fun k_ => some k_ ≠ ((.slice Ao26 t416.length co26) : Value).ownBlock ∧ some k_ ≠ ((.slice Ao27 t419.length co27) : Value).ownBlock ∧ some k_ ≠ ((.slice Ao35 t427.length co35) : Value).ownBlock ∧ some k_ ≠ ((.slice Ao36 t430.length co36) : Value).ownBlock ∧ some k_ ≠ ((.slice Ao45 t440.length co45) : Value).ownBlock) (.slice Ao44 t437.length co44) t437) ∧ Aside0 (Kd.R (Kd.int .i64) 3 wc w.heap.size (fun k_ => some k_ ≠ ((.slice Ao26 t416.length co26) : Value).ownBlock ∧ some k_ ≠ ((.slice Ao27 t419.length co27) : Value).ownBlock ∧ some k_ ≠ ((.slice Ao35 t427.length co35) : Value).ownBlock ∧ some k_ ≠ ((.slice Ao36 t430.length co36) : Value).ownBlock ∧ some k_ ≠ ((.slice Ao44 t437.length co44) : Value).ownBlock) (.slice Ao45 t440.length co45) t440) ∧ Aside0 (wc.heap[gb402]? = some (.cells #[(.slice A0_0 l0_0.length c0_0), (.slice A0_1 l0_1.length c0_1), (.slice A0_2 l0_2.length c0_2)] 25 (0, 0))) ∧ Aside0 (wc.heap[gb423]? = some (.cells #[(.slice Ao23 t413.length co23), (.slice Ao26 t416.length co26), (.slice Ao27 t419.length co27)] 29 (0, 0))) ∧ Aside0 (wc.heap[gb433]? = some (.cells #[(.slice Ao31 t424.length co31), (.slice Ao35 t427.length co35), (.slice Ao36 t430.length co36)] 29 (0, 0))) ∧ Aside0 (wc.heap[gb444]? = some (.cells #[(.slice Ao39 t434.length co39), (.slice Ao44 t437.length co44), (.slice Ao45 t440.length co45)] 29 (0, 0))) ∧ Aside0 (Below w.heap.size w wc))
      case first =>
       have H := HC69.out
       clear HC69
       by_cases c81 : t456 < 0
       ·rw [if_pos c81] at H
        have c81b0 : decide (t456 < 0) = true := decide_eq_true c81
        clear c81
        (first | rw [c81b0] | (simp only [i64_w, i32_w]; rw [c81b0]) | skip)
        have H' := Aside0.mk H
        clear H
        go_wp2
        go_meet
        case rel => exact ⟨_, (true), rs, H', ⟨by have := HJ11.out; first | omega | exact Nat.le_refl _⟩, ⟨by refine rC (a := ?_); exact Kd.R_mono HO_424000.out (fun _ hk => ⟨hk.1, hk.2.1⟩)⟩, ⟨by refine rC (a := ?_); exact Kd.R_mono HO_424001.out (fun _ hk => ⟨hk.1, ⟨hk.2.1, ⟨hk.2.2.1, ⟨hk.2.2.2.1, hk.2.2.2.2.1⟩⟩⟩⟩)⟩, ⟨by refine rC (a := ?_); exact Kd.R_mono HO_424002.out (fun _ hk => ⟨hk.1, ⟨hk.2.1, ⟨hk.2.2.1, ⟨hk.2.2.2.1, hk.2.2.2.2.1⟩⟩⟩⟩)⟩, ⟨by refine rC (a := ?_); exact Kd.R_mono HO_434000.out (fun _ hk => ⟨hk.1.1, hk.1.2⟩)⟩, ⟨by refine rC (a := ?_); exact Kd.R_mono HO_434001.out (fun _ hk => ⟨hk.1.1.1, ⟨hk.1.1.2.1, ⟨hk.1.1.2.2.1, ⟨hk.1.1.2.2.2.1, hk.1.1.2.2.2.2⟩⟩⟩⟩)⟩, ⟨by refine rC (a := ?_); exact Kd.R_mono HO_434002.out (fun _ hk => ⟨hk.1.1.1, ⟨hk.1.1.2.1, ⟨hk.1.1.2.2.1, ⟨hk.1.1.2.2.2.1, hk.1.1.2.2.2.2⟩⟩⟩⟩)⟩, ⟨by refine rC (a := ?_); exact Kd.R_mono HO_445000.out (fun _ hk => ⟨hk.1, hk.2.1⟩)⟩, ⟨by refine rC (a := ?_); exact Kd.R_mono HO_445001.out (fun _ hk => ⟨hk.1, ⟨hk.2.1, ⟨hk.2.2.1, ⟨hk.2.2.2.1, hk.2.2.2.2.1⟩⟩⟩⟩)⟩, ⟨by refine rC (a := ?_); exact Kd.R_mono HO_445002.out (fun _ hk => ⟨hk.1, ⟨hk.2.1, ⟨hk.2.2.1, ⟨hk.2.2.2.1, hk.2.2.2.2.1⟩⟩⟩⟩)⟩, ⟨by refine bC (a := ?_); exact BK402.out⟩, ⟨by refine bC (a := ?_); exact BK423.out⟩, ⟨by refine bC (a := ?_); exact BK433.out⟩, ⟨by refine bC (a := ?_); exact BK444.out⟩, ⟨hA HB.out⟩⟩
       ·rw [if_neg c81] at H
        have c81b0 : decide (t456 < 0) = false := decide_eq_false c81
        clear c81
        (first | rw [c81b0] | (simp only [i64_w, i32_w]; rw [c81b0]) | skip)
        replace H := Option.bind_eq_some_iff.mp H
        obtain ⟨t460, A820, H⟩ := H
        replace H : (if t460 = true then (laws_FnExactRestart.j1 kj11 a1 t422 (t443 != t422) l0_0 l0_1 l0_2 t413 t416 t419 t434 t437 t440) else (laws_FnExactRestart.j1 kj11 a1 t422 true l0_0 l0_1 l0_2 t413 t416 t419 t434 t437 t440)) = some r := H
        have A82 := Aside0.mk A820
        clear A820
        by_cases c83 : t460 = true
        ·subst c83
         have H1 : (laws_FnExactRestart.j1 kj11 a1 t422 (t443 != t422) l0_0 l0_1 l0_2 t413 t416 t419 t434 t437 t440) = some r := by rw [if_pos rfl] at H; exact H
         clear H
         have H := H1
         clear H1
         have H' := Aside0.mk H
         clear H
         have hnb84 := NB444_402.out
         have hnc84 := NB402_444.out
         have hnb85 := NB444_423.out
         have hnc85 := NB423_444.out
         have hnb86 := NB444_433.out
         have hnc86 := NB433_444.out
         have hcz87_0 : w80.cell? ⟨gb444, 0, none⟩ = some (.slice Ao39 t434.length co39) := (blk_cell BK444.out 0).trans rfl
         have hcz87_1 : w80.cell? ⟨gb444, 1, none⟩ = some (.slice Ao44 t437.length co44) := (blk_cell BK444.out 1).trans rfl
         have hcz87_2 : w80.cell? ⟨gb444, 2, none⟩ = some (.slice Ao45 t440.length co45) := (blk_cell BK444.out 2).trans rfl
         have hfz87_0 := blk_frozen BK444.out 0
         have hfz87_1 := blk_frozen BK444.out 1
         have hfz87_2 := blk_frozen BK444.out 2
         have hnb88 := NB423_402.out
         have hnc88 := NB402_423.out
         have hnb89 := NB423_433.out
         have hnc89 := NB433_423.out
         have hcz90_0 : w80.cell? ⟨gb423, 0, none⟩ = some (.slice Ao23 t413.length co23) := (blk_cell BK423.out 0).trans rfl
         have hcz90_1 : w80.cell? ⟨gb423, 1, none⟩ = some (.slice Ao26 t416.length co26) := (blk_cell BK423.out 1).trans rfl
         have hcz90_2 : w80.cell? ⟨gb423, 2, none⟩ = some (.slice Ao27 t419.length co27) := (blk_cell BK423.out 2).trans rfl
         have hfz90_0 := blk_frozen BK423.out 0
         have hfz90_1 := blk_frozen BK423.out 1
         have hfz90_2 := blk_frozen BK423.out 2
         go_wp2_with (first | (go_at_call 13; (with_reducible refine (laws_eqBook.calls kj11 _ _ t434 _ _ t437 _ _ t440 _ _ t413 _ _ t416 _ _ t419 true _ ?side1 ?side2 ?side3 ?side4 ?side5 ?side6 ?side7 ?side8 ?side9 ?side10 ?side11 ?side12 A82.out).mono ?_); (case side1 => exact cA (Kd.R_reads' HO_445000.out).2.2); (case side2 => exact (Kd.R_reads' HO_445000.out).2.1); (case side3 => exact cA (Kd.R_reads' HO_445001.out).2.2); (case side4 => exact (Kd.R_reads' HO_445001.out).2.1); (case side5 => exact cA (Kd.R_reads' HO_445002.out).2.2); (case side6 => exact (Kd.R_reads' HO_445002.out).2.1); (case side7 => exact cA (Kd.R_reads' HO_424000.out).2.2); (case side8 => exact (Kd.R_reads' HO_424000.out).2.1); (case side9 => exact cA (Kd.R_reads' HO_424001.out).2.2); (case side10 => exact (Kd.R_reads' HO_424001.out).2.1); (case side11 => exact cA (Kd.R_reads' HO_424002.out).2.2); (case side12 => exact (Kd.R_reads' HO_424002.out).2.1); rintro e w91 ⟨rfl, hb⟩; have n0_ := Aside0.mk (Kd.R_below (rA HO_424000.out) hb); have n1_ := Aside0.mk (Kd.R_below (rA HO_424001.out) hb); have n2_ := Aside0.mk (Kd.R_below (rA HO_424002.out) hb); have n3_ := Aside0.mk (Kd.R_below (rA HO_434000.out) hb); have n4_ := Aside0.mk (Kd.R_below (rA HO_434001.out) hb); have n5_ := Aside0.mk (Kd.R_below (rA HO_434002.out) hb); have n6_ := Aside0.mk (Kd.R_below (rA HO_445000.out) hb); have n7_ := Aside0.mk (Kd.R_below (rA HO_445001.out) hb); have n8_ := Aside0.mk (Kd.R_below (rA HO_445002.out) hb); have n9_ := Aside0.mk (Kd.R_below (rA HO448.out) hb); have n10_ := Aside0.mk (Kd.R_below (rA HO451.out) hb); have n11_ := Aside0.mk (Kd.R_below (rA HO454.out) hb); have n12_ := Aside0.mk (bB BK402.out hb); have n13_ := Aside0.mk (bB BK423.out hb); have n14_ := Aside0.mk (bB BK433.out hb); have n15_ := Aside0.mk (bB BK444.out hb); have n16_ := Aside0.mk (below_step (hA HB.out) hb); clear HO_424000; clear HO_424001; clear HO_424002; clear HO_434000; clear HO_434001; clear HO_434002; clear HO_445000; clear HO_445001; clear HO_445002; clear HO448; clear HO451; clear HO454; clear BK402; clear BK423; clear BK433; clear BK444; clear HB; have HO_424000 := n0_; have HO_424001 := n1_; have HO_424002 := n2_; have HO_434000 := n3_; have HO_434001 := n4_; have HO_434002 := n5_; have HO_445000 := n6_; have HO_445001 := n7_; have HO_445002 := n8_; have HO448 := n9_; have HO451 := n10_; have HO454 := n11_; have BK402 := n12_; have BK423 := n13_; have BK433 := n14_; have BK444 := n15_; have HB := n16_; clear n0_ n1_ n2_ n3_ n4_ n5_ n6_ n7_ n8_ n9_ n10_ n11_ n12_ n13_ n14_ n15_ n16_; (try clear hb); (try clear hb2); (try clear hk); (try clear hi)))
         go_meet
         case rel => exact ⟨_, ((t443 != t422)), rs, H', ⟨by have := HJ11.out; first | omega | exact Nat.le_refl _⟩, ⟨by refine rC (a := ?_); exact Kd.R_mono HO_424000.out (fun _ hk => ⟨hk.1, hk.2.1⟩)⟩, ⟨by refine rC (a := ?_); exact Kd.R_mono HO_424001.out (fun _ hk => ⟨hk.1, ⟨hk.2.1, ⟨hk.2.2.1, ⟨hk.2.2.2.1, hk.2.2.2.2.1⟩⟩⟩⟩)⟩, ⟨by refine rC (a := ?_); exact Kd.R_mono HO_424002.out (fun _ hk => ⟨hk.1, ⟨hk.2.1, ⟨hk.2.2.1, ⟨hk.2.2.2.1, hk.2.2.2.2.1⟩⟩⟩⟩)⟩, ⟨by refine rC (a := ?_); exact Kd.R_mono HO_434000.out (fun _ hk => ⟨hk.1.1, hk.1.2⟩)⟩, ⟨by refine rC (a := ?_); exact Kd.R_mono HO_434001.out (fun _ hk => ⟨hk.1.1.1, ⟨hk.1.1.2.1, ⟨hk.1.1.2.2.1, ⟨hk.1.1.2.2.2.1, hk.1.1.2.2.2.2⟩⟩⟩⟩)⟩, ⟨by refine rC (a := ?_); exact Kd.R_mono HO_434002.out (fun _ hk => ⟨hk.1.1.1, ⟨hk.1.1.2.1, ⟨hk.1.1.2.2.1, ⟨hk.1.1.2.2.2.1, hk.1.1.2.2.2.2⟩⟩⟩⟩)⟩, ⟨by refine rC (a := ?_); exact Kd.R_mono HO_445000.out (fun _ hk => ⟨hk.1, hk.2.1⟩)⟩, ⟨by refine rC (a := ?_); exact Kd.R_mono HO_445001.out (fun _ hk => ⟨hk.1, ⟨hk.2.1, ⟨hk.2.2.1, ⟨hk.2.2.2.1, hk.2.2.2.2.1⟩⟩⟩⟩)⟩, ⟨by refine rC (a := ?_); exact Kd.R_mono HO_445002.out (fun _ hk => ⟨hk.1, ⟨hk.2.1, ⟨hk.2.2.1, ⟨hk.2.2.2.1, hk.2.2.2.2.1⟩⟩⟩⟩)⟩, ⟨by refine bC (a := ?_); exact BK402.out⟩, ⟨by refine bC (a := ?_); exact BK423.out⟩, ⟨by refine bC (a := ?_); exact BK433.out⟩, ⟨by refine bC (a := ?_); exact BK444.out⟩, ⟨hA HB.out⟩⟩
        ·replace c83 := Bool.eq_false_iff.mpr c83
         subst c83
         have H1 : (laws_FnExactRestart.j1 kj11 a1 t422 true l0_0 l0_1 l0_2 t413 t416 t419 t434 t437 t440) = some r := by rw [if_neg (show ¬ (false = true) by decide)] at H; exact H
         clear H
         have H := H1
         clear H1
         have H' := Aside0.mk H
         clear H
         have hnb92 := NB444_402.out
         have hnc92 := NB402_444.out
         have hnb93 := NB444_423.out
         have hnc93 := NB423_444.out
         have hnb94 := NB444_433.out
         have hnc94 := NB433_444.out
         have hcz95_0 : w80.cell? ⟨gb444, 0, none⟩ = some (.slice Ao39 t434.length co39) := (blk_cell BK444.out 0).trans rfl
         have hcz95_1 : w80.cell? ⟨gb444, 1, none⟩ = some (.slice Ao44 t437.length co44) := (blk_cell BK444.out 1).trans rfl
         have hcz95_2 : w80.cell? ⟨gb444, 2, none⟩ = some (.slice Ao45 t440.length co45) := (blk_cell BK444.out 2).trans rfl
         have hfz95_0 := blk_frozen BK444.out 0
         have hfz95_1 := blk_frozen BK444.out 1
         have hfz95_2 := blk_frozen BK444.out 2
         have hnb96 := NB423_402.out
         have hnc96 := NB402_423.out
         have hnb97 := NB423_433.out
         have hnc97 := NB433_423.out
         have hcz98_0 : w80.cell? ⟨gb423, 0, none⟩ = some (.slice Ao23 t413.length co23) := (blk_cell BK423.out 0).trans rfl
         have hcz98_1 : w80.cell? ⟨gb423, 1, none⟩ = some (.slice Ao26 t416.length co26) := (blk_cell BK423.out 1).trans rfl
         have hcz98_2 : w80.cell? ⟨gb423, 2, none⟩ = some (.slice Ao27 t419.length co27) := (blk_cell BK423.out 2).trans rfl
         have hfz98_0 := blk_frozen BK423.out 0
         have hfz98_1 := blk_frozen BK423.out 1
         have hfz98_2 := blk_frozen BK423.out 2
         go_wp2_with (first | (go_at_call 13; (with_reducible refine (laws_eqBook.calls kj11 _ _ t434 _ _ t437 _ _ t440 _ _ t413 _ _ t416 _ _ t419 false _ ?side1 ?side2 ?side3 ?side4 ?side5 ?side6 ?side7 ?side8 ?side9 ?side10 ?side11 ?side12 A82.out).mono ?_); (case side1 => exact cA (Kd.R_reads' HO_445000.out).2.2); (case side2 => exact (Kd.R_reads' HO_445000.out).2.1); (case side3 => exact cA (Kd.R_reads' HO_445001.out).2.2); (case side4 => exact (Kd.R_reads' HO_445001.out).2.1); (case side5 => exact cA (Kd.R_reads' HO_445002.out).2.2); (case side6 => exact (Kd.R_reads' HO_445002.out).2.1); (case side7 => exact cA (Kd.R_reads' HO_424000.out).2.2); (case side8 => exact (Kd.R_reads' HO_424000.out).2.1); (case side9 => exact cA (Kd.R_reads' HO_424001.out).2.2); (case side10 => exact (Kd.R_reads' HO_424001.out).2.1); (case side11 => exact cA (Kd.R_reads' HO_424002.out).2.2); (case side12 => exact (Kd.R_reads' HO_424002.out).2.1); rintro e w99 ⟨rfl, hb⟩; have n0_ := Aside0.mk (Kd.R_below (rA HO_424000.out) hb); have n1_ := Aside0.mk (Kd.R_below (rA HO_424001.out) hb); have n2_ := Aside0.mk (Kd.R_below (rA HO_424002.out) hb); have n3_ := Aside0.mk (Kd.R_below (rA HO_434000.out) hb); have n4_ := Aside0.mk (Kd.R_below (rA HO_434001.out) hb); have n5_ := Aside0.mk (Kd.R_below (rA HO_434002.out) hb); have n6_ := Aside0.mk (Kd.R_below (rA HO_445000.out) hb); have n7_ := Aside0.mk (Kd.R_below (rA HO_445001.out) hb); have n8_ := Aside0.mk (Kd.R_below (rA HO_445002.out) hb); have n9_ := Aside0.mk (Kd.R_below (rA HO448.out) hb); have n10_ := Aside0.mk (Kd.R_below (rA HO451.out) hb); have n11_ := Aside0.mk (Kd.R_below (rA HO454.out) hb); have n12_ := Aside0.mk (bB BK402.out hb); have n13_ := Aside0.mk (bB BK423.out hb); have n14_ := Aside0.mk (bB BK433.out hb); have n15_ := Aside0.mk (bB BK444.out hb); have n16_ := Aside0.mk (below_step (hA HB.out) hb); clear HO_424000; clear HO_424001; clear HO_424002; clear HO_434000; clear HO_434001; clear HO_434002; clear HO_445000; clear HO_445001; clear HO_445002; clear HO448; clear HO451; clear HO454; clear BK402; clear BK423; clear BK433; clear BK444; clear HB; have HO_424000 := n0_; have HO_424001 := n1_; have HO_424002 := n2_; have HO_434000 := n3_; have HO_434001 := n4_; have HO_434002 := n5_; have HO_445000 := n6_; have HO_445001 := n7_; have HO_445002 := n8_; have HO448 := n9_; have HO451 := n10_; have HO454 := n11_; have BK402 := n12_; have BK423 := n13_; have BK433 := n14_; have BK444 := n15_; have HB := n16_; clear n0_ n1_ n2_ n3_ n4_ n5_ n6_ n7_ n8_ n9_ n10_ n11_ n12_ n13_ n14_ n15_ n16_; (try clear hb); (try clear hb2); (try clear hk); (try clear hi)))
         go_meet
         case rel => exact ⟨_, (true), rs, H', ⟨by have := HJ11.out; first | omega | exact Nat.le_refl _⟩, ⟨by refine rC (a := ?_); exact Kd.R_mono HO_424000.out (fun _ hk => ⟨hk.1, hk.2.1⟩)⟩, ⟨by refine rC (a := ?_); exact Kd.R_mono HO_424001.out (fun _ hk => ⟨hk.1, ⟨hk.2.1, ⟨hk.2.2.1, ⟨hk.2.2.2.1, hk.2.2.2.2.1⟩⟩⟩⟩)⟩, ⟨by refine rC (a := ?_); exact Kd.R_mono HO_424002.out (fun _ hk => ⟨hk.1, ⟨hk.2.1, ⟨hk.2.2.1, ⟨hk.2.2.2.1, hk.2.2.2.2.1⟩⟩⟩⟩)⟩, ⟨by refine rC (a := ?_); exact Kd.R_mono HO_434000.out (fun _ hk => ⟨hk.1.1, hk.1.2⟩)⟩, ⟨by refine rC (a := ?_); exact Kd.R_mono HO_434001.out (fun _ hk => ⟨hk.1.1.1, ⟨hk.1.1.2.1, ⟨hk.1.1.2.2.1, ⟨hk.1.1.2.2.2.1, hk.1.1.2.2.2.2⟩⟩⟩⟩)⟩, ⟨by refine rC (a := ?_); exact Kd.R_mono HO_434002.out (fun _ hk => ⟨hk.1.1.1, ⟨hk.1.1.2.1, ⟨hk.1.1.2.2.1, ⟨hk.1.1.2.2.2.1, hk.1.1.2.2.2.2⟩⟩⟩⟩)⟩, ⟨by refine rC (a := ?_); exact Kd.R_mono HO_445000.out (fun _ hk => ⟨hk.1, hk.2.1⟩)⟩, ⟨by refine rC (a := ?_); exact Kd.R_mono HO_445001.out (fun _ hk => ⟨hk.1, ⟨hk.2.1, ⟨hk.2.2.1, ⟨hk.2.2.2.1, hk.2.2.2.2.1⟩⟩⟩⟩)⟩, ⟨by refine rC (a := ?_); exact Kd.R_mono HO_445002.out (fun _ hk => ⟨hk.1, ⟨hk.2.1, ⟨hk.2.2.1, ⟨hk.2.2.2.1, hk.2.2.2.2.1⟩⟩⟩⟩)⟩, ⟨by refine bC (a := ?_); exact BK402.out⟩, ⟨by refine bC (a := ?_); exact BK423.out⟩, ⟨by refine bC (a := ?_); exact BK433.out⟩, ⟨by refine bC (a := ?_); exact BK444.out⟩, ⟨hA HB.out⟩⟩
      case rest =>
       clear HC69
       (try clear c1); (try clear c2); (try clear p2); (try clear c3); (try clear c4); (try clear c4b0); (try clear c5); (try clear c6); (try clear c7); (try clear c8); (try clear c9); (try clear c11); (try clear c13); (try clear c15); (try clear c24); (try clear c28); (try clear c29); (try clear c32); (try clear c33); (try clear c40); (try clear c41); (try clear c42); (try clear c47); (try clear c48); (try clear c49); (try clear c50); (try clear c52); (try clear c53); (try clear c56); (try clear c57); (try clear c58); (try clear c60); (try clear c61); (try clear c64); (try clear c67); (try clear c76); (try clear c77); (try clear c78); (try clear c81); (try clear c81b0); (try clear c83); (try clear c84); (try clear c85); (try clear c86); (try clear c88); (try clear c89); (try clear c92); (try clear c93); (try clear c94); (try clear c96); (try clear c97); (try clear hcz14_0); (try clear hcz14_1); (try clear hcz14_2); (try clear hcz16_0); (try clear hcz16_1); (try clear hcz16_2); (try clear hcz25_0); (try clear hcz25_1); (try clear hcz25_2); (try clear hcz28_0); (try clear hcz28_1); (try clear hcz28_2); (try clear hcz34_0); (try clear hcz34_1); (try clear hcz34_2); (try clear hcz43_0); (try clear hcz43_1); (try clear hcz43_2); (try clear hcz51_0); (try clear hcz51_1); (try clear hcz51_2); (try clear hcz54_0); (try clear hcz54_1); (try clear hcz54_2); (try clear hcz59_0); (try clear hcz59_1); (try clear hcz59_2); (try clear hcz62_0); (try clear hcz62_1); (try clear hcz62_2); (try clear hcz6_0); (try clear hcz6_1); (try clear hcz6_2); (try clear hcz79_0); (try clear hcz79_1); (try clear hcz79_2); (try clear hcz87_0); (try clear hcz87_1); (try clear hcz87_2); (try clear hcz90_0); (try clear hcz90_1); (try clear hcz90_2); (try clear hcz95_0); (try clear hcz95_1); (try clear hcz95_2); (try clear hcz98_0); (try clear hcz98_1); (try clear hcz98_2); (try clear hfz14_0); (try clear hfz14_1); (try clear hfz14_2); (try clear hfz16_0); (try clear hfz16_1); (try clear hfz16_2); (try clear hfz25_0); (try clear hfz25_1); (try clear hfz25_2); (try clear hfz28_0); (try clear hfz28_1); (try clear hfz28_2); (try clear hfz34_0); (try clear hfz34_1); (try clear hfz34_2); (try clear hfz43_0); (try clear hfz43_1); (try clear hfz43_2); (try clear hfz51_0); (try clear hfz51_1); (try clear hfz51_2); (try clear hfz54_0); (try clear hfz54_1); (try clear hfz54_2); (try clear hfz59_0); (try clear hfz59_1); (try clear hfz59_2); (try clear hfz62_0); (try clear hfz62_1); (try clear hfz62_2); (try clear hfz6_0); (try clear hfz6_1); (try clear hfz6_2); (try clear hfz79_0); (try clear hfz79_1); (try clear hfz79_2); (try clear hfz87_0); (try clear hfz87_1); (try clear hfz87_2); (try clear hfz90_0); (try clear hfz90_1); (try clear hfz90_2); (try clear hfz95_0); (try clear hfz95_1); (try clear hfz95_2); (try clear hfz98_0); (try clear hfz98_1); (try clear hfz98_2); (try clear p2)
       obtain ⟨kq, x65_68, rfl, HA, HJ68, HO_424000, HO_424001, HO_424002, HO_434000, HO_434001, HO_434002, HO_445000, HO_445001, HO_445002, BK402, BK423, BK433, BK444, HB⟩ := hcut
       exact laws_FnExactRestart.rest2 k A0_0 c0_0 l0_0 A0_1 c0_1 l0_1 A0_2 c0_2 l0_2 a1 r w HR0_0 HC0_0 HR0_1 HC0_1 HR0_2 HC0_2 t403 A3 t404 t407 t410 A8 t413 t416 t419 t422 A9 t424 t427 t430 A10 t434 t437 t440 t443 A11 gb402 w13 GW402 GE402 w15 w17 Ao18 co18 Ao19 co19 Ao20 co20 w21 gb423 w22 GW423 GE423 NB402_423 NB423_402 Ao23 co23 hnb24 hnc24 Ao26 co26 Ao27 co27 w29 gb433 w30 GW433 GE433 NB402_433 NB433_402 NB423_433 NB433_423 Ao31 co31 hnb32 hnc32 hnb33 hnc33 Ao35 co35 Ao36 co36 w37 gb444 w38 GW444 GE444 NB402_444 NB444_402 NB423_444 NB444_423 NB433_444 NB444_433 Ao39 co39 HO406 HO415 HO426 HO436 hnb40 hnc40 hnb41 hnc41 hnb42 hnc42 Ao44 co44 Ao45 co45 HO409 HO412 HO418 HO421 HO429 HO432 HO439 HO442 u65 kj11 HJ11 t446 t449 t452 A65 A66 t456 t457 t458 t459 A68 w70 w71 Ao72 co72 Ao73 co73 Ao74 co74 w75 hHeld hnb76 hnc76 hnb77 hnc77 hnb78 hnc78 w80 HO448 HO451 HO454 _ _ rfl (by assumption) _ _ rfl (by assumption) wc u16 u17 u18 u19 u20 u21 u22 u23 u24 u25 u26 u27 u28 u29 u30 u31 u32 u33 u34 u35 u36 u37 u38 u39 u40 u41 u42 u43 u44 u45 u46 u47 u48 u49 u50 u51 u52 u53 u54 u55 u56 u57 u58 u59 u60 u61 u62 u63 u64 u66 u67 u68 u69 u70 u71 u72 u73 u74 u75 u76 u77 u78 u79 u80 u81 u82 u83 u84 u85 u86 u87 u88 u89 u90 u91 u92 u93 u94 u95 u96 u97 u98 u99 u100 kq x65_68 HA HJ68 HO_424000 HO_424001 HO_424002 HO_434000 HO_434001 HO_434002 HO_445000 HO_445001 HO_445002 BK402 BK423 BK433 BK444 HB
     ·replace c67 := Bool.eq_false_iff.mpr c67
      subst c67
      have H1 : (some false) = some r := by rw [if_neg (show ¬ (false = true) by decide)] at H; exact H
      clear H
      have H := H1
      clear H1
      obtain rfl := Option.some.inj H
      try go_wp2
      have n0_ := Aside0.mk (Kd.R_drew HO_424000.out)
      have n1_ := Aside0.mk (Kd.R_drew HO_424001.out)
      have n2_ := Aside0.mk (Kd.R_drew HO_424002.out)
      have n3_ := Aside0.mk (Kd.R_drew HO_434000.out)
      have n4_ := Aside0.mk (Kd.R_drew HO_434001.out)
      have n5_ := Aside0.mk (Kd.R_drew HO_434002.out)
      have n6_ := Aside0.mk (Kd.R_drew HO_445000.out)
      have n7_ := Aside0.mk (Kd.R_drew HO_445001.out)
      have n8_ := Aside0.mk (Kd.R_drew HO_445002.out)
      have n9_ := Aside0.mk (blk_drew BK402.out)
      have n10_ := Aside0.mk (blk_drew BK423.out)
      have n11_ := Aside0.mk (blk_drew BK433.out)
      have n12_ := Aside0.mk (blk_drew BK444.out)
      have n13_ := Aside0.mk (below_drew1 HB.out)
      clear HO_424000
      clear HO_424001
      clear HO_424002
      clear HO_434000
      clear HO_434001
      clear HO_434002
      clear HO_445000
      clear HO_445001
      clear HO_445002
      clear BK402
      clear BK423
      clear BK433
      clear BK444
      clear HB
      have HO_424000 := n0_
      have HO_424001 := n1_
      have HO_424002 := n2_
      have HO_434000 := n3_
      have HO_434001 := n4_
      have HO_434002 := n5_
      have HO_445000 := n6_
      have HO_445001 := n7_
      have HO_445002 := n8_
      have BK402 := n9_
      have BK423 := n10_
      have BK433 := n11_
      have BK444 := n12_
      have HB := n13_
      clear n0_ n1_ n2_ n3_ n4_ n5_ n6_ n7_ n8_ n9_ n10_ n11_ n12_ n13_
      refine start_ (n := 5) (S := fun w' => w'.cell? ⟨gb433, 0, none⟩ = some (.slice Ao31 t424.length co31) ∧ w'.cell? ⟨gb433, 1, none⟩ = some (.slice Ao35 t427.length co35) ∧ w'.cell? ⟨gb433, 2, none⟩ = some (.slice Ao36 t430.length co36) ∧ w'.cell? ⟨gb402, 0, none⟩ = some (.slice A0_0 l0_0.length c0_0) ∧ w'.cell? ⟨gb402, 1, none⟩ = some (.slice A0_1 l0_1.length c0_1) ∧ w'.cell? ⟨gb402, 2, none⟩ = some (.slice A0_2 l0_2.length c0_2)) (ds := []) #[false, false, false, false, false] (by kernel_rfl) rfl rfl ⟨(blk_cell BK433.out 0).trans rfl, (blk_cell BK433.out 1).trans rfl, (blk_cell BK433.out 2).trans rfl, (blk_cell BK402.out 0).trans rfl, (blk_cell BK402.out 1).trans rfl, (blk_cell BK402.out 2).trans rfl⟩ (fun hHeld => ?_)
      generalize wc.drew = w190 at HO_424000 HO_424001 HO_424002 HO_434000 HO_434001 HO_434002 HO_445000 HO_445001 HO_445002 BK402 BK423 BK433 BK444 HB hHeld ⊢
      refine take_ (i := 0) (N := some 45) (v := ?_) (a' := ?_) #[true, false, false, false, false] rfl rfl (by kernel_rfl) (fun _ _ _ h => h) (Or.inl ⟨by rfl, ?_⟩) hHeld ?_ ?_
      rotate_left
      ·rintro w' ⟨s0, s1, s2, s3, s4, s5⟩
       go_simp
       with_reducible rfl
      rotate_left
      ·simp only [Act.put, List.setIfInBounds_toArray, List.set_cons_zero, List.set_cons_succ, i64_w, i32_w]
       rfl
      refine take_ (i := 1) (N := some 46) (v := ?_) (a' := ?_) #[true, true, false, false, false] rfl rfl (by kernel_rfl) (fun _ _ _ h => h) (Or.inl ⟨by rfl, ?_⟩) hHeld ?_ ?_
      rotate_left
      ·rintro w' ⟨s0, s1, s2, s3, s4, s5⟩
       go_simp
       with_reducible rfl
      rotate_left
      ·simp only [Act.put, List.setIfInBounds_toArray, List.set_cons_zero, List.set_cons_succ, i64_w, i32_w]
       rfl
      refine one_ (i := 2) (N := some 47) #[true, true, true, false, false] rfl rfl (by kernel_rfl) (by decide) (fun K hK => ?_)
      refine goes_ Try.func11 (by kernel_rfl) rfl #[.agg #[.slice A0_0 l0_0.length c0_0, .slice A0_1 l0_1.length c0_1, .slice A0_2 l0_2.length c0_2]] (by rfl) rfl rfl ar ?_
      with_reducible refine (laws_toBook.calls kj11 _ _ l0_0 _ _ l0_1 _ _ l0_2 t446 t449 t452 _ ?side1 ?side2 ?side3 ?side4 ?side5 ?side6 A65.out).mono ?_
      (case side1 => exact cA (Kd.C_below HR0_0.out HB.out))
      (case side2 => exact HC0_0.out)
      (case side3 => exact cA (Kd.C_below HR0_1.out HB.out))
      (case side4 => exact HC0_1.out)
      (case side5 => exact cA (Kd.C_below HR0_2.out HB.out))
      (case side6 => exact HC0_2.out)
      rintro e w191 ⟨v447, v450, v453, rfl, ho0, ho1, ho2, hb⟩
      refine ⟨_, rfl, ?_⟩
      have n0_ := Aside0.mk (Kd.R_elder' (rA HO_424000.out) (Kd.R_base ho0) hb)
      have n1_ := Aside0.mk (Kd.R_mono (Kd.R_told (Kd.R_told (Kd.R_old (rA HO_424001.out) hb) (Kd.R_base ho1)) (Kd.R_base ho2)) (fun _ h_ => h_.1))
      have n2_ := Aside0.mk (Kd.R_mono (Kd.R_told (Kd.R_told (Kd.R_old (rA HO_424002.out) hb) (Kd.R_base ho1)) (Kd.R_base ho2)) (fun _ h_ => h_.1))
      have n3_ := Aside0.mk (Kd.R_elder' (rA HO_434000.out) (Kd.R_base ho0) hb)
      have n4_ := Aside0.mk (Kd.R_mono (Kd.R_told (Kd.R_told (Kd.R_old (rA HO_434001.out) hb) (Kd.R_base ho1)) (Kd.R_base ho2)) (fun _ h_ => h_.1))
      have n5_ := Aside0.mk (Kd.R_mono (Kd.R_told (Kd.R_told (Kd.R_old (rA HO_434002.out) hb) (Kd.R_base ho1)) (Kd.R_base ho2)) (fun _ h_ => h_.1))
      have n6_ := Aside0.mk (Kd.R_elder' (rA HO_445000.out) (Kd.R_base ho0) hb)
      have n7_ := Aside0.mk (Kd.R_mono (Kd.R_told (Kd.R_told (Kd.R_old (rA HO_445001.out) hb) (Kd.R_base ho1)) (Kd.R_base ho2)) (fun _ h_ => h_.1))
      have n8_ := Aside0.mk (Kd.R_mono (Kd.R_told (Kd.R_told (Kd.R_old (rA HO_445002.out) hb) (Kd.R_base ho1)) (Kd.R_base ho2)) (fun _ h_ => h_.1))
      have n9_ := Aside0.mk (Kd.R_lower (Kd.R_new' (Kd.R_new' (Kd.R_new' ho0 (Kd.R_lt (rA HO_424000.out))) (Kd.R_lt (rA HO_434000.out))) (Kd.R_lt (rA HO_445000.out))) (below_size (hA HB.out)))
      have n10_ := Aside0.mk (Kd.R_lower (Kd.R_new' (Kd.R_new' (Kd.R_new' (Kd.R_new' (Kd.R_new' (Kd.R_new' ho1 (Kd.R_lt (rA HO_424001.out))) (Kd.R_lt (rA HO_424002.out))) (Kd.R_lt (rA HO_434001.out))) (Kd.R_lt (rA HO_434002.out))) (Kd.R_lt (rA HO_445001.out))) (Kd.R_lt (rA HO_445002.out))) (below_size (hA HB.out)))
      have n11_ := Aside0.mk (Kd.R_lower (Kd.R_new' (Kd.R_new' (Kd.R_new' (Kd.R_new' (Kd.R_new' (Kd.R_new' ho2 (Kd.R_lt (rA HO_424001.out))) (Kd.R_lt (rA HO_424002.out))) (Kd.R_lt (rA HO_434001.out))) (Kd.R_lt (rA HO_434002.out))) (Kd.R_lt (rA HO_445001.out))) (Kd.R_lt (rA HO_445002.out))) (below_size (hA HB.out)))
      have n12_ := Aside0.mk (bB BK402.out hb)
      have n13_ := Aside0.mk (bB BK423.out hb)
      have n14_ := Aside0.mk (bB BK433.out hb)
      have n15_ := Aside0.mk (bB BK444.out hb)
      have n16_ := Aside0.mk (below_step (hA HB.out) hb)
      clear HO_424000
      clear HO_424001
      clear HO_424002
      clear HO_434000
      clear HO_434001
      clear HO_434002
      clear HO_445000
      clear HO_445001
      clear HO_445002
      clear BK402
      clear BK423
      clear BK433
      clear BK444
      clear HB
      have HO_424000 := n0_
      have HO_424001 := n1_
      have HO_424002 := n2_
      have HO_434000 := n3_
      have HO_434001 := n4_
      have HO_434002 := n5_
      have HO_445000 := n6_
      have HO_445001 := n7_
      have HO_445002 := n8_
      have HO448 := n9_
      have HO451 := n10_
      have HO454 := n11_
      have BK402 := n12_
      have BK423 := n13_
      have BK433 := n14_
      have BK444 := n15_
      have HB := n16_
      clear n0_ n1_ n2_ n3_ n4_ n5_ n6_ n7_ n8_ n9_ n10_ n11_ n12_ n13_ n14_ n15_ n16_
      (try clear hb); (try clear hb2); (try clear hk); (try clear hi); (try clear ho0); (try clear ho1); (try clear ho2)
      obtain ⟨Ao192, co192, eo192⟩ := Kd.R_slice HO448.out
      (first | subst eo192 | (injection eo192 with f1_ f2_ f3_; have f4_ := f1_.symm; have f5_ := f3_.symm; clear f1_ f2_ f3_; subst f4_; subst f5_))
      obtain ⟨Ao193, co193, eo193⟩ := Kd.R_slice HO451.out
      (first | subst eo193 | (injection eo193 with f1_ f2_ f3_; have f4_ := f1_.symm; have f5_ := f3_.symm; clear f1_ f2_ f3_; subst f4_; subst f5_))
      obtain ⟨Ao194, co194, eo194⟩ := Kd.R_slice HO454.out
      (first | subst eo194 | (injection eo194 with f1_ f2_ f3_; have f4_ := f1_.symm; have f5_ := f3_.symm; clear f1_ f2_ f3_; subst f4_; subst f5_))
      refine hK.out _ _ ⟨(blk_cell BK433.out 0).trans rfl, (blk_cell BK433.out 1).trans rfl, (blk_cell BK433.out 2).trans rfl, (blk_cell BK402.out 0).trans rfl, (blk_cell BK402.out 1).trans rfl, (blk_cell BK402.out 2).trans rfl⟩ (fun hHeld => ?_)
      clear hK K
      refine norm_ (a' := ?_) ?_ ?_
      rotate_left
      ·show Act.put _ (some 47) _ = _
       simp only [Act.put, List.setIfInBounds_toArray, List.set_cons_zero, List.set_cons_succ, i64_w, i32_w]
       rfl
      refine one_ (i := 3) (N := some 48) #[true, true, true, true, false] rfl rfl (by kernel_rfl) (by decide) (fun K hK => ?_)
      refine goes_ Try.func13 (by kernel_rfl) rfl #[.agg #[.slice Ao31 t424.length co31, .slice Ao35 t427.length co35, .slice Ao36 t430.length co36], .agg #[.slice Ao192 t446.length co192, .slice Ao193 t449.length co193, .slice Ao194 t452.length co194]] (by rfl) rfl rfl ar ?_
      with_reducible refine (laws_eqBook.calls kj11 _ _ t424 _ _ t427 _ _ t430 _ _ t446 _ _ t449 _ _ t452 false _ ?side1 ?side2 ?side3 ?side4 ?side5 ?side6 ?side7 ?side8 ?side9 ?side10 ?side11 ?side12 A66.out).mono ?_
      (case side1 => exact cA (Kd.R_reads' HO_434000.out).2.2)
      (case side2 => exact (Kd.R_reads' HO_434000.out).2.1)
      (case side3 => exact cA (Kd.R_reads' HO_434001.out).2.2)
      (case side4 => exact (Kd.R_reads' HO_434001.out).2.1)
      (case side5 => exact cA (Kd.R_reads' HO_434002.out).2.2)
      (case side6 => exact (Kd.R_reads' HO_434002.out).2.1)
      (case side7 => exact cA (Kd.R_reads' HO448.out).2.2)
      (case side8 => exact (Kd.R_reads' HO448.out).2.1)
      (case side9 => exact cA (Kd.R_reads' HO451.out).2.2)
      (case side10 => exact (Kd.R_reads' HO451.out).2.1)
      (case side11 => exact cA (Kd.R_reads' HO454.out).2.2)
      (case side12 => exact (Kd.R_reads' HO454.out).2.1)
      rintro e w195 ⟨rfl, hb⟩
      refine ⟨_, rfl, ?_⟩
      have n0_ := Aside0.mk (Kd.R_below (rA HO_424000.out) hb)
      have n1_ := Aside0.mk (Kd.R_below (rA HO_424001.out) hb)
      have n2_ := Aside0.mk (Kd.R_below (rA HO_424002.out) hb)
      have n3_ := Aside0.mk (Kd.R_below (rA HO_434000.out) hb)
      have n4_ := Aside0.mk (Kd.R_below (rA HO_434001.out) hb)
      have n5_ := Aside0.mk (Kd.R_below (rA HO_434002.out) hb)
      have n6_ := Aside0.mk (Kd.R_below (rA HO_445000.out) hb)
      have n7_ := Aside0.mk (Kd.R_below (rA HO_445001.out) hb)
      have n8_ := Aside0.mk (Kd.R_below (rA HO_445002.out) hb)
      have n9_ := Aside0.mk (Kd.R_below (rA HO448.out) hb)
      have n10_ := Aside0.mk (Kd.R_below (rA HO451.out) hb)
      have n11_ := Aside0.mk (Kd.R_below (rA HO454.out) hb)
      have n12_ := Aside0.mk (bB BK402.out hb)
      have n13_ := Aside0.mk (bB BK423.out hb)
      have n14_ := Aside0.mk (bB BK433.out hb)
      have n15_ := Aside0.mk (bB BK444.out hb)
      have n16_ := Aside0.mk (below_step (hA HB.out) hb)
      clear HO_424000
      clear HO_424001
      clear HO_424002
      clear HO_434000
      clear HO_434001
      clear HO_434002
      clear HO_445000
      clear HO_445001
      clear HO_445002
      clear HO448
      clear HO451
      clear HO454
      clear BK402
      clear BK423
      clear BK433
      clear BK444
      clear HB
      have HO_424000 := n0_
      have HO_424001 := n1_
      have HO_424002 := n2_
      have HO_434000 := n3_
      have HO_434001 := n4_
      have HO_434002 := n5_
      have HO_445000 := n6_
      have HO_445001 := n7_
      have HO_445002 := n8_
      have HO448 := n9_
      have HO451 := n10_
      have HO454 := n11_
      have BK402 := n12_
      have BK423 := n13_
      have BK433 := n14_
      have BK444 := n15_
      have HB := n16_
      clear n0_ n1_ n2_ n3_ n4_ n5_ n6_ n7_ n8_ n9_ n10_ n11_ n12_ n13_ n14_ n15_ n16_
      (try clear hb); (try clear hb2); (try clear hk); (try clear hi)
      refine hK.out _ _ ⟨(blk_cell BK433.out 0).trans rfl, (blk_cell BK433.out 1).trans rfl, (blk_cell BK433.out 2).trans rfl, (blk_cell BK402.out 0).trans rfl, (blk_cell BK402.out 1).trans rfl, (blk_cell BK402.out 2).trans rfl⟩ (fun hHeld => ?_)
      clear hK K
      refine norm_ (a' := ?_) ?_ ?_
      rotate_left
      ·show Act.put _ (some 48) _ = _
       simp only [Act.put, List.setIfInBounds_toArray, List.set_cons_zero, List.set_cons_succ, i64_w, i32_w]
       rfl
      refine pure_ (i := 4) (N := some 49) (v := ?_) (a' := ?_) #[true, true, true, true, true] rfl rfl (by kernel_rfl) (fun _ _ _ h => h) (Or.inl ⟨by rfl, ?_⟩) ?_ ?_
      rotate_left
      ·intro w'
       go_simp
       with_reducible rfl
      rotate_left
      ·simp only [Act.put, List.setIfInBounds_toArray, List.set_cons_zero, List.set_cons_succ, i64_w, i32_w]
       rfl
      refine done_ (by kernel_rfl) ?_
      try go_wp2
      go_ret
      exact ⟨er, hA HB.out⟩

end Go.Proofs.Ytngnkfpciloamaa.MFnExactRestart
