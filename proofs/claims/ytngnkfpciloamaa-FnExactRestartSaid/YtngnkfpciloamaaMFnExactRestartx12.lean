/- The functions that the law FnExactRestart reaches, as plain functions, and that the code comes to them. Begun as a text of the print over stubs; turned by wip/handstub.py and wip/mend.py. -/
import Derived.Test.YtngnkfpciloamaaShortFnExactRestart
import Derived.Test.YtngnkfpciloamaaMFnExactRestartx0
import Derived.Test.YtngnkfpciloamaaMFnExactRestartx1
import Derived.Test.YtngnkfpciloamaaMFnExactRestartx2
import Derived.Test.YtngnkfpciloamaaMFnExactRestartx3
import Derived.Test.YtngnkfpciloamaaMFnExactRestartx4
import Derived.Test.YtngnkfpciloamaaMFnExactRestartx11
namespace Go.Proofs.Ytngnkfpciloamaa.MFnExactRestart
open Go.RowKit Go.Proofs.YtngnkfpciloamaaW.PrintWords Go.Proofs.YtngnkfpciloamaaW.PrintLast Go.Proofs.YtngnkfpciloamaaW.PrintMore
attribute [local go_sem] max2_int min2_int max_two min_two max_three min_three max_four min_four   -- for this text's walks alone
set_option linter.unusedVariables false
set_option linter.unusedSimpArgs false

/-! ### spec_Restart: function 29 -/
def spec_Restart.j0 : Nat → Int → Bool → List (S50) → List Int → List Int → Option ((List (S50)) × List Int × List Int × Bool)
 | 0, _, _, _, _, _ => none
 | k + 1, x1, x15, x365000, x365001, x365002 => if x15 = true then (some (([] : List (S50)), ([] : List Int), ([] : List Int), false)) else (if x1 = 1 then ((spec_l18Copy.f x365000 x365001 x365002).bind fun bt368 => (some (bt368.1, bt368.2.1, bt368.2.2, true))) else (if x1 = 2 then ((spec_MendBook.f k x365000 x365001 x365002).bind fun bt377 => (some (bt377.1, bt377.2.1, bt377.2.2.1, true))) else ((spec_l18Write.f k (([] : List (S50))) (x365001.length : Int) (x365002.length : Int)).bind fun bt393 => (some (bt393.1, bt393.2.1, bt393.2.2, true)))))
def spec_Restart.f (k : Nat) (l0_0 : List (S50)) (l0_1 : List Int) (l0_2 : List Int) (a1 : Int) : Option ((List (S50)) × List Int × List Int × Bool) := (spec_BookOk.f k l0_0 l0_1 l0_2).bind fun t366 => (if t366 = true then ((spec_l1In.f a1 1 3).bind fun t367 => (spec_Restart.j0 k a1 (!t367) l0_0 l0_1 l0_2)) else (spec_Restart.j0 k a1 true l0_0 l0_1 l0_2))
theorem spec_Restart.mono_l : ∀ k, (∀ y0 y1 y2 y3 y4, LeO (spec_Restart.j0 k y0 y1 y2 y3 y4) (spec_Restart.j0 (k + 1) y0 y1 y2 y3 y4))
 | 0 => fun _ _ _ _ _ r h => by simp [spec_Restart.j0] at h
 | k + 1 => by
  have ih0 := spec_Restart.mono_l k
  ·intro y0 y1 y2 y3 y4
   unfold spec_Restart.j0
   repeat' first
   | (with_reducible exact ih0 _ _ _ _ _)
   | (with_reducible exact spec_BookOk.mono _ _ _ _)
   | (with_reducible exact spec_MendBook.mono _ _ _ _)
   | (with_reducible exact spec_l18Write.mono _ _ _ _)
   | (with_reducible exact LeO.refl _)
   | (with_reducible exact LeO.none _)
   | (with_reducible refine LeO.ite ?_ ?_)
   | (with_reducible refine LeO.bind ?_ (fun _ => ?_))
   | exact ih0 _ _ _ _ _
   | exact spec_BookOk.mono _ _ _ _
   | exact spec_MendBook.mono _ _ _ _
   | exact spec_l18Write.mono _ _ _ _
   | exact LeO.none _
   | refine LeO.ite ?_ ?_
   | refine LeO.bind ?_ (fun _ => ?_)
theorem spec_Restart.mono : ∀ a0 a1 a2 a3 k, LeO (spec_Restart.f k a0 a1 a2 a3) (spec_Restart.f (k + 1) a0 a1 a2 a3) := by
 intro a0 a1 a2 a3 k
 have ih0 := spec_Restart.mono_l k
 unfold spec_Restart.f
 repeat' first
   | (with_reducible exact ih0 _ _ _ _ _)
   | (with_reducible exact spec_BookOk.mono _ _ _ _)
   | (with_reducible exact spec_MendBook.mono _ _ _ _)
   | (with_reducible exact spec_l18Write.mono _ _ _ _)
   | (with_reducible exact LeO.refl _)
   | (with_reducible exact LeO.none _)
   | (with_reducible refine LeO.ite ?_ ?_)
   | (with_reducible refine LeO.bind ?_ (fun _ => ?_))
   | exact ih0 _ _ _ _ _
   | exact spec_BookOk.mono _ _ _ _
   | exact spec_MendBook.mono _ _ _ _
   | exact spec_l18Write.mono _ _ _ _
   | exact LeO.none _
   | refine LeO.ite ?_ ?_
   | refine LeO.bind ?_ (fun _ => ?_)
set_option maxHeartbeats 8000000 in
set_option maxRecDepth 100000 in
theorem spec_Restart.calls (k : Nat) (A0_0 : Option Addr) (c0_0 : Nat) (l0_0 : List (S50)) (A0_1 : Option Addr) (c0_1 : Nat) (l0_1 : List Int) (A0_2 : Option Addr) (c0_2 : Nat) (l0_2 : List Int) (a1 : Int) (r1 : List (S50)) (r2 : List Int) (r3 : List Int) (r4 : Bool) (w : World) (hr0_0 : Kd.C k50 w A0_0 l0_0.length l0_0) (hc0_0 : l0_0.length ≤ c0_0) (hr0_1 : Kd.C (Kd.int .i64) w A0_1 l0_1.length l0_1) (hc0_1 : l0_1.length ≤ c0_1) (hr0_2 : Kd.C (Kd.int .i64) w A0_2 l0_2.length l0_2) (hc0_2 : l0_2.length ≤ c0_2) (h : spec_Restart.f k l0_0 l0_1 l0_2 a1 = some (r1, r2, r3, r4)) :
  Calls Try.prog 29 #[.agg #[.slice A0_0 l0_0.length c0_0, .slice A0_1 l0_1.length c0_1, .slice A0_2 l0_2.length c0_2], .int .i64 a1] w fun e w' => ∃ v0_ v1_ v2_ : Value, e = .returned (.tuple #[.agg #[v0_, v1_, v2_], .bool r4]) ∧ Kd.R k50 50 w' w.heap.size (fun _ => True) v0_ r1 ∧ Kd.R (Kd.int .i64) 3 w' w.heap.size (fun k_ => some k_ ≠ (v2_ : Value).ownBlock) v1_ r2 ∧ Kd.R (Kd.int .i64) 3 w' w.heap.size (fun k_ => some k_ ≠ (v1_ : Value).ownBlock) v2_ r3 ∧ Below w.heap.size w w' := by
 have hu29 := Try.underlying29
 have HR0_0 := Aside0.mk hr0_0
 have HC0_0 := Aside0.mk hc0_0
 clear hr0_0 hc0_0
 have HR0_1 := Aside0.mk hr0_1
 have HC0_1 := Aside0.mk hc0_1
 clear hr0_1 hc0_1
 have HR0_2 := Aside0.mk hr0_2
 have HC0_2 := Aside0.mk hc0_2
 clear hr0_2 hc0_2
 have HB := Aside0.mk (Below.refl w.heap.size w)
 have H : ((spec_BookOk.f k l0_0 l0_1 l0_2).bind fun t366 => (if t366 = true then ((spec_l1In.f a1 1 3).bind fun t367 => (spec_Restart.j0 k a1 (!t367) l0_0 l0_1 l0_2)) else (spec_Restart.j0 k a1 true l0_0 l0_1 l0_2))) = some (r1, r2, r3, r4) := h
 clear h
 have HC3 := Aside0.mk H
 clear H
 go_enter Try.func29, Try.ntmps29
 go_upto_region 1 with (first | ((with_reducible refine gate_dst (N := 2) rfl ?_); refine box_event ?hg (N := 2) ?hd (cs := #[.slice A0_0 l0_0.length c0_0, .slice A0_1 l0_1.length c0_1, .slice A0_2 l0_2.length c0_2]) (t := 29) ?hr ?_; (case hd => rfl); (case hg => rfl); (case hr => first | (go_simp; done) | (go_simp; rfl)); intro gb364 hg w4 hbox hb; have n0_ := Aside0.mk (below_step (hA HB.out) hb); have n1_ := Aside0.mk (hbox); have n2_ := Aside0.mk ((by rw [hg]; exact (below_size (hA HB.out)) : w.heap.size ≤ gb364)); have n3_ := Aside0.mk ((by rw [hg]; exact (below_size (hA HB.out)) : w.heap.size ≤ gb364)); clear HB; have HB := n0_; have BK364 := n1_; have GW364 := n2_; have GE364 := n3_; clear n0_ n1_ n2_ n3_; clear hb hbox hg) | ((with_reducible refine gate_dst (N := 4) rfl ?_); refine box_event ?hg (N := 4) ?hd (cs := #[.slice none 0 0, .slice none 0 0, .slice none 0 0]) (t := 29) ?hr ?_; (case hd => rfl); (case hg => rfl); (case hr => first | (go_simp; done) | (go_simp; rfl)); intro gb365 hg w5 hbox hb; have n0_ := Aside0.mk (bB BK364.out hb); have n1_ := Aside0.mk (below_step (hA HB.out) hb); have n2_ := Aside0.mk (hbox); have n3_ := Aside0.mk ((by rw [hg]; exact (below_size (hA HB.out)) : w.heap.size ≤ gb365)); have n4_ := Aside0.mk ((by rw [hg]; exact (below_size (hA HB.out)) : w.heap.size ≤ gb365)); have n5_ := Aside0.mk ((by rw [hg]; exact Nat.ne_of_lt (blk_lt (g := gb364) (o := .cells #[.slice A0_0 l0_0.length c0_0, .slice A0_1 l0_1.length c0_1, .slice A0_2 l0_2.length c0_2] 29 (0, 0)) (bA BK364.out)) : gb364 ≠ gb365)); have n6_ := Aside0.mk ((by rw [hg]; exact Nat.ne_of_gt (blk_lt (g := gb364) (o := .cells #[.slice A0_0 l0_0.length c0_0, .slice A0_1 l0_1.length c0_1, .slice A0_2 l0_2.length c0_2] 29 (0, 0)) (bA BK364.out)) : gb365 ≠ gb364)); clear BK364; clear HB; have BK364 := n0_; have HB := n1_; have BK365 := n2_; have GW365 := n3_; have GE365 := n4_; have NB364_365 := n5_; have NB365_364 := n6_; clear n0_ n1_ n2_ n3_ n4_ n5_ n6_; clear hb hbox hg))
 (try simp only [Act.put, List.setIfInBounds_toArray, List.set_cons_zero, List.set_cons_succ])
 go_cut [15] (fun v15 wc => ∃ (kq : Nat) (x15_2 : Bool), v15 = .bool x15_2 ∧ Aside0 (spec_Restart.j0 kq a1 x15_2 l0_0 l0_1 l0_2 = some (r1, r2, r3, r4)) ∧ Aside0 (kq ≤ k) ∧ Aside0 (wc.heap[gb364]? = some (.cells #[(.slice A0_0 l0_0.length c0_0), (.slice A0_1 l0_1.length c0_1), (.slice A0_2 l0_2.length c0_2)] 29 (0, 0))) ∧ Aside0 (wc.heap[gb365]? = some (.cells #[(.slice none 0 0), (.slice none 0 0), (.slice none 0 0)] 29 (0, 0))) ∧ Aside0 (Below w.heap.size w wc))
 case first =>
  have H := HC3.out
  clear HC3
  replace H := Option.bind_eq_some_iff.mp H
  obtain ⟨t366, A60, H⟩ := H
  replace H : (if t366 = true then ((spec_l1In.f a1 1 3).bind fun t367 => (spec_Restart.j0 k a1 (!t367) l0_0 l0_1 l0_2)) else (spec_Restart.j0 k a1 true l0_0 l0_1 l0_2)) = some (r1, r2, r3, r4) := H
  have A6 := Aside0.mk A60
  clear A60
  by_cases c7 : t366 = true
  ·subst c7
   have H1 : ((spec_l1In.f a1 1 3).bind fun t367 => (spec_Restart.j0 k a1 (!t367) l0_0 l0_1 l0_2)) = some (r1, r2, r3, r4) := by rw [if_pos rfl] at H; exact H
   clear H
   have H := H1
   clear H1
   replace H := Option.bind_eq_some_iff.mp H
   obtain ⟨t367, A80, H⟩ := H
   replace H : (spec_Restart.j0 k a1 (!t367) l0_0 l0_1 l0_2) = some (r1, r2, r3, r4) := H
   have A8 := Aside0.mk A80
   clear A80
   have H' := Aside0.mk H
   clear H
   have hnb9 := NB364_365.out
   have hnc9 := NB365_364.out
   have hcz10_0 : w5.cell? ⟨gb364, 0, none⟩ = some (.slice A0_0 l0_0.length c0_0) := (blk_cell BK364.out 0).trans rfl
   have hcz10_1 : w5.cell? ⟨gb364, 1, none⟩ = some (.slice A0_1 l0_1.length c0_1) := (blk_cell BK364.out 1).trans rfl
   have hcz10_2 : w5.cell? ⟨gb364, 2, none⟩ = some (.slice A0_2 l0_2.length c0_2) := (blk_cell BK364.out 2).trans rfl
   have hfz10_0 := blk_frozen BK364.out 0
   have hfz10_1 := blk_frozen BK364.out 1
   have hfz10_2 := blk_frozen BK364.out 2
   go_wp2_with (first | ((with_reducible refine gate_callee (f := 27) rfl ?_); refine goesL_ (some 9) rfl rfl Try.func27 (by kernel_rfl) rfl #[.agg #[.slice A0_0 l0_0.length c0_0, .slice A0_1 l0_1.length c0_1, .slice A0_2 l0_2.length c0_2]] rfl ar ?_; (with_reducible refine (spec_BookOk.calls k _ _ l0_0 _ _ l0_1 _ _ l0_2 true _ ?side1 ?side2 ?side3 ?side4 ?side5 ?side6 A6.out).mono ?_); (case side1 => exact cA (Kd.C_below HR0_0.out HB.out)); (case side2 => exact HC0_0.out); (case side3 => exact cA (Kd.C_below HR0_1.out HB.out)); (case side4 => exact HC0_1.out); (case side5 => exact cA (Kd.C_below HR0_2.out HB.out)); (case side6 => exact HC0_2.out); rintro e w11 ⟨rfl, hb⟩; refine ⟨_, rfl, ?_⟩; have n0_ := Aside0.mk (bB BK364.out hb); have n1_ := Aside0.mk (bB BK365.out hb); have n2_ := Aside0.mk (below_step (hA HB.out) hb); clear BK364; clear BK365; clear HB; have BK364 := n0_; have BK365 := n1_; have HB := n2_; clear n0_ n1_ n2_; (try clear hb); (try clear hb2); (try clear hk); (try clear hi)) | (go_at_call 53; (with_reducible refine (spec_l1In.calls a1 1 3 t367 _ A8.out).mono ?_); rintro e w' ⟨rfl, ⟨nd, rfl⟩⟩))
   go_meet
   case rel => exact ⟨_, (!t367), rs, H', ⟨by first | omega | exact Nat.le_refl _⟩, ⟨by refine bC (a := ?_); exact BK364.out⟩, ⟨by refine bC (a := ?_); exact BK365.out⟩, ⟨hA HB.out⟩⟩
  ·replace c7 := Bool.eq_false_iff.mpr c7
   subst c7
   have H1 : (spec_Restart.j0 k a1 true l0_0 l0_1 l0_2) = some (r1, r2, r3, r4) := by rw [if_neg (show ¬ (false = true) by decide)] at H; exact H
   clear H
   have H := H1
   clear H1
   have H' := Aside0.mk H
   clear H
   have hnb12 := NB364_365.out
   have hnc12 := NB365_364.out
   have hcz13_0 : w5.cell? ⟨gb364, 0, none⟩ = some (.slice A0_0 l0_0.length c0_0) := (blk_cell BK364.out 0).trans rfl
   have hcz13_1 : w5.cell? ⟨gb364, 1, none⟩ = some (.slice A0_1 l0_1.length c0_1) := (blk_cell BK364.out 1).trans rfl
   have hcz13_2 : w5.cell? ⟨gb364, 2, none⟩ = some (.slice A0_2 l0_2.length c0_2) := (blk_cell BK364.out 2).trans rfl
   have hfz13_0 := blk_frozen BK364.out 0
   have hfz13_1 := blk_frozen BK364.out 1
   have hfz13_2 := blk_frozen BK364.out 2
   go_wp2_with (first | ((with_reducible refine gate_callee (f := 27) rfl ?_); refine goesL_ (some 9) rfl rfl Try.func27 (by kernel_rfl) rfl #[.agg #[.slice A0_0 l0_0.length c0_0, .slice A0_1 l0_1.length c0_1, .slice A0_2 l0_2.length c0_2]] rfl ar ?_; (with_reducible refine (spec_BookOk.calls k _ _ l0_0 _ _ l0_1 _ _ l0_2 false _ ?side1 ?side2 ?side3 ?side4 ?side5 ?side6 A6.out).mono ?_); (case side1 => exact cA (Kd.C_below HR0_0.out HB.out)); (case side2 => exact HC0_0.out); (case side3 => exact cA (Kd.C_below HR0_1.out HB.out)); (case side4 => exact HC0_1.out); (case side5 => exact cA (Kd.C_below HR0_2.out HB.out)); (case side6 => exact HC0_2.out); rintro e w14 ⟨rfl, hb⟩; refine ⟨_, rfl, ?_⟩; have n0_ := Aside0.mk (bB BK364.out hb); have n1_ := Aside0.mk (bB BK365.out hb); have n2_ := Aside0.mk (below_step (hA HB.out) hb); clear BK364; clear BK365; clear HB; have BK364 := n0_; have BK365 := n1_; have HB := n2_; clear n0_ n1_ n2_; (try clear hb); (try clear hb2); (try clear hk); (try clear hi)))
   go_meet
   case rel => exact ⟨_, (true), rs, H', ⟨by first | omega | exact Nat.le_refl _⟩, ⟨by refine bC (a := ?_); exact BK364.out⟩, ⟨by refine bC (a := ?_); exact BK365.out⟩, ⟨hA HB.out⟩⟩
 case rest =>
  clear HC3
  try clear c1
  try clear c2
  try clear p2
  try clear c7
  try clear c9
  try clear c12
  try clear hcz10_0
  try clear hcz10_1
  try clear hcz10_2
  try clear hcz13_0
  try clear hcz13_1
  try clear hcz13_2
  try clear hfz10_0
  try clear hfz10_1
  try clear hfz10_2
  try clear hfz13_0
  try clear hfz13_1
  try clear hfz13_2
  obtain ⟨kq, x15_2, rfl, HA, HJ2, BK364, BK365, HB⟩ := hcut
  cases kq with
  | zero => exact absurd HA.out (by simp [spec_Restart.j0])
  | succ kj2 =>
   have H := HA.out
   clear HA
   simp only [spec_Restart.j0] at H
   by_cases c15 : x15_2 = true
   ·subst c15
    have H1 : (some (([] : List (S50)), ([] : List Int), ([] : List Int), false)) = some (r1, r2, r3, r4) := by rw [if_pos rfl] at H; exact H
    clear H
    have H := H1
    clear H1
    simp only [Option.some.injEq, Prod.mk.injEq] at H
    obtain ⟨rfl, rfl, rfl, rfl⟩ := H
    have hnb16 := NB365_364.out
    have hnc16 := NB364_365.out
    have hcz17_0 : wc.cell? ⟨gb365, 0, none⟩ = some (.slice none 0 0) := (blk_cell BK365.out 0).trans rfl
    have hcz17_1 : wc.cell? ⟨gb365, 1, none⟩ = some (.slice none 0 0) := (blk_cell BK365.out 1).trans rfl
    have hcz17_2 : wc.cell? ⟨gb365, 2, none⟩ = some (.slice none 0 0) := (blk_cell BK365.out 2).trans rfl
    have hfz17_0 := blk_frozen BK365.out 0
    have hfz17_1 := blk_frozen BK365.out 1
    have hfz17_2 := blk_frozen BK365.out 2
    go_wp2
    refine bodyPost_ret (results_ct rfl _ _ gb365 29 #[.slice none 0 0, .slice none 0 0, .slice none 0 0] (0, 0) _ rfl (by refine bC (a := ?_); refine blk_put (cs := #[.slice none 0 0, .slice none 0 0, .slice none 0 0]) ?_ 2 _ rfl; refine bC (a := ?_); refine blk_put (cs := #[.slice none 0 0, .slice none 0 0, .slice none 0 0]) ?_ 1 _ rfl; refine bC (a := ?_); refine blk_put (cs := #[.slice none 0 0, .slice none 0 0, .slice none 0 0]) ?_ 0 _ rfl; refine bC (a := ?_); exact BK365.out) Try.underlying29 rfl (by kernel_rfl)) rfl ?_
    exact ⟨_, _, _, er, by first | exact Kd.R_nil _ _ _ _ _ | exact Kd.N_nil _ _ _ _ _ | exact Kd.V_nil _ _ _ _ _ | exact Kd.Q_nil _ _ _ _ _ | exact Kd.S_nil _ _ _ _ _, by first | exact Kd.R_nil _ _ _ _ _ | exact Kd.N_nil _ _ _ _ _ | exact Kd.V_nil _ _ _ _ _ | exact Kd.Q_nil _ _ _ _ _ | exact Kd.S_nil _ _ _ _ _, by first | exact Kd.R_nil _ _ _ _ _ | exact Kd.N_nil _ _ _ _ _ | exact Kd.V_nil _ _ _ _ _ | exact Kd.Q_nil _ _ _ _ _ | exact Kd.S_nil _ _ _ _ _, hA HB.out⟩
   ·replace c15 := Bool.eq_false_iff.mpr c15
    subst c15
    have H1 : (if a1 = 1 then ((spec_l18Copy.f l0_0 l0_1 l0_2).bind fun bt368 => (some (bt368.1, bt368.2.1, bt368.2.2, true))) else (if a1 = 2 then ((spec_MendBook.f kj2 l0_0 l0_1 l0_2).bind fun bt377 => (some (bt377.1, bt377.2.1, bt377.2.2.1, true))) else ((spec_l18Write.f kj2 (([] : List (S50))) (l0_1.length : Int) (l0_2.length : Int)).bind fun bt393 => (some (bt393.1, bt393.2.1, bt393.2.2, true))))) = some (r1, r2, r3, r4) := by rw [if_neg (show ¬ (false = true) by decide)] at H; exact H
    clear H
    have H := H1
    clear H1
    by_cases c18 : a1 = 1
    ·rw [if_pos c18] at H
     have c18b0 : (a1 == 1) = true := beq_iff_eq.mpr c18
     have c18b1 : (a1 != 1) = false := bne_eq_false_iff_eq.mpr c18
     clear c18
     replace H := Option.bind_eq_some_iff.mp H
     obtain ⟨⟨t368, t371, t374⟩, A190, H⟩ := H
     replace H : (some (t368, t371, t374, true)) = some (r1, r2, r3, r4) := H
     have A19 := Aside0.mk A190
     clear A190
     simp only [Option.some.injEq, Prod.mk.injEq] at H
     obtain ⟨rfl, rfl, rfl, rfl⟩ := H
     have hnb20 := NB364_365.out
     have hnc20 := NB365_364.out
     have hcz21_0 : wc.cell? ⟨gb364, 0, none⟩ = some (.slice A0_0 l0_0.length c0_0) := (blk_cell BK364.out 0).trans rfl
     have hcz21_1 : wc.cell? ⟨gb364, 1, none⟩ = some (.slice A0_1 l0_1.length c0_1) := (blk_cell BK364.out 1).trans rfl
     have hcz21_2 : wc.cell? ⟨gb364, 2, none⟩ = some (.slice A0_2 l0_2.length c0_2) := (blk_cell BK364.out 2).trans rfl
     have hfz21_0 := blk_frozen BK364.out 0
     have hfz21_1 := blk_frozen BK364.out 1
     have hfz21_2 := blk_frozen BK364.out 2
     go_wp2_with (first | ((with_reducible refine gate_callee (f := 56) rfl ?_); refine goesL_ (some 21) rfl rfl Try.func56 (by kernel_rfl) rfl #[.agg #[.slice A0_0 l0_0.length c0_0, .slice A0_1 l0_1.length c0_1, .slice A0_2 l0_2.length c0_2]] rfl ar ?_; (with_reducible refine (spec_l18Copy.calls _ _ l0_0 _ _ l0_1 _ _ l0_2 t368 t371 t374 _ ?side1 ?side2 ?side3 ?side4 ?side5 ?side6 A19.out).mono ?_); (case side1 => exact cA (Kd.C_below HR0_0.out HB.out)); (case side2 => exact HC0_0.out); (case side3 => exact cA (Kd.C_below HR0_1.out HB.out)); (case side4 => exact HC0_1.out); (case side5 => exact cA (Kd.C_below HR0_2.out HB.out)); (case side6 => exact HC0_2.out); rintro e w22 ⟨v369, v372, v375, rfl, ho0, ho1, ho2, hb⟩; refine ⟨_, rfl, ?_⟩; have n0_ := Aside0.mk (Kd.R_lower ho0 (below_size (hA HB.out))); have n1_ := Aside0.mk (Kd.R_lower ho1 (below_size (hA HB.out))); have n2_ := Aside0.mk (Kd.R_lower ho2 (below_size (hA HB.out))); have n3_ := Aside0.mk (bB BK364.out hb); have n4_ := Aside0.mk (bB BK365.out hb); have n5_ := Aside0.mk (below_step (hA HB.out) hb); clear BK364; clear BK365; clear HB; have HO370 := n0_; have HO373 := n1_; have HO376 := n2_; have BK364 := n3_; have BK365 := n4_; have HB := n5_; clear n0_ n1_ n2_ n3_ n4_ n5_; (try clear hb); (try clear hb2); (try clear hk); (try clear hi); (try clear ho0); (try clear ho1); (try clear ho2); obtain ⟨Ao23, co23, eo23⟩ := Kd.R_slice HO370.out; subst eo23; have hcz24_0 : w22.cell? ⟨gb365, 0, none⟩ = some (.slice none 0 0) := (blk_cell BK365.out 0).trans rfl; have hcz24_1 : w22.cell? ⟨gb365, 1, none⟩ = some (.slice none 0 0) := (blk_cell BK365.out 1).trans rfl; have hcz24_2 : w22.cell? ⟨gb365, 2, none⟩ = some (.slice none 0 0) := (blk_cell BK365.out 2).trans rfl; have hfz24_0 := blk_frozen BK365.out 0; have hfz24_1 := blk_frozen BK365.out 1; have hfz24_2 := blk_frozen BK365.out 2; obtain ⟨Ao25, co25, eo25⟩ := Kd.R_slice HO373.out; subst eo25; obtain ⟨Ao26, co26, eo26⟩ := Kd.R_slice HO376.out; subst eo26))
     refine bodyPost_ret (results_ct rfl _ _ gb365 29 #[.slice Ao23 t368.length co23, .slice Ao25 t371.length co25, .slice Ao26 t374.length co26] (0, 0) _ rfl (by refine bC (a := ?_); refine blk_put (cs := #[.slice Ao23 t368.length co23, .slice Ao25 t371.length co25, .slice none 0 0]) ?_ 2 _ rfl; refine bC (a := ?_); refine blk_put (cs := #[.slice Ao23 t368.length co23, .slice none 0 0, .slice none 0 0]) ?_ 1 _ rfl; refine bC (a := ?_); refine blk_put (cs := #[.slice none 0 0, .slice none 0 0, .slice none 0 0]) ?_ 0 _ rfl; refine bC (a := ?_); exact BK365.out) Try.underlying29 rfl (by kernel_rfl)) rfl ?_
     exact ⟨_, _, _, er, by refine rC (a := ?_); exact Kd.R_mono (Kd.R_far (p := ⟨gb365, 2, none⟩) (Kd.R_far (p := ⟨gb365, 1, none⟩) (Kd.R_far (p := ⟨gb365, 0, none⟩) (Kd.R_types HO370.out BK365.out (by decide)) (fun _ hk => hk.2) (.slice Ao23 t368.length co23)) (fun _ hk => hk.2) (.slice Ao25 t371.length co25)) (fun _ hk => hk.2) (.slice Ao26 t374.length co26)) (fun _ hk => trivial), by refine rC (a := ?_); exact Kd.R_mono (Kd.R_far (p := ⟨gb365, 2, none⟩) (Kd.R_far (p := ⟨gb365, 1, none⟩) (Kd.R_far (p := ⟨gb365, 0, none⟩) (Kd.R_types HO373.out BK365.out (by decide)) (fun _ hk => hk.2) (.slice Ao23 t368.length co23)) (fun _ hk => hk.2) (.slice Ao25 t371.length co25)) (fun _ hk => hk.2) (.slice Ao26 t374.length co26)) (fun _ hk => hk.1), by refine rC (a := ?_); exact Kd.R_mono (Kd.R_far (p := ⟨gb365, 2, none⟩) (Kd.R_far (p := ⟨gb365, 1, none⟩) (Kd.R_far (p := ⟨gb365, 0, none⟩) (Kd.R_types HO376.out BK365.out (by decide)) (fun _ hk => hk.2) (.slice Ao23 t368.length co23)) (fun _ hk => hk.2) (.slice Ao25 t371.length co25)) (fun _ hk => hk.2) (.slice Ao26 t374.length co26)) (fun _ hk => hk.1), hA HB.out⟩
    ·rw [if_neg c18] at H
     have c18b0 : (a1 == 1) = false := beq_eq_false_iff_ne.mpr c18
     have c18b1 : (a1 != 1) = true := bne_iff_ne.mpr c18
     by_cases c27 : a1 = 2
     ·rw [if_pos c27] at H
      have c27b0 : (a1 == 2) = true := beq_iff_eq.mpr c27
      have c27b1 : (a1 != 2) = false := bne_eq_false_iff_eq.mpr c27
      clear c27
      replace H := Option.bind_eq_some_iff.mp H
      obtain ⟨⟨t377, t380, t383, t386⟩, A280, H⟩ := H
      replace H : (some (t377, t380, t383, true)) = some (r1, r2, r3, r4) := H
      have A28 := Aside0.mk A280
      clear A280
      simp only [Option.some.injEq, Prod.mk.injEq] at H
      obtain ⟨rfl, rfl, rfl, rfl⟩ := H
      have hnb29 := NB364_365.out
      have hnc29 := NB365_364.out
      have hcz30_0 : wc.cell? ⟨gb364, 0, none⟩ = some (.slice A0_0 l0_0.length c0_0) := (blk_cell BK364.out 0).trans rfl
      have hcz30_1 : wc.cell? ⟨gb364, 1, none⟩ = some (.slice A0_1 l0_1.length c0_1) := (blk_cell BK364.out 1).trans rfl
      have hcz30_2 : wc.cell? ⟨gb364, 2, none⟩ = some (.slice A0_2 l0_2.length c0_2) := (blk_cell BK364.out 2).trans rfl
      have hfz30_0 := blk_frozen BK364.out 0
      have hfz30_1 := blk_frozen BK364.out 1
      have hfz30_2 := blk_frozen BK364.out 2
      go_wp2_with (first | ((with_reducible refine gate_callee (f := 10) rfl ?_); refine goesL_ (some 26) rfl rfl Try.func10 (by kernel_rfl) rfl #[.agg #[.slice A0_0 l0_0.length c0_0, .slice A0_1 l0_1.length c0_1, .slice A0_2 l0_2.length c0_2]] rfl ar ?_; (with_reducible refine (spec_MendBook.calls kj2 _ _ l0_0 _ _ l0_1 _ _ l0_2 t377 t380 t383 t386 _ ?side1 ?side2 ?side3 ?side4 ?side5 ?side6 A28.out).mono ?_); (case side1 => exact cA (Kd.C_below HR0_0.out HB.out)); (case side2 => exact HC0_0.out); (case side3 => exact cA (Kd.C_below HR0_1.out HB.out)); (case side4 => exact HC0_1.out); (case side5 => exact cA (Kd.C_below HR0_2.out HB.out)); (case side6 => exact HC0_2.out); rintro e w31 ⟨v378, v381, v384, v387, rfl, ho0, ho1, ho2, ho3, hb⟩; refine ⟨_, rfl, ?_⟩; have n0_ := Aside0.mk (Kd.R_lower ho0 (below_size (hA HB.out))); have n1_ := Aside0.mk (Kd.R_lower ho1 (below_size (hA HB.out))); have n2_ := Aside0.mk (Kd.R_lower ho2 (below_size (hA HB.out))); have n3_ := Aside0.mk (Kd.R_lower ho3 (below_size (hA HB.out))); have n4_ := Aside0.mk (bB BK364.out hb); have n5_ := Aside0.mk (bB BK365.out hb); have n6_ := Aside0.mk (below_step (hA HB.out) hb); clear BK364; clear BK365; clear HB; have HO379 := n0_; have HO382 := n1_; have HO385 := n2_; have HO388 := n3_; have BK364 := n4_; have BK365 := n5_; have HB := n6_; clear n0_ n1_ n2_ n3_ n4_ n5_ n6_; (try clear hb); (try clear hb2); (try clear hk); (try clear hi); (try clear ho0); (try clear ho1); (try clear ho2); (try clear ho3)) | ((with_reducible refine gate_dst (N := 6) rfl ?_); refine box_event ?hg (N := 6) ?hd (cs := #[.slice none 0 0, .slice none 0 0, .slice none 0 0]) (t := 29) ?hr ?_; (case hd => rfl); (case hg => rfl); (case hr => first | (go_simp; done) | (go_simp; rfl)); intro gb389 hg w32 hbox hb; have n0_ := Aside0.mk (Kd.R_below (rA HO379.out) hb); have n1_ := Aside0.mk (Kd.R_below (rA HO382.out) hb); have n2_ := Aside0.mk (Kd.R_below (rA HO385.out) hb); have n3_ := Aside0.mk (Kd.R_below (rA HO388.out) hb); have n4_ := Aside0.mk (bB BK364.out hb); have n5_ := Aside0.mk (bB BK365.out hb); have n6_ := Aside0.mk (below_step (hA HB.out) hb); have n7_ := Aside0.mk (hbox); have n8_ := Aside0.mk ((by rw [hg]; exact (below_size (hA HB.out)) : w.heap.size ≤ gb389)); have n9_ := Aside0.mk ((by rw [hg]; exact (below_size (hA HB.out)) : w.heap.size ≤ gb389)); have n10_ := Aside0.mk ((by rw [hg]; exact Nat.ne_of_lt (blk_lt (g := gb364) (o := .cells #[.slice A0_0 l0_0.length c0_0, .slice A0_1 l0_1.length c0_1, .slice A0_2 l0_2.length c0_2] 29 (0, 0)) (bA BK364.out)) : gb364 ≠ gb389)); have n11_ := Aside0.mk ((by rw [hg]; exact Nat.ne_of_gt (blk_lt (g := gb364) (o := .cells #[.slice A0_0 l0_0.length c0_0, .slice A0_1 l0_1.length c0_1, .slice A0_2 l0_2.length c0_2] 29 (0, 0)) (bA BK364.out)) : gb389 ≠ gb364)); have n12_ := Aside0.mk ((by rw [hg]; exact Nat.ne_of_lt (blk_lt (g := gb365) (o := .cells #[.slice none 0 0, .slice none 0 0, .slice none 0 0] 29 (0, 0)) (bA BK365.out)) : gb365 ≠ gb389)); have n13_ := Aside0.mk ((by rw [hg]; exact Nat.ne_of_gt (blk_lt (g := gb365) (o := .cells #[.slice none 0 0, .slice none 0 0, .slice none 0 0] 29 (0, 0)) (bA BK365.out)) : gb389 ≠ gb365)); clear HO379; clear HO382; clear HO385; clear HO388; clear BK364; clear BK365; clear HB; have HO379 := n0_; have HO382 := n1_; have HO385 := n2_; have HO388 := n3_; have BK364 := n4_; have BK365 := n5_; have HB := n6_; have BK389 := n7_; have GW389 := n8_; have GE389 := n9_; have NB364_389 := n10_; have NB389_364 := n11_; have NB365_389 := n12_; have NB389_365 := n13_; clear n0_ n1_ n2_ n3_ n4_ n5_ n6_ n7_ n8_ n9_ n10_ n11_ n12_ n13_; clear hb hbox hg; obtain ⟨Ao33, co33, eo33⟩ := Kd.R_slice HO379.out; subst eo33; have hnb34 := NB389_364.out; have hnc34 := NB364_389.out; have hnb35 := NB389_365.out; have hnc35 := NB365_389.out; have hcz36_0 : w32.cell? ⟨gb389, 0, none⟩ = some (.slice none 0 0) := (blk_cell BK389.out 0).trans rfl; have hcz36_1 : w32.cell? ⟨gb389, 1, none⟩ = some (.slice none 0 0) := (blk_cell BK389.out 1).trans rfl; have hcz36_2 : w32.cell? ⟨gb389, 2, none⟩ = some (.slice none 0 0) := (blk_cell BK389.out 2).trans rfl; have hfz36_0 := blk_frozen BK389.out 0; have hfz36_1 := blk_frozen BK389.out 1; have hfz36_2 := blk_frozen BK389.out 2; obtain ⟨Ao37, co37, eo37⟩ := Kd.R_slice HO382.out; subst eo37; obtain ⟨Ao38, co38, eo38⟩ := Kd.R_slice HO385.out; subst eo38; have hcz39_0 : w32.cell? ⟨gb365, 0, none⟩ = some (.slice none 0 0) := (blk_cell BK365.out 0).trans rfl; have hcz39_1 : w32.cell? ⟨gb365, 1, none⟩ = some (.slice none 0 0) := (blk_cell BK365.out 1).trans rfl; have hcz39_2 : w32.cell? ⟨gb365, 2, none⟩ = some (.slice none 0 0) := (blk_cell BK365.out 2).trans rfl; have hfz39_0 := blk_frozen BK365.out 0; have hfz39_1 := blk_frozen BK365.out 1; have hfz39_2 := blk_frozen BK365.out 2))
      refine bodyPost_ret (results_ct rfl _ _ gb365 29 #[.slice Ao33 t377.length co33, .slice Ao37 t380.length co37, .slice Ao38 t383.length co38] (0, 0) _ rfl (by refine bC (a := ?_); refine blk_put (cs := #[.slice Ao33 t377.length co33, .slice Ao37 t380.length co37, .slice none 0 0]) ?_ 2 _ rfl; refine bC (a := ?_); refine blk_put (cs := #[.slice Ao33 t377.length co33, .slice none 0 0, .slice none 0 0]) ?_ 1 _ rfl; refine bC (a := ?_); refine blk_put (cs := #[.slice none 0 0, .slice none 0 0, .slice none 0 0]) ?_ 0 _ rfl; refine bC (a := ?_); refine blk_far ?_ NB365_389.out _; refine bC (a := ?_); refine blk_far ?_ NB365_389.out _; refine bC (a := ?_); refine blk_far ?_ NB365_389.out _; refine bC (a := ?_); exact BK365.out) Try.underlying29 rfl (by kernel_rfl)) rfl ?_
      exact ⟨_, _, _, er, by refine rC (a := ?_); exact Kd.R_mono (Kd.R_far (p := ⟨gb365, 2, none⟩) (Kd.R_far (p := ⟨gb365, 1, none⟩) (Kd.R_far (p := ⟨gb365, 0, none⟩) (Kd.R_far (p := ⟨gb389, 2, none⟩) (Kd.R_far (p := ⟨gb389, 1, none⟩) (Kd.R_far (p := ⟨gb389, 0, none⟩) (Kd.R_types (Kd.R_types HO379.out BK389.out (by decide)) BK365.out (by decide)) (fun _ hk => hk.1.2) (.slice Ao33 t377.length co33)) (fun _ hk => hk.1.2) (.slice Ao37 t380.length co37)) (fun _ hk => hk.1.2) (.slice Ao38 t383.length co38)) (fun _ hk => hk.2) (.slice Ao33 t377.length co33)) (fun _ hk => hk.2) (.slice Ao37 t380.length co37)) (fun _ hk => hk.2) (.slice Ao38 t383.length co38)) (fun _ hk => trivial), by refine rC (a := ?_); exact Kd.R_mono (Kd.R_far (p := ⟨gb365, 2, none⟩) (Kd.R_far (p := ⟨gb365, 1, none⟩) (Kd.R_far (p := ⟨gb365, 0, none⟩) (Kd.R_far (p := ⟨gb389, 2, none⟩) (Kd.R_far (p := ⟨gb389, 1, none⟩) (Kd.R_far (p := ⟨gb389, 0, none⟩) (Kd.R_types (Kd.R_types HO382.out BK389.out (by decide)) BK365.out (by decide)) (fun _ hk => hk.1.2) (.slice Ao33 t377.length co33)) (fun _ hk => hk.1.2) (.slice Ao37 t380.length co37)) (fun _ hk => hk.1.2) (.slice Ao38 t383.length co38)) (fun _ hk => hk.2) (.slice Ao33 t377.length co33)) (fun _ hk => hk.2) (.slice Ao37 t380.length co37)) (fun _ hk => hk.2) (.slice Ao38 t383.length co38)) (fun _ hk => hk.1.1.1), by refine rC (a := ?_); exact Kd.R_mono (Kd.R_far (p := ⟨gb365, 2, none⟩) (Kd.R_far (p := ⟨gb365, 1, none⟩) (Kd.R_far (p := ⟨gb365, 0, none⟩) (Kd.R_far (p := ⟨gb389, 2, none⟩) (Kd.R_far (p := ⟨gb389, 1, none⟩) (Kd.R_far (p := ⟨gb389, 0, none⟩) (Kd.R_types (Kd.R_types HO385.out BK389.out (by decide)) BK365.out (by decide)) (fun _ hk => hk.1.2) (.slice Ao33 t377.length co33)) (fun _ hk => hk.1.2) (.slice Ao37 t380.length co37)) (fun _ hk => hk.1.2) (.slice Ao38 t383.length co38)) (fun _ hk => hk.2) (.slice Ao33 t377.length co33)) (fun _ hk => hk.2) (.slice Ao37 t380.length co37)) (fun _ hk => hk.2) (.slice Ao38 t383.length co38)) (fun _ hk => hk.1.1.1), hA HB.out⟩
     ·rw [if_neg c27] at H
      have c27b0 : (a1 == 2) = false := beq_eq_false_iff_ne.mpr c27
      have c27b1 : (a1 != 2) = true := bne_iff_ne.mpr c27
      obtain ⟨y390, hy390⟩ : ∃ y_ : List (S50), y_ = (([] : List (S50))) := ⟨_, rfl⟩
      replace H : ((spec_l18Write.f kj2 y390 (l0_1.length : Int) (l0_2.length : Int)).bind fun bt393 => (some (bt393.1, bt393.2.1, bt393.2.2, true))) = some (r1, r2, r3, r4) := by first | (rw [hy390]; with_reducible exact H) | (have H2_ := (Option.bind_some _ _).symm.trans H; rw [hy390]; with_reducible exact H2_) | (have H2_ := (Option.bind_some _ _).symm.trans H; with_reducible exact H2_) | with_reducible exact H | (rw [hy390]; exact H) | exact H
      have Ny390 := Aside0.mk hy390
      clear hy390
      replace H := Option.bind_eq_some_iff.mp H
      obtain ⟨⟨t393, t396, t399⟩, A400, H⟩ := H
      replace H : (some (t393, t396, t399, true)) = some (r1, r2, r3, r4) := H
      have A40 := Aside0.mk A400
      clear A400
      simp only [Option.some.injEq, Prod.mk.injEq] at H
      obtain ⟨rfl, rfl, rfl, rfl⟩ := H
      go_wp2_with (first | ((with_reducible refine gate_dst (N := 30) rfl ?_); refine Kd.R_lit k50 _ 50 ?hg (N := 30) ?hd (xs := ([] : List (S50))) (inner := []) (ok := fun _ => True) (okp := fun _ => True) ?hr ?hp (fun _ hk => hk) trivial (Below.refl _ _) (Nat.le_refl _) (by simp) ?_; (case hd => rfl); (case hg => rfl); (case hr => first | (go_simp; done) | (go_simp; rfl)); (case hp => exact (Reps.none _ _)); intro v391 w41 ho42 hb hg_ hnew_; clear hg_ hnew_; (first | rw [← Ny390.out] at ho42 | (simp only [Int.reduceToNat] at ho42; rw [← Ny390.out] at ho42)); have n0_ := Aside0.mk (Kd.R_lower ho42 (below_size (hA HB.out))); have n1_ := Aside0.mk (bB BK364.out hb); have n2_ := Aside0.mk (bB BK365.out hb); have n3_ := Aside0.mk (below_step (hA HB.out) hb); clear BK364; clear BK365; clear HB; have HO392 := n0_; have BK364 := n1_; have BK365 := n2_; have HB := n3_; clear n0_ n1_ n2_ n3_; clear hb ho42; have hnb43 := NB364_365.out; have hnc43 := NB365_364.out; have hcz44_0 : w41.cell? ⟨gb364, 0, none⟩ = some (.slice A0_0 l0_0.length c0_0) := (blk_cell BK364.out 0).trans rfl; have hcz44_1 : w41.cell? ⟨gb364, 1, none⟩ = some (.slice A0_1 l0_1.length c0_1) := (blk_cell BK364.out 1).trans rfl; have hcz44_2 : w41.cell? ⟨gb364, 2, none⟩ = some (.slice A0_2 l0_2.length c0_2) := (blk_cell BK364.out 2).trans rfl; have hfz44_0 := blk_frozen BK364.out 0; have hfz44_1 := blk_frozen BK364.out 1; have hfz44_2 := blk_frozen BK364.out 2; obtain ⟨Ao45, co45, eo45⟩ := Kd.R_slice HO392.out; subst eo45) | ((with_reducible refine gate_callee (f := 37) rfl ?_); refine goesL_ (some 37) rfl rfl Try.func37 (by kernel_rfl) rfl #[.slice Ao45 y390.length co45, .int .i64 (l0_1.length : Int), .int .i64 (l0_2.length : Int)] rfl ar ?_; (with_reducible refine (spec_l18Write.calls kj2 _ _ y390 (l0_1.length : Int) (l0_2.length : Int) t393 t396 t399 _ w.heap.size _ (rA HO392.out) ?side1 ?side2 A40.out).mono ?_); (case side1 => exact cA (Kd.R_reads' HO392.out).2.2); (case side2 => exact (Kd.R_reads' HO392.out).2.1); rintro e w46 ⟨v394, v397, v400, rfl, ho0, ho1, ho2, hb⟩; refine ⟨_, rfl, ?_⟩; have n0_ := Aside0.mk (Kd.R_below ((rA HO392.out)) hb); have n1_ := Aside0.mk ho0; have n2_ := Aside0.mk (Kd.R_lower ho1 (below_size (hA HB.out))); have n3_ := Aside0.mk (Kd.R_lower ho2 (below_size (hA HB.out))); have n4_ := Aside0.mk (bB BK364.out hb); have n5_ := Aside0.mk (bB BK365.out hb); have n6_ := Aside0.mk (below_step (hA HB.out) hb); clear HO392; clear BK364; clear BK365; clear HB; have HO392 := n0_; have HO395 := n1_; have HO398 := n2_; have HO401 := n3_; have BK364 := n4_; have BK365 := n5_; have HB := n6_; clear n0_ n1_ n2_ n3_ n4_ n5_ n6_; (try clear hb); (try clear hb2); (try clear hk); (try clear hi); (try clear ho0); (try clear ho1); (try clear ho2); obtain ⟨Ao47, co47, eo47⟩ := Kd.R_slice HO395.out; subst eo47; have hcz48_0 : w46.cell? ⟨gb365, 0, none⟩ = some (.slice none 0 0) := (blk_cell BK365.out 0).trans rfl; have hcz48_1 : w46.cell? ⟨gb365, 1, none⟩ = some (.slice none 0 0) := (blk_cell BK365.out 1).trans rfl; have hcz48_2 : w46.cell? ⟨gb365, 2, none⟩ = some (.slice none 0 0) := (blk_cell BK365.out 2).trans rfl; have hfz48_0 := blk_frozen BK365.out 0; have hfz48_1 := blk_frozen BK365.out 1; have hfz48_2 := blk_frozen BK365.out 2; obtain ⟨Ao49, co49, eo49⟩ := Kd.R_slice HO398.out; subst eo49; obtain ⟨Ao50, co50, eo50⟩ := Kd.R_slice HO401.out; subst eo50))
      refine bodyPost_ret (results_ct rfl _ _ gb365 29 #[.slice Ao47 t393.length co47, .slice Ao49 t396.length co49, .slice Ao50 t399.length co50] (0, 0) _ rfl (by refine bC (a := ?_); refine blk_put (cs := #[.slice Ao47 t393.length co47, .slice Ao49 t396.length co49, .slice none 0 0]) ?_ 2 _ rfl; refine bC (a := ?_); refine blk_put (cs := #[.slice Ao47 t393.length co47, .slice none 0 0, .slice none 0 0]) ?_ 1 _ rfl; refine bC (a := ?_); refine blk_put (cs := #[.slice none 0 0, .slice none 0 0, .slice none 0 0]) ?_ 0 _ rfl; refine bC (a := ?_); exact BK365.out) Try.underlying29 rfl (by kernel_rfl)) rfl ?_
      exact ⟨_, _, _, er, by refine rC (a := ?_); exact Kd.R_mono (Kd.R_far (p := ⟨gb365, 2, none⟩) (Kd.R_far (p := ⟨gb365, 1, none⟩) (Kd.R_far (p := ⟨gb365, 0, none⟩) (Kd.R_types HO395.out BK365.out (by decide)) (fun _ hk => hk.2) (.slice Ao47 t393.length co47)) (fun _ hk => hk.2) (.slice Ao49 t396.length co49)) (fun _ hk => hk.2) (.slice Ao50 t399.length co50)) (fun _ hk => trivial), by refine rC (a := ?_); exact Kd.R_mono (Kd.R_far (p := ⟨gb365, 2, none⟩) (Kd.R_far (p := ⟨gb365, 1, none⟩) (Kd.R_far (p := ⟨gb365, 0, none⟩) (Kd.R_types HO398.out BK365.out (by decide)) (fun _ hk => hk.2) (.slice Ao47 t393.length co47)) (fun _ hk => hk.2) (.slice Ao49 t396.length co49)) (fun _ hk => hk.2) (.slice Ao50 t399.length co50)) (fun _ hk => hk.1), by refine rC (a := ?_); exact Kd.R_mono (Kd.R_far (p := ⟨gb365, 2, none⟩) (Kd.R_far (p := ⟨gb365, 1, none⟩) (Kd.R_far (p := ⟨gb365, 0, none⟩) (Kd.R_types HO401.out BK365.out (by decide)) (fun _ hk => hk.2) (.slice Ao47 t393.length co47)) (fun _ hk => hk.2) (.slice Ao49 t396.length co49)) (fun _ hk => hk.2) (.slice Ao50 t399.length co50)) (fun _ hk => hk.1), hA HB.out⟩

end Go.Proofs.Ytngnkfpciloamaa.MFnExactRestart
