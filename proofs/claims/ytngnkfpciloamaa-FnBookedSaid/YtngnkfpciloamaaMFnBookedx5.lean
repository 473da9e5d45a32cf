/- What the code of the law FnBooked answers. -/
import Derived.Test.YtngnkfpciloamaaShortFnBooked
import Derived.Test.YtngnkfpciloamaaMFnBookedx0
import Derived.Test.YtngnkfpciloamaaMFnBookedx3
import Derived.Test.YtngnkfpciloamaaMFnBookedx4
namespace Go.Proofs.Ytngnkfpciloamaa.MFnBooked
open Go.RowKit Go.Proofs.YtngnkfpciloamaaW.PrintWords Go.Proofs.YtngnkfpciloamaaW.PrintLast Go.Proofs.YtngnkfpciloamaaW.PrintMore
attribute [local go_sem] max2_int min2_int max_two min_two max_three min_three max_four min_four
set_option linter.unusedVariables false
set_option linter.unusedSimpArgs false
mutual
def spec_Faults.l0 : Nat → List (S69) → Int → List (S50) → List Int → List Int → Option ((List (S69)))
 | 0, _, _, _, _, _ => none
 | k + 1, x3, x4, x131000, x131001, x131002 => if x4 < (x131000.length : Int) then (spec_Faults.l1 k x3 x4 0 x131000 x131001 x131002) else (spec_Faults.l2 k x3 0 x131000 x131001 x131002)
def spec_Faults.l1 : Nat → List (S69) → Int → Int → List (S50) → List Int → List Int → Option ((List (S69)))
 | 0, _, _, _, _, _, _ => none
 | k + 1, x3, x4, x5, x131000, x131001, x131002 => if x5 < x4 then (if 0 ≤ x4 then (if x4 < (x131000.length : Int) then (if 0 ≤ x5 then (if x5 < (x131000.length : Int) then ((spec_l18Shares.f ((rd_T50 x131000 x4).f0) ((rd_T50 x131000 x4).f1) ((rd_T50 x131000 x4).f2) ((rd_T50 x131000 x5).f0) ((rd_T50 x131000 x5).f1) ((rd_T50 x131000 x5).f2)).bind fun t140 => (if t140 = true then (if x3.length < 8796093022208 then (spec_Faults.l0 k (x3 ++ [(⟨1, x4⟩ : S69)]) (wrap64 (x4 + 1)) x131000 x131001 x131002) else (none)) else (spec_Faults.l1 k x3 x4 (wrap64 (x5 + 1)) x131000 x131001 x131002))) else (none)) else (none)) else (none)) else (none)) else (spec_Faults.l0 k x3 (wrap64 (x4 + 1)) x131000 x131001 x131002)
def spec_Faults.l2 : Nat → List (S69) → Int → List (S50) → List Int → List Int → Option ((List (S69)))
 | 0, _, _, _, _, _ => none
 | k + 1, x3, x6, x131000, x131001, x131002 => if x6 < (x131000.length : Int) then (if 0 ≤ x6 then (if ((rd_T50 x131000 x6).f0) = ((rd_T50 x131000 x6).f1) then (if x3.length < 8796093022208 then (spec_Faults.l2 k (x3 ++ [(⟨2, x6⟩ : S69)]) (wrap64 (x6 + 1)) x131000 x131001 x131002) else (none)) else (spec_Faults.l2 k x3 (wrap64 (x6 + 1)) x131000 x131001 x131002)) else (none)) else ((spec_l18Told.f k x131000 x131001 x131002 x131001 false 3 4).bind fun t149 => (if x3.length + t149.length < 8796093022208 then ((some (x3 ++ t149 : List (S69))).bind fun y152 => ((spec_l18Told.f k x131000 x131001 x131002 x131002 true 5 6).bind fun t155 => (if y152.length + t155.length < 8796093022208 then (some (y152 ++ t155)) else (none)))) else (none)))
end
def spec_Faults.f (k : Nat) (lp : List (S50)) (lq : List Int) (lr : List Int) : Option ((List (S69))) := (some (([] : List (S69)) : List (S69))).bind fun y131 => ((spec_BookOk.f k lp lq lr).bind fun t134 => (if t134 = true then (spec_Faults.l0 k y131 0 lp lq lr) else (if y131.length < 8796093022208 then (some (y131 ++ [(⟨7, 0⟩ : S69)])) else (none))))
theorem spec_Faults.mono_l : ∀ k, (∀ y0 y1 y2 y3 y4, LeO (spec_Faults.l0 k y0 y1 y2 y3 y4) (spec_Faults.l0 (k + 1) y0 y1 y2 y3 y4)) ∧ (∀ y0 y1 y2 y3 y4 y5, LeO (spec_Faults.l1 k y0 y1 y2 y3 y4 y5) (spec_Faults.l1 (k + 1) y0 y1 y2 y3 y4 y5)) ∧ (∀ y0 y1 y2 y3 y4, LeO (spec_Faults.l2 k y0 y1 y2 y3 y4) (spec_Faults.l2 (k + 1) y0 y1 y2 y3 y4))
 | 0 => ⟨fun _ _ _ _ _ r h => by simp [spec_Faults.l0] at h, fun _ _ _ _ _ _ r h => by simp [spec_Faults.l1] at h, fun _ _ _ _ _ r h => by simp [spec_Faults.l2] at h⟩
 | k + 1 => by
  obtain ⟨ih0, ih1, ih2⟩ := spec_Faults.mono_l k
  refine ⟨?_, ?_, ?_⟩
  ·intro y0 y1 y2 y3 y4
   unfold spec_Faults.l0
   repeat' first
   | (with_reducible exact ih0 _ _ _ _ _)
   | (with_reducible exact ih1 _ _ _ _ _ _)
   | (with_reducible exact ih2 _ _ _ _ _)
   | (with_reducible exact spec_BookOk.mono _ _ _ _)
   | (with_reducible exact spec_l18Told.mono _ _ _ _ _ _ _ _)
   | (with_reducible exact LeO.refl _)
   | (with_reducible exact LeO.none _)
   | (with_reducible refine LeO.ite ?_ ?_)
   | (with_reducible refine LeO.bind ?_ (fun _ => ?_))
   | exact ih0 _ _ _ _ _
   | exact ih1 _ _ _ _ _ _
   | exact ih2 _ _ _ _ _
   | exact spec_BookOk.mono _ _ _ _
   | exact spec_l18Told.mono _ _ _ _ _ _ _ _
   | exact LeO.none _
   | refine LeO.ite ?_ ?_
   | refine LeO.bind ?_ (fun _ => ?_)
  ·intro y0 y1 y2 y3 y4 y5
   unfold spec_Faults.l1
   repeat' first
   | (with_reducible exact ih0 _ _ _ _ _)
   | (with_reducible exact ih1 _ _ _ _ _ _)
   | (with_reducible exact ih2 _ _ _ _ _)
   | (with_reducible exact spec_BookOk.mono _ _ _ _)
   | (with_reducible exact spec_l18Told.mono _ _ _ _ _ _ _ _)
   | (with_reducible exact LeO.refl _)
   | (with_reducible exact LeO.none _)
   | (with_reducible refine LeO.ite ?_ ?_)
   | (with_reducible refine LeO.bind ?_ (fun _ => ?_))
   | exact ih0 _ _ _ _ _
   | exact ih1 _ _ _ _ _ _
   | exact ih2 _ _ _ _ _
   | exact spec_BookOk.mono _ _ _ _
   | exact spec_l18Told.mono _ _ _ _ _ _ _ _
   | exact LeO.none _
   | refine LeO.ite ?_ ?_
   | refine LeO.bind ?_ (fun _ => ?_)
  ·intro y0 y1 y2 y3 y4
   unfold spec_Faults.l2
   repeat' first
   | (with_reducible exact ih0 _ _ _ _ _)
   | (with_reducible exact ih1 _ _ _ _ _ _)
   | (with_reducible exact ih2 _ _ _ _ _)
   | (with_reducible exact spec_BookOk.mono _ _ _ _)
   | (with_reducible exact spec_l18Told.mono _ _ _ _ _ _ _ _)
   | (with_reducible exact LeO.refl _)
   | (with_reducible exact LeO.none _)
   | (with_reducible refine LeO.ite ?_ ?_)
   | (with_reducible refine LeO.bind ?_ (fun _ => ?_))
   | exact ih0 _ _ _ _ _
   | exact ih1 _ _ _ _ _ _
   | exact ih2 _ _ _ _ _
   | exact spec_BookOk.mono _ _ _ _
   | exact spec_l18Told.mono _ _ _ _ _ _ _ _
   | exact LeO.none _
   | refine LeO.ite ?_ ?_
   | refine LeO.bind ?_ (fun _ => ?_)
theorem spec_Faults.mono : ∀ a0 a1 a2 k, LeO (spec_Faults.f k a0 a1 a2) (spec_Faults.f (k + 1) a0 a1 a2) := by
 intro a0 a1 a2 k
 obtain ⟨ih0, ih1, ih2⟩ := spec_Faults.mono_l k
 unfold spec_Faults.f
 repeat' first
   | (with_reducible exact ih0 _ _ _ _ _)
   | (with_reducible exact ih1 _ _ _ _ _ _)
   | (with_reducible exact ih2 _ _ _ _ _)
   | (with_reducible exact spec_BookOk.mono _ _ _ _)
   | (with_reducible exact spec_l18Told.mono _ _ _ _ _ _ _ _)
   | (with_reducible exact LeO.refl _)
   | (with_reducible exact LeO.none _)
   | (with_reducible refine LeO.ite ?_ ?_)
   | (with_reducible refine LeO.bind ?_ (fun _ => ?_))
   | exact ih0 _ _ _ _ _
   | exact ih1 _ _ _ _ _ _
   | exact ih2 _ _ _ _ _
   | exact spec_BookOk.mono _ _ _ _
   | exact spec_l18Told.mono _ _ _ _ _ _ _ _
   | exact LeO.none _
   | refine LeO.ite ?_ ?_
   | refine LeO.bind ?_ (fun _ => ?_)
def spec_Faults.T10 : Bool × List (List Nat × List Nat) := (true, [([], []), ([0], [0]), ([], []), ([1, 2], [1, 2]), ([3], [3]), ([], []), ([5], [5]), ([], []), ([6, 7], [6, 7]), ([8], [8]), ([4, 9], [4, 9])])
def spec_Faults.B10 : List Nat := [0, 1, 0, 7, 15, 0, 32, 0, 224, 480, 1023]
theorem spec_Faults.tab10 : rtab .any (opsOf Try.f19 10) = spec_Faults.T10 := by kernel_rfl
theorem spec_Faults.bits10 : waitsOk spec_Faults.T10.2 spec_Faults.B10 = true := by kernel_rfl
def spec_Faults.T15 : Bool × List (List Nat × List Nat) := (true, [([], []), ([0], [0]), ([], []), ([1, 2], [1, 2]), ([3], [3]), ([4], [4]), ([], []), ([6], [6]), ([], []), ([7, 8], [7, 8]), ([9], [9]), ([10], [10]), ([5, 11], [5, 11])])
def spec_Faults.B15 : List Nat := [0, 1, 0, 7, 15, 31, 0, 64, 0, 448, 960, 1984, 4095]
theorem spec_Faults.tab15 : rtab .any (opsOf Try.f19 15) = spec_Faults.T15 := by kernel_rfl
theorem spec_Faults.bits15 : waitsOk spec_Faults.T15.2 spec_Faults.B15 = true := by kernel_rfl
set_option maxHeartbeats 8000000 in
set_option maxRecDepth 100000 in
theorem spec_Faults.calls (k : Nat) (Ap : Option Addr) (cp : Nat) (lp : List (S50)) (Aq : Option Addr) (cq : Nat) (lq : List Int) (Ar : Option Addr) (cr : Nat) (lr : List Int) (r : List (S69)) (w : World) (hr0_0 : Kd.C k50 w Ap lp.length lp) (hc0_0 : lp.length ≤ cp) (hr0_1 : Kd.C (Kd.int .i64) w Aq lq.length lq) (hc0_1 : lq.length ≤ cq) (hr0_2 : Kd.C (Kd.int .i64) w Ar lr.length lr) (hc0_2 : lr.length ≤ cr) (h : spec_Faults.f k lp lq lr = some r) :
  Calls Try.prog 19 #[.agg #[.slice Ap lp.length cp, .slice Aq lq.length cq, .slice Ar lr.length cr]] w fun e w' => ∃ v0_ : Value, e = .returned (v0_) ∧ Kd.R k69 69 w' w.heap.size (fun _ => True) v0_ r ∧ Below w.heap.size w w' := by
 have hu29 := Try.underlying29
 have hu69 := Try.underlying69
 have hu50 := Try.underlying50
 have HR0_0 := mk0 hr0_0
 have HC0_0 := mk0 hc0_0
 clear hr0_0 hc0_0
 have HR0_1 := mk0 hr0_1
 have HC0_1 := mk0 hc0_1
 clear hr0_1 hc0_1
 have HR0_2 := mk0 hr0_2
 have HC0_2 := mk0 hc0_2
 clear hr0_2 hc0_2
 have HB := mk0 (Below.refl w.heap.size w)
 have H : ((some (([] : List (S69)) : List (S69))).bind fun y131 => ((spec_BookOk.f k lp lq lr).bind fun t134 => (if t134 = true then (spec_Faults.l0 k y131 0 lp lq lr) else (if y131.length < 8796093022208 then (some (y131 ++ [(⟨7, 0⟩ : S69)])) else (none))))) = some r := h
 clear h
 obtain ⟨y131, hy131⟩ : ∃ y_ : List (S69), y_ = (([] : List (S69))) := ⟨_, rfl⟩
 replace H : ((spec_BookOk.f k lp lq lr).bind fun t134 => (if t134 = true then (spec_Faults.l0 k y131 0 lp lq lr) else (if y131.length < 8796093022208 then (some (y131 ++ [(⟨7, 0⟩ : S69)])) else (none)))) = some r := by first | (rw [hy131]; with_reducible exact H) | (have H2_ := (Option.bind_some _ _).symm.trans H; rw [hy131]; with_reducible exact H2_) | (have H2_ := (Option.bind_some _ _).symm.trans H; with_reducible exact H2_) | with_reducible exact H | (rw [hy131]; exact H) | exact H
 have Ny131 := mk0 hy131
 clear hy131
 replace H := Option.bind_eq_some_iff.mp H
 obtain ⟨t134, A20, H⟩ := H
 replace H : (if t134 = true then (spec_Faults.l0 k y131 0 lp lq lr) else (if y131.length < 8796093022208 then (some (y131 ++ [(⟨7, 0⟩ : S69)])) else (none))) = some r := H
 have A2 := mk0 A20
 clear A20
 by_cases c3 : t134 = true
 ·subst c3
  have H1 : (spec_Faults.l0 k y131 0 lp lq lr) = some r := by rw [if_pos rfl] at H; exact H
  clear H
  have H := H1
  clear H1
  have H' := mk0 H
  clear H
  go_enter Try.func19, Try.ntmps19
  go_wp2_with (first | ((with_reducible refine gate_dst (N := 1) rfl ?_); refine box_event ?hg (N := 1) ?hd (cs := #[.slice Ap lp.length cp, .slice Aq lq.length cq, .slice Ar lr.length cr]) (t := 29) ?hr ?_; (case hd | hg => rfl); (case hr => first | (go_simp; done) | (go_simp; rfl)); intro gb130 hg w4 hbox hb; have n0_ := mk0 (below_step (hA HB.out) hb); have n1_ := mk0 (hbox); have n2_ := mk0 ((by rw [hg]; exact (below_size (hA HB.out)) : w.heap.size ≤ gb130)); have n3_ := mk0 ((by rw [hg]; exact (below_size (hA HB.out)) : w.heap.size ≤ gb130)); clear HB; have HB := n0_; have BK130 := n1_; have GW130 := n2_; have GE130 := n3_; clear n0_ n1_ n2_ n3_; clear hb hbox hg) | ((with_reducible refine gate_dst (N := 7) rfl ?_); refine Kd.R_lit k69 _ 69 ?hg (N := 7) ?hd (xs := ([] : List (S69))) (inner := []) (ok := fun _ => True) (okp := fun _ => True) ?hr ?hp (fun _ hk => hk) trivial (Below.refl _ _) (Nat.le_refl _) (by simp) ?_; (case hd | hg => rfl); (case hr => first | (go_simp; done) | (go_simp; rfl)); (case hp => exact (Reps.none _ _)); intro v132 w5 ho6 hb hg_ hnew_; clear hg_ hnew_; (first | rw [← Ny131.out] at ho6 | (simp only [Int.reduceToNat] at ho6; rw [← Ny131.out] at ho6)); have n0_ := mk0 (Kd.R_lower ho6 (below_size (hA HB.out))); have n1_ := mk0 (bB BK130.out hb); have n2_ := mk0 (below_step (hA HB.out) hb); clear BK130; clear HB; have HO133 := n0_; have BK130 := n1_; have HB := n2_; clear n0_ n1_ n2_; clear hb ho6; have hcz7_0 : w5.cell? ⟨gb130, 0, none⟩ = some (.slice Ap lp.length cp) := (blk_cell BK130.out 0).trans rfl; have hcz7_1 : w5.cell? ⟨gb130, 1, none⟩ = some (.slice Aq lq.length cq) := (blk_cell BK130.out 1).trans rfl; have hcz7_2 : w5.cell? ⟨gb130, 2, none⟩ = some (.slice Ar lr.length cr) := (blk_cell BK130.out 2).trans rfl; have hfz7_0 := blk_frozen BK130.out 0; have hfz7_1 := blk_frozen BK130.out 1; have hfz7_2 := blk_frozen BK130.out 2) | ((with_reducible refine gate_callee (f := 27) rfl ?_); refine goesL_ (some 9) rfl rfl Try.func27 (by kernel_rfl) rfl #[.agg #[.slice Ap lp.length cp, .slice Aq lq.length cq, .slice Ar lr.length cr]] rfl ar ?_; (with_reducible refine (spec_BookOk.calls k _ _ lp _ _ lq _ _ lr true _ ?side1 ?side2 ?side3 ?side4 ?side5 ?side6 A2.out).mono ?_); (case side1 => exact cA (Kd.C_below HR0_0.out HB.out)); (case side2 => exact HC0_0.out); (case side3 => exact cA (Kd.C_below HR0_1.out HB.out)); (case side4 => exact HC0_1.out); (case side5 => exact cA (Kd.C_below HR0_2.out HB.out)); (case side6 => exact HC0_2.out); rintro e w8 ⟨rfl, hb⟩; refine ⟨_, rfl, ?_⟩; have n0_ := mk0 (Kd.R_below (rA HO133.out) hb); have n1_ := mk0 (bB BK130.out hb); have n2_ := mk0 (below_step (hA HB.out) hb); clear HO133; clear BK130; clear HB; have HO133 := n0_; have BK130 := n1_; have HB := n2_; clear n0_ n1_ n2_; (try clear hb); (try clear hb2); (try clear hk); (try clear hi)))
  go_loopg [3, 4] k (fun kq v3 v4 w' => ∃ (x3_1 : List (S69)) (x4_1 : Int), v4 = .int .i64 x4_1 ∧ Aside0 (spec_Faults.l0 kq x3_1 x4_1 lp lq lr = some r) ∧ Aside0 (kq ≤ k) ∧ Aside0 (Kd.R k69 69 w' w.heap.size (fun _ => True) v3 x3_1) ∧ Aside0 (w'.heap[gb130]? = some (.cells #[(.slice Ap lp.length cp), (.slice Aq lq.length cq), (.slice Ar lr.length cr)] 29 (0, 0))) ∧ Aside0 (Below w.heap.size w w'))
  case atStart => exact ⟨(y131), (0), rs, H', ⟨Nat.le_refl _⟩, ⟨by refine rC (a := ?_); exact HO133.out⟩, ⟨by refine bC (a := ?_); exact BK130.out⟩, ⟨hA HB.out⟩⟩
  case round =>
   clear H'
   (try clear c1); (try clear c2); (try clear p2); (try clear c3); (try clear hcz7_0); (try clear hcz7_1); (try clear hcz7_2); (try clear hfz7_0); (try clear hfz7_1); (try clear hfz7_2)
   obtain ⟨x3_1, x4_1, rfl, HA, HK1, HO_3, BK130, HB⟩ := hrel
   cases gk with
   | zero => exact absurd HA.out (by simp [spec_Faults.l0])
   | succ k1 =>
    have H := HA.out
    clear HA
    simp only [spec_Faults.l0] at H
    by_cases c9 : x4_1 < (lp.length : Int)
    ·rw [if_pos c9] at H
     have c9b0 : decide (x4_1 < (lp.length : Int)) = true := decide_eq_true c9
     clear c9
     have H' := mk0 H
     clear H
     have hcz10_0 : wr.cell? ⟨gb130, 0, none⟩ = some (.slice Ap lp.length cp) := (blk_cell BK130.out 0).trans rfl
     have hcz10_1 : wr.cell? ⟨gb130, 1, none⟩ = some (.slice Aq lq.length cq) := (blk_cell BK130.out 1).trans rfl
     have hcz10_2 : wr.cell? ⟨gb130, 2, none⟩ = some (.slice Ar lr.length cr) := (blk_cell BK130.out 2).trans rfl
     have hfz10_0 := blk_frozen BK130.out 0
     have hfz10_1 := blk_frozen BK130.out 1
     have hfz10_2 := blk_frozen BK130.out 2
     go_wp2
     go_loopg [3, 5] k1 (fun kq v3 v5 w' => ∃ (x3_2 : List (S69)) (x5_2 : Int), v5 = .int .i64 x5_2 ∧ Aside0 (spec_Faults.l1 kq x3_2 x4_1 x5_2 lp lq lr = some r) ∧ Aside0 (kq ≤ k1) ∧ Aside0 (Kd.R k69 69 w' w.heap.size (fun _ => True) v3 x3_2) ∧ Aside0 (w'.heap[gb130]? = some (.cells #[(.slice Ap lp.length cp), (.slice Aq lq.length cq), (.slice Ar lr.length cr)] 29 (0, 0))) ∧ Aside0 (Below w.heap.size w w'))
     case atStart => exact ⟨(x3_1), (0), rs, H', ⟨Nat.le_refl _⟩, ⟨by refine rC (a := ?_); exact HO_3.out⟩, ⟨by refine bC (a := ?_); exact BK130.out⟩, ⟨hA HB.out⟩⟩
     case round =>
      clear H'
      (try clear c1); (try clear c2); (try clear p2); (try clear c3); (try clear c9); (try clear c9b0); (try clear hcz10_0); (try clear hcz10_1); (try clear hcz10_2); (try clear hcz7_0); (try clear hcz7_1); (try clear hcz7_2); (try clear hfz10_0); (try clear hfz10_1); (try clear hfz10_2); (try clear hfz7_0); (try clear hfz7_1); (try clear hfz7_2); (try clear p2)
      obtain ⟨x3_2, x5_2, rfl, HA, HK2, HO_3, BK130, HB⟩ := hrel
      cases gk with
      | zero => exact absurd HA.out (by simp [spec_Faults.l1])
      | succ k2 =>
       have H := HA.out
       clear HA
       simp only [spec_Faults.l1] at H
       by_cases c11 : x5_2 < x4_1
       ·rw [if_pos c11] at H
        have c11b0 : decide (x5_2 < x4_1) = true := decide_eq_true c11
        clear c11
        by_cases c12 : 0 ≤ x4_1
        ·rw [if_pos c12] at H
         have c12b0 : decide (0 ≤ x4_1) = true := decide_eq_true c12
         clear c12
         by_cases c13 : x4_1 < (lp.length : Int)
         ·rw [if_pos c13] at H
          have c13b0 : decide (x4_1 < (lp.length : Int)) = true := decide_eq_true c13
          clear c13
          by_cases c14 : 0 ≤ x5_2
          ·rw [if_pos c14] at H
           have c14b0 : decide (0 ≤ x5_2) = true := decide_eq_true c14
           clear c14
           by_cases c15 : x5_2 < (lp.length : Int)
           ·rw [if_pos c15] at H
            have c15b0 : decide (x5_2 < (lp.length : Int)) = true := decide_eq_true c15
            clear c15
            replace H := Option.bind_eq_some_iff.mp H
            obtain ⟨t140, A160, H⟩ := H
            replace H : (if t140 = true then (if x3_2.length < 8796093022208 then (spec_Faults.l0 k2 (x3_2 ++ [(⟨1, x4_1⟩ : S69)]) (wrap64 (x4_1 + 1)) lp lq lr) else (none)) else (spec_Faults.l1 k2 x3_2 x4_1 (wrap64 (x5_2 + 1)) lp lq lr)) = some r := H
            have A16 := mk0 A160
            clear A160
            by_cases c17 : t140 = true
            ·subst c17
             have H1 : (if x3_2.length < 8796093022208 then (spec_Faults.l0 k2 (x3_2 ++ [(⟨1, x4_1⟩ : S69)]) (wrap64 (x4_1 + 1)) lp lq lr) else (none)) = some r := by rw [if_pos rfl] at H; exact H
             clear H
             have H := H1
             clear H1
             by_cases c18 : x3_2.length < 8796093022208
             ·rw [if_pos c18] at H
              have LMc18 := mk0 c18
              clear c18
              obtain ⟨y141, hy141⟩ : ∃ y_ : List (S69), y_ = (x3_2 ++ [(⟨1, x4_1⟩ : S69)]) := ⟨_, rfl⟩
              replace H : (spec_Faults.l0 k2 y141 (wrap64 (x4_1 + 1)) lp lq lr) = some r := by first | (rw [hy141]; with_reducible exact H) | (have H2_ := (Option.bind_some _ _).symm.trans H; rw [hy141]; with_reducible exact H2_) | (have H2_ := (Option.bind_some _ _).symm.trans H; with_reducible exact H2_) | with_reducible exact H | (rw [hy141]; exact H) | exact H
              have Ny141 := mk0 hy141
              clear hy141
              have H' := mk0 H
              clear H
              try go_wp2
              have n0_ := mk0 (Kd.R_drew HO_3.out)
              have n1_ := mk0 (blk_drew BK130.out)
              have n2_ := mk0 (below_drew1 HB.out)
              clear HO_3
              clear BK130
              clear HB
              have HO_3 := n0_
              have BK130 := n1_
              have HB := n2_
              clear n0_ n1_ n2_
              have p138 : 0 ≤ (x4_1 : Int) := of_decide_eq_true sm
              have q138 : x4_1 < (lp.length : Int) := of_decide_eq_true sm
              obtain ⟨ad138, e138, hx138_0, hx138_1, hx138_2⟩ := at_T50 HR0_0.out x4_1 p138 q138
              have hw138_2 := hx138_2
              have hw138_1 := hx138_1
              have hw138_0 := hx138_0
              cases e138
              try (replace hx138_0 := (HB.out.cell (World.block_lt_of_cell? w _ hx138_0)).trans hx138_0)
              try (replace hx138_1 := (HB.out.cell (World.block_lt_of_cell? w _ hx138_1)).trans hx138_1)
              try (replace hx138_2 := (HB.out.cell (World.block_lt_of_cell? w _ hx138_2)).trans hx138_2)
              replace p138 := eq_true p138
              replace q138 := eq_true q138
              have p139 : 0 ≤ (x5_2 : Int) := of_decide_eq_true sm
              have q139 : x5_2 < (lp.length : Int) := of_decide_eq_true sm
              obtain ⟨ad139, e139, hx139_0, hx139_1, hx139_2⟩ := at_T50 HR0_0.out x5_2 p139 q139
              have hw139_2 := hx139_2
              have hw139_1 := hx139_1
              have hw139_0 := hx139_0
              obtain rfl : ad138 = ad139 := (by injection e139)
              try (replace hx139_0 := (HB.out.cell (World.block_lt_of_cell? w _ hx139_0)).trans hx139_0)
              try (replace hx139_1 := (HB.out.cell (World.block_lt_of_cell? w _ hx139_1)).trans hx139_1)
              try (replace hx139_2 := (HB.out.cell (World.block_lt_of_cell? w _ hx139_2)).trans hx139_2)
              replace p139 := eq_true p139
              replace q139 := eq_true q139
              refine start_ (n := 11) (S := fun w' => w'.cell? ⟨gb130, 0, none⟩ = some (.slice (some ad138) lp.length cp) ∧ w'.cell? ⟨gb130, 1, none⟩ = some (.slice Aq lq.length cq) ∧ w'.cell? ⟨gb130, 2, none⟩ = some (.slice Ar lr.length cr) ∧ w'.cell? (ad138.add ((x4_1).toNat * 3)) = some (.int .i64 ((rd_T50 lp x4_1).f0)) ∧ w'.cell? ⟨(ad138.add ((x4_1).toNat * 3)).block, (ad138.add ((x4_1).toNat * 3)).off + 1, none⟩ = some (.int .i64 ((rd_T50 lp x4_1).f1)) ∧ w'.cell? ⟨(ad138.add ((x4_1).toNat * 3)).block, (ad138.add ((x4_1).toNat * 3)).off + 2, none⟩ = some (.int .i64 ((rd_T50 lp x4_1).f2)) ∧ w'.cell? (ad138.add ((x5_2).toNat * 3)) = some (.int .i64 ((rd_T50 lp x5_2).f0)) ∧ w'.cell? ⟨(ad138.add ((x5_2).toNat * 3)).block, (ad138.add ((x5_2).toNat * 3)).off + 1, none⟩ = some (.int .i64 ((rd_T50 lp x5_2).f1)) ∧ w'.cell? ⟨(ad138.add ((x5_2).toNat * 3)).block, (ad138.add ((x5_2).toNat * 3)).off + 2, none⟩ = some (.int .i64 ((rd_T50 lp x5_2).f2))) (ds := []) #[O,O,O,O,O,O,O,O,O,O,O] (by kernel_rfl) rfl rfl ⟨(blk_cell BK130.out 0).trans rfl, (blk_cell BK130.out 1).trans rfl, (blk_cell BK130.out 2).trans rfl, ((HB.out.cell (World.block_lt_of_cell? w _ hw138_0)).trans hw138_0), ((HB.out.cell (World.block_lt_of_cell? w _ hw138_1)).trans hw138_1), ((HB.out.cell (World.block_lt_of_cell? w _ hw138_2)).trans hw138_2), ((HB.out.cell (World.block_lt_of_cell? w _ hw139_0)).trans hw139_0), ((HB.out.cell (World.block_lt_of_cell? w _ hw139_1)).trans hw139_1), ((HB.out.cell (World.block_lt_of_cell? w _ hw139_2)).trans hw139_2)⟩ (fun hHeld => ?_); refine with_tabW spec_Faults.tab10 spec_Faults.bits10 (fun HT_ HW_ => ?_)
              generalize wr.drew = w19 at HO_3 BK130 HB hx138_0 hx138_1 hx138_2 hx139_0 hx139_1 hx139_2 hHeld ⊢
              refine pure_ (i := 0) (N := some 27) (v := ?_) (a' := ?_) #[I,O,O,O,O,O,O,O,O,O,O] rfl rfl (any_of HT_.out (by kernel_rfl)) (fun _ _ _ h => h) (Or.inl ⟨by rfl, ?_⟩) ?_ ?_
              rotate_left
              ·intro w'
               go_simp
               with_reducible rfl
              rotate_left
              ·simp only [Act.put, s1, s2, s3, i64_w]
               rfl
              refine pure_ (i := 2) (N := some 29) (v := ?_) (a' := ?_) #[I,O,I,O,O,O,O,O,O,O,O] rfl rfl (any_of HT_.out (by kernel_rfl)) (fun _ _ _ h => h) (Or.inl ⟨by rfl, ?_⟩) ?_ ?_
              rotate_left
              ·intro w'
               go_simp
               with_reducible rfl
              rotate_left
              ·simp only [Act.put, s1, s2, s3, i64_w]
               rfl
              refine pure_ (i := 5) (N := some 32) (v := ?_) (a' := ?_) #[I,O,I,O,O,I,O,O,O,O,O] rfl rfl (any_of HT_.out (by kernel_rfl)) (fun _ _ _ h => h) (Or.inl ⟨by rfl, ?_⟩) ?_ ?_
              rotate_left
              ·intro w'
               go_simp
               with_reducible rfl
              rotate_left
              ·simp only [Act.put, s1, s2, s3, i64_w]
               rfl
              refine pure_ (i := 7) (N := some 34) (v := ?_) (a' := ?_) #[I,O,I,O,O,I,O,I,O,O,O] rfl rfl (any_of HT_.out (by kernel_rfl)) (fun _ _ _ h => h) (Or.inl ⟨by rfl, ?_⟩) ?_ ?_
              rotate_left
              ·intro w'
               go_simp
               with_reducible rfl
              rotate_left
              ·simp only [Act.put, s1, s2, s3, i64_w]
               rfl
              refine take_ (i := 1) (N := some 28) (v := ?_) (a' := ?_) #[I,I,I,O,O,I,O,I,O,O,O] rfl rfl (take_ofW HT_.out HW_.out (by kernel_rfl)) (fun _ _ _ h => h) (Or.inl ⟨by rfl, ?_⟩) hHeld ?_ ?_
              rotate_left
              ·rintro w' ⟨s0, s1, s2, s3, s4, s5, s6, s7, s8⟩
               go_simp
               with_reducible rfl
              rotate_left
              ·simp only [Act.put, s1, s2, s3, i64_w]
               rfl
              refine pure_ (i := 3) (N := some 30) (v := ?_) (a' := ?_) #[I,I,I,I,O,I,O,I,O,O,O] rfl rfl (any_of HT_.out (by kernel_rfl)) (fun _ _ _ h => h) (Or.inl ⟨by rfl, ?_⟩) ?_ ?_
              rotate_left
              ·intro w'
               go_simp
               with_reducible rfl
              rotate_left
              ·simp only [Act.put, s1, s2, s3, i64_w]
               rfl
              refine take_ (i := 4) (N := some 31) (v := ?_) (a' := ?_) #[I,I,I,I,I,I,O,I,O,O,O] rfl rfl (take_ofW HT_.out HW_.out (by kernel_rfl)) (fun _ _ _ h => h) (Or.inl ⟨by rfl, ?_⟩) hHeld ?_ ?_
              rotate_left
              ·rintro w' ⟨s0, s1, s2, s3, s4, s5, s6, s7, s8⟩
               go_simp
               with_reducible rfl
              rotate_left
              ·simp only [Act.put, s1, s2, s3, i64_w]
               rfl
              refine take_ (i := 6) (N := some 33) (v := ?_) (a' := ?_) #[I,I,I,I,I,I,I,I,O,O,O] rfl rfl (take_ofW HT_.out HW_.out (by kernel_rfl)) (fun _ _ _ h => h) (Or.inl ⟨by rfl, ?_⟩) hHeld ?_ ?_
              rotate_left
              ·rintro w' ⟨s0, s1, s2, s3, s4, s5, s6, s7, s8⟩
               go_simp
               with_reducible rfl
              rotate_left
              ·simp only [Act.put, s1, s2, s3, i64_w]
               rfl
              refine pure_ (i := 8) (N := some 35) (v := ?_) (a' := ?_) #[I,I,I,I,I,I,I,I,I,O,O] rfl rfl (any_of HT_.out (by kernel_rfl)) (fun _ _ _ h => h) (Or.inl ⟨by rfl, ?_⟩) ?_ ?_
              rotate_left
              ·intro w'
               go_simp
               with_reducible rfl
              rotate_left
              ·simp only [Act.put, s1, s2, s3, i64_w]
               rfl
              refine take_ (i := 9) (N := some 36) (v := ?_) (a' := ?_) #[I,I,I,I,I,I,I,I,I,I,O] rfl rfl (take_ofW HT_.out HW_.out (by kernel_rfl)) (fun _ _ _ h => h) (Or.inl ⟨by rfl, ?_⟩) hHeld ?_ ?_
              rotate_left
              ·rintro w' ⟨s0, s1, s2, s3, s4, s5, s6, s7, s8⟩
               go_simp
               with_reducible rfl
              rotate_left
              ·simp only [Act.put, s1, s2, s3, i64_w]
               rfl
              refine one_ (i := 10) (N := some 37) #[I,I,I,I,I,I,I,I,I,I,I] rfl rfl (one_of HT_.out (by kernel_rfl)) (by decide) (fun K hK => ?_)
              refine goes_ Try.func36 (by kernel_rfl) rfl #[.agg #[.int .i64 ((rd_T50 lp x4_1).f0), .int .i64 ((rd_T50 lp x4_1).f1), .int .i64 ((rd_T50 lp x4_1).f2)], .agg #[.int .i64 ((rd_T50 lp x5_2).f0), .int .i64 ((rd_T50 lp x5_2).f1), .int .i64 ((rd_T50 lp x5_2).f2)]] (by rfl) rfl rfl ar ?_
              with_reducible refine (spec_l18Shares.calls ((rd_T50 lp x4_1).f0) ((rd_T50 lp x4_1).f1) ((rd_T50 lp x4_1).f2) ((rd_T50 lp x5_2).f0) ((rd_T50 lp x5_2).f1) ((rd_T50 lp x5_2).f2) true _ A16.out).mono ?_
              rintro e w20 ⟨rfl, hb⟩
              refine ⟨_, rfl, ?_⟩
              have n0_ := mk0 (Kd.R_below (rA HO_3.out) hb)
              have n1_ := mk0 (bB BK130.out hb)
              have n2_ := mk0 (below_step (hA HB.out) hb)
              clear HO_3
              clear BK130
              clear HB
              have HO_3 := n0_
              have BK130 := n1_
              have HB := n2_
              clear n0_ n1_ n2_
              (try clear hb); (try clear hb2); (try clear hk); (try clear hi)
              refine hK.out _ _ ⟨(blk_cell BK130.out 0).trans rfl, (blk_cell BK130.out 1).trans rfl, (blk_cell BK130.out 2).trans rfl, ((HB.out.cell (World.block_lt_of_cell? w _ hw138_0)).trans hw138_0), ((HB.out.cell (World.block_lt_of_cell? w _ hw138_1)).trans hw138_1), ((HB.out.cell (World.block_lt_of_cell? w _ hw138_2)).trans hw138_2), ((HB.out.cell (World.block_lt_of_cell? w _ hw139_0)).trans hw139_0), ((HB.out.cell (World.block_lt_of_cell? w _ hw139_1)).trans hw139_1), ((HB.out.cell (World.block_lt_of_cell? w _ hw139_2)).trans hw139_2)⟩ (fun hHeld => ?_)
              clear hK K
              refine norm_ (a' := ?_) ?_ ?_
              rotate_left
              ·show Act.put _ (some 37) _ = _
               simp only [Act.put, s1, s2, s3, i64_w]
               rfl
              refine done_ (done_of HT_.out (by kernel_rfl)) ?_
              try go_wp2_with (first | ((with_reducible refine gate_builtin (b := .append) (xs := #[.tmp 38, .tmp 41]) rfl ?_); at_builtin; refine Kd.R_append k69 (w0 := w) w.heap.size rfl (.tmp 38) (.tmp 41) 38 69 (.agg #[(.int .i64 0), (.int .i64 0)]) 16 rfl Try.underlying38 info69 rfl (by decide) (by omega) u3 x3_2 (⟨1, x4_1⟩ : S69) [.int .i64 1, .int .i64 x4_1] (fun _ => True) (fun _ => False) rfl rfl ?aP (fun _ hk => hk.elim) ?aF ?aO ?aB ?aS ?aL ?_; (case aP => exact k69_mkM _ _ _ (⟨1, x4_1⟩ : S69)); (case aB => exact (hA HB.out)); (case aF => exact (fun _ _ => trivial)); (case aO => exact (rA HO_3.out)); (case aS => exact (below_size (hA HB.out))); (case aL => have := LMc18.out; omega); intro v142 w21 ho hb hg hat; rw [← Ny141.out] at ho; have n0_ := mk0 (blk_grown (g := gb130) (o := .cells #[.slice (some ad138) lp.length cp, .slice Aq lq.length cq, .slice Ar lr.length cr] 29 (0, 0)) (bA BK130.out) hg (Kd.R_ne HO_3.out BK130.out (by decide))); have n1_ := mk0 (hb); have n2_ := mk0 (ho); clear BK130; clear HB; clear HO_3; have BK130 := n0_; have HB := n1_; have HO143 := n2_; clear n0_ n1_ n2_; clear ho hb hg hat))
              go_roundg k2
              case measure => have := HK1.out; have := HK2.out; omega
              case rel => exact ⟨(y141), (wrap64 (x4_1 + 1)), rs, H', ⟨by have := HK1.out; have := HK2.out; omega⟩, ⟨by refine rC (a := ?_); exact HO143.out⟩, ⟨by refine bC (a := ?_); exact BK130.out⟩, ⟨hA HB.out⟩⟩
             ·rw [if_neg c18] at H
              exact absurd H (by simp)
            ·replace c17 := Bool.eq_false_iff.mpr c17
             subst c17
             have H1 : (spec_Faults.l1 k2 x3_2 x4_1 (wrap64 (x5_2 + 1)) lp lq lr) = some r := by rw [if_neg (show ¬ (false = true) by decide)] at H; exact H
             clear H
             have H := H1
             clear H1
             have H' := mk0 H
             clear H
             try go_wp2
             have n0_ := mk0 (Kd.R_drew HO_3.out)
             have n1_ := mk0 (blk_drew BK130.out)
             have n2_ := mk0 (below_drew1 HB.out)
             clear HO_3
             clear BK130
             clear HB
             have HO_3 := n0_
             have BK130 := n1_
             have HB := n2_
             clear n0_ n1_ n2_
             have p138 : 0 ≤ (x4_1 : Int) := of_decide_eq_true sm
             have q138 : x4_1 < (lp.length : Int) := of_decide_eq_true sm
             obtain ⟨ad138, e138, hx138_0, hx138_1, hx138_2⟩ := at_T50 HR0_0.out x4_1 p138 q138
             have hw138_2 := hx138_2
             have hw138_1 := hx138_1
             have hw138_0 := hx138_0
             cases e138
             try (replace hx138_0 := (HB.out.cell (World.block_lt_of_cell? w _ hx138_0)).trans hx138_0)
             try (replace hx138_1 := (HB.out.cell (World.block_lt_of_cell? w _ hx138_1)).trans hx138_1)
             try (replace hx138_2 := (HB.out.cell (World.block_lt_of_cell? w _ hx138_2)).trans hx138_2)
             replace p138 := eq_true p138
             replace q138 := eq_true q138
             have p139 : 0 ≤ (x5_2 : Int) := of_decide_eq_true sm
             have q139 : x5_2 < (lp.length : Int) := of_decide_eq_true sm
             obtain ⟨ad139, e139, hx139_0, hx139_1, hx139_2⟩ := at_T50 HR0_0.out x5_2 p139 q139
             have hw139_2 := hx139_2
             have hw139_1 := hx139_1
             have hw139_0 := hx139_0
             obtain rfl : ad138 = ad139 := (by injection e139)
             try (replace hx139_0 := (HB.out.cell (World.block_lt_of_cell? w _ hx139_0)).trans hx139_0)
             try (replace hx139_1 := (HB.out.cell (World.block_lt_of_cell? w _ hx139_1)).trans hx139_1)
             try (replace hx139_2 := (HB.out.cell (World.block_lt_of_cell? w _ hx139_2)).trans hx139_2)
             replace p139 := eq_true p139
             replace q139 := eq_true q139
             refine start_ (n := 11) (S := fun w' => w'.cell? ⟨gb130, 0, none⟩ = some (.slice (some ad138) lp.length cp) ∧ w'.cell? ⟨gb130, 1, none⟩ = some (.slice Aq lq.length cq) ∧ w'.cell? ⟨gb130, 2, none⟩ = some (.slice Ar lr.length cr) ∧ w'.cell? (ad138.add ((x4_1).toNat * 3)) = some (.int .i64 ((rd_T50 lp x4_1).f0)) ∧ w'.cell? ⟨(ad138.add ((x4_1).toNat * 3)).block, (ad138.add ((x4_1).toNat * 3)).off + 1, none⟩ = some (.int .i64 ((rd_T50 lp x4_1).f1)) ∧ w'.cell? ⟨(ad138.add ((x4_1).toNat * 3)).block, (ad138.add ((x4_1).toNat * 3)).off + 2, none⟩ = some (.int .i64 ((rd_T50 lp x4_1).f2)) ∧ w'.cell? (ad138.add ((x5_2).toNat * 3)) = some (.int .i64 ((rd_T50 lp x5_2).f0)) ∧ w'.cell? ⟨(ad138.add ((x5_2).toNat * 3)).block, (ad138.add ((x5_2).toNat * 3)).off + 1, none⟩ = some (.int .i64 ((rd_T50 lp x5_2).f1)) ∧ w'.cell? ⟨(ad138.add ((x5_2).toNat * 3)).block, (ad138.add ((x5_2).toNat * 3)).off + 2, none⟩ = some (.int .i64 ((rd_T50 lp x5_2).f2))) (ds := []) #[O,O,O,O,O,O,O,O,O,O,O] (by kernel_rfl) rfl rfl ⟨(blk_cell BK130.out 0).trans rfl, (blk_cell BK130.out 1).trans rfl, (blk_cell BK130.out 2).trans rfl, ((HB.out.cell (World.block_lt_of_cell? w _ hw138_0)).trans hw138_0), ((HB.out.cell (World.block_lt_of_cell? w _ hw138_1)).trans hw138_1), ((HB.out.cell (World.block_lt_of_cell? w _ hw138_2)).trans hw138_2), ((HB.out.cell (World.block_lt_of_cell? w _ hw139_0)).trans hw139_0), ((HB.out.cell (World.block_lt_of_cell? w _ hw139_1)).trans hw139_1), ((HB.out.cell (World.block_lt_of_cell? w _ hw139_2)).trans hw139_2)⟩ (fun hHeld => ?_); refine with_tabW spec_Faults.tab10 spec_Faults.bits10 (fun HT_ HW_ => ?_)
             generalize wr.drew = w22 at HO_3 BK130 HB hx138_0 hx138_1 hx138_2 hx139_0 hx139_1 hx139_2 hHeld ⊢
             refine pure_ (i := 0) (N := some 27) (v := ?_) (a' := ?_) #[I,O,O,O,O,O,O,O,O,O,O] rfl rfl (any_of HT_.out (by kernel_rfl)) (fun _ _ _ h => h) (Or.inl ⟨by rfl, ?_⟩) ?_ ?_
             rotate_left
             ·intro w'
              go_simp
              with_reducible rfl
             rotate_left
             ·simp only [Act.put, s1, s2, s3, i64_w]
              rfl
             refine pure_ (i := 2) (N := some 29) (v := ?_) (a' := ?_) #[I,O,I,O,O,O,O,O,O,O,O] rfl rfl (any_of HT_.out (by kernel_rfl)) (fun _ _ _ h => h) (Or.inl ⟨by rfl, ?_⟩) ?_ ?_
             rotate_left
             ·intro w'
              go_simp
              with_reducible rfl
             rotate_left
             ·simp only [Act.put, s1, s2, s3, i64_w]
              rfl
             refine pure_ (i := 5) (N := some 32) (v := ?_) (a' := ?_) #[I,O,I,O,O,I,O,O,O,O,O] rfl rfl (any_of HT_.out (by kernel_rfl)) (fun _ _ _ h => h) (Or.inl ⟨by rfl, ?_⟩) ?_ ?_
             rotate_left
             ·intro w'
              go_simp
              with_reducible rfl
             rotate_left
             ·simp only [Act.put, s1, s2, s3, i64_w]
              rfl
             refine pure_ (i := 7) (N := some 34) (v := ?_) (a' := ?_) #[I,O,I,O,O,I,O,I,O,O,O] rfl rfl (any_of HT_.out (by kernel_rfl)) (fun _ _ _ h => h) (Or.inl ⟨by rfl, ?_⟩) ?_ ?_
             rotate_left
             ·intro w'
              go_simp
              with_reducible rfl
             rotate_left
             ·simp only [Act.put, s1, s2, s3, i64_w]
              rfl
             refine take_ (i := 1) (N := some 28) (v := ?_) (a' := ?_) #[I,I,I,O,O,I,O,I,O,O,O] rfl rfl (take_ofW HT_.out HW_.out (by kernel_rfl)) (fun _ _ _ h => h) (Or.inl ⟨by rfl, ?_⟩) hHeld ?_ ?_
             rotate_left
             ·rintro w' ⟨s0, s1, s2, s3, s4, s5, s6, s7, s8⟩
              go_simp
              with_reducible rfl
             rotate_left
             ·simp only [Act.put, s1, s2, s3, i64_w]
              rfl
             refine pure_ (i := 3) (N := some 30) (v := ?_) (a' := ?_) #[I,I,I,I,O,I,O,I,O,O,O] rfl rfl (any_of HT_.out (by kernel_rfl)) (fun _ _ _ h => h) (Or.inl ⟨by rfl, ?_⟩) ?_ ?_
             rotate_left
             ·intro w'
              go_simp
              with_reducible rfl
             rotate_left
             ·simp only [Act.put, s1, s2, s3, i64_w]
              rfl
             refine take_ (i := 4) (N := some 31) (v := ?_) (a' := ?_) #[I,I,I,I,I,I,O,I,O,O,O] rfl rfl (take_ofW HT_.out HW_.out (by kernel_rfl)) (fun _ _ _ h => h) (Or.inl ⟨by rfl, ?_⟩) hHeld ?_ ?_
             rotate_left
             ·rintro w' ⟨s0, s1, s2, s3, s4, s5, s6, s7, s8⟩
              go_simp
              with_reducible rfl
             rotate_left
             ·simp only [Act.put, s1, s2, s3, i64_w]
              rfl
             refine take_ (i := 6) (N := some 33) (v := ?_) (a' := ?_) #[I,I,I,I,I,I,I,I,O,O,O] rfl rfl (take_ofW HT_.out HW_.out (by kernel_rfl)) (fun _ _ _ h => h) (Or.inl ⟨by rfl, ?_⟩) hHeld ?_ ?_
             rotate_left
             ·rintro w' ⟨s0, s1, s2, s3, s4, s5, s6, s7, s8⟩
              go_simp
              with_reducible rfl
             rotate_left
             ·simp only [Act.put, s1, s2, s3, i64_w]
              rfl
             refine pure_ (i := 8) (N := some 35) (v := ?_) (a' := ?_) #[I,I,I,I,I,I,I,I,I,O,O] rfl rfl (any_of HT_.out (by kernel_rfl)) (fun _ _ _ h => h) (Or.inl ⟨by rfl, ?_⟩) ?_ ?_
             rotate_left
             ·intro w'
              go_simp
              with_reducible rfl
             rotate_left
             ·simp only [Act.put, s1, s2, s3, i64_w]
              rfl
             refine take_ (i := 9) (N := some 36) (v := ?_) (a' := ?_) #[I,I,I,I,I,I,I,I,I,I,O] rfl rfl (take_ofW HT_.out HW_.out (by kernel_rfl)) (fun _ _ _ h => h) (Or.inl ⟨by rfl, ?_⟩) hHeld ?_ ?_
             rotate_left
             ·rintro w' ⟨s0, s1, s2, s3, s4, s5, s6, s7, s8⟩
              go_simp
              with_reducible rfl
             rotate_left
             ·simp only [Act.put, s1, s2, s3, i64_w]
              rfl
             refine one_ (i := 10) (N := some 37) #[I,I,I,I,I,I,I,I,I,I,I] rfl rfl (one_of HT_.out (by kernel_rfl)) (by decide) (fun K hK => ?_)
             refine goes_ Try.func36 (by kernel_rfl) rfl #[.agg #[.int .i64 ((rd_T50 lp x4_1).f0), .int .i64 ((rd_T50 lp x4_1).f1), .int .i64 ((rd_T50 lp x4_1).f2)], .agg #[.int .i64 ((rd_T50 lp x5_2).f0), .int .i64 ((rd_T50 lp x5_2).f1), .int .i64 ((rd_T50 lp x5_2).f2)]] (by rfl) rfl rfl ar ?_
             with_reducible refine (spec_l18Shares.calls ((rd_T50 lp x4_1).f0) ((rd_T50 lp x4_1).f1) ((rd_T50 lp x4_1).f2) ((rd_T50 lp x5_2).f0) ((rd_T50 lp x5_2).f1) ((rd_T50 lp x5_2).f2) false _ A16.out).mono ?_
             rintro e w23 ⟨rfl, hb⟩
             refine ⟨_, rfl, ?_⟩
             have n0_ := mk0 (Kd.R_below (rA HO_3.out) hb)
             have n1_ := mk0 (bB BK130.out hb)
             have n2_ := mk0 (below_step (hA HB.out) hb)
             clear HO_3
             clear BK130
             clear HB
             have HO_3 := n0_
             have BK130 := n1_
             have HB := n2_
             clear n0_ n1_ n2_
             (try clear hb); (try clear hb2); (try clear hk); (try clear hi)
             refine hK.out _ _ ⟨(blk_cell BK130.out 0).trans rfl, (blk_cell BK130.out 1).trans rfl, (blk_cell BK130.out 2).trans rfl, ((HB.out.cell (World.block_lt_of_cell? w _ hw138_0)).trans hw138_0), ((HB.out.cell (World.block_lt_of_cell? w _ hw138_1)).trans hw138_1), ((HB.out.cell (World.block_lt_of_cell? w _ hw138_2)).trans hw138_2), ((HB.out.cell (World.block_lt_of_cell? w _ hw139_0)).trans hw139_0), ((HB.out.cell (World.block_lt_of_cell? w _ hw139_1)).trans hw139_1), ((HB.out.cell (World.block_lt_of_cell? w _ hw139_2)).trans hw139_2)⟩ (fun hHeld => ?_)
             clear hK K
             refine norm_ (a' := ?_) ?_ ?_
             rotate_left
             ·show Act.put _ (some 37) _ = _
              simp only [Act.put, s1, s2, s3, i64_w]
              rfl
             refine done_ (done_of HT_.out (by kernel_rfl)) ?_
             try go_wp2
             go_roundg k2
             case measure => have := HK1.out; have := HK2.out; omega
             case rel => exact ⟨(x3_2), (wrap64 (x5_2 + 1)), rs, H', ⟨by have := HK1.out; have := HK2.out; omega⟩, ⟨by refine rC (a := ?_); exact HO_3.out⟩, ⟨by refine bC (a := ?_); exact BK130.out⟩, ⟨hA HB.out⟩⟩
           ·rw [if_neg c15] at H
            exact absurd H (by simp)
          ·rw [if_neg c14] at H
           exact absurd H (by simp)
         ·rw [if_neg c13] at H
          exact absurd H (by simp)
        ·rw [if_neg c12] at H
         exact absurd H (by simp)
       ·rw [if_neg c11] at H
        have c11b0 : decide (x5_2 < x4_1) = false := decide_eq_false c11
        clear c11
        have H' := mk0 H
        clear H
        go_wp2
        go_roundg k2
        case measure => have := HK1.out; have := HK2.out; omega
        case rel => exact ⟨(x3_2), (wrap64 (x4_1 + 1)), rs, H', ⟨by have := HK1.out; have := HK2.out; omega⟩, ⟨by refine rC (a := ?_); exact HO_3.out⟩, ⟨by refine bC (a := ?_); exact BK130.out⟩, ⟨hA HB.out⟩⟩
    ·rw [if_neg c9] at H
     have c9b0 : decide (x4_1 < (lp.length : Int)) = false := decide_eq_false c9
     clear c9
     have H' := mk0 H
     clear H
     have hcz24_0 : wr.cell? ⟨gb130, 0, none⟩ = some (.slice Ap lp.length cp) := (blk_cell BK130.out 0).trans rfl
     have hcz24_1 : wr.cell? ⟨gb130, 1, none⟩ = some (.slice Aq lq.length cq) := (blk_cell BK130.out 1).trans rfl
     have hcz24_2 : wr.cell? ⟨gb130, 2, none⟩ = some (.slice Ar lr.length cr) := (blk_cell BK130.out 2).trans rfl
     have hfz24_0 := blk_frozen BK130.out 0
     have hfz24_1 := blk_frozen BK130.out 1
     have hfz24_2 := blk_frozen BK130.out 2
     go_wp2
     go_loopg [3, 6] k1 (fun kq v3 v6 w' => ∃ (x3_2 : List (S69)) (x6_2 : Int), v6 = .int .i64 x6_2 ∧ Aside0 (spec_Faults.l2 kq x3_2 x6_2 lp lq lr = some r) ∧ Aside0 (kq ≤ k1) ∧ Aside0 (Kd.R k69 69 w' w.heap.size (fun _ => True) v3 x3_2) ∧ Aside0 (w'.heap[gb130]? = some (.cells #[(.slice Ap lp.length cp), (.slice Aq lq.length cq), (.slice Ar lr.length cr)] 29 (0, 0))) ∧ Aside0 (Below w.heap.size w w'))
     case atStart => exact ⟨(x3_1), (0), rs, H', ⟨Nat.le_refl _⟩, ⟨by refine rC (a := ?_); exact HO_3.out⟩, ⟨by refine bC (a := ?_); exact BK130.out⟩, ⟨hA HB.out⟩⟩
     case round =>
      clear H'
      (try clear c1); (try clear p1); (try clear q1); (try clear hx1); (try clear c2); (try clear p2); (try clear c3); (try clear p6); (try clear c9); (try clear c9b0); (try clear c11); (try clear c11b0); (try clear c12); (try clear c12b0); (try clear c13); (try clear c13b0); (try clear p13); (try clear q13); (try clear hx13); (try clear c14); (try clear c14b0); (try clear c15); (try clear c15b0); (try clear c17); (try clear c18); (try clear c19); (try clear hcz10_0); (try clear hcz10_1); (try clear hcz10_2); (try clear hcz24_0); (try clear hcz24_1); (try clear hcz24_2); (try clear hcz7_0); (try clear hcz7_1); (try clear hcz7_2); (try clear hfz10_0); (try clear hfz10_1); (try clear hfz10_2); (try clear hfz24_0); (try clear hfz24_1); (try clear hfz24_2); (try clear hfz7_0); (try clear hfz7_1); (try clear hfz7_2); (try clear hx138_0); (try clear hx138_1); (try clear hx138_2); (try clear hx139_0); (try clear hx139_1); (try clear hx139_2); (try clear p138); (try clear p139); (try clear p2); (try clear q138); (try clear q139)
      obtain ⟨x3_2, x6_2, rfl, HA, HK2, HO_3, BK130, HB⟩ := hrel
      cases gk with
      | zero => exact absurd HA.out (by simp [spec_Faults.l2])
      | succ k2 =>
       have H := HA.out
       clear HA
       simp only [spec_Faults.l2] at H
       by_cases c25 : x6_2 < (lp.length : Int)
       ·rw [if_pos c25] at H
        have c25b0 : decide (x6_2 < (lp.length : Int)) = true := decide_eq_true c25
        clear c25
        by_cases c26 : 0 ≤ x6_2
        ·rw [if_pos c26] at H
         have c26b0 : decide (0 ≤ x6_2) = true := decide_eq_true c26
         clear c26
         by_cases c27 : ((rd_T50 lp x6_2).f0) = ((rd_T50 lp x6_2).f1)
         ·rw [if_pos c27] at H
          have c27b0 : (((rd_T50 lp x6_2).f0) == ((rd_T50 lp x6_2).f1)) = true := beq_iff_eq.mpr c27
          have c27b1 : (((rd_T50 lp x6_2).f0) != ((rd_T50 lp x6_2).f1)) = false := bne_eq_false_iff_eq.mpr c27
          clear c27
          by_cases c28 : x3_2.length < 8796093022208
          ·rw [if_pos c28] at H
           have LMc28 := mk0 c28
           clear c28
           obtain ⟨y146, hy146⟩ : ∃ y_ : List (S69), y_ = (x3_2 ++ [(⟨2, x6_2⟩ : S69)]) := ⟨_, rfl⟩
           replace H : (spec_Faults.l2 k2 y146 (wrap64 (x6_2 + 1)) lp lq lr) = some r := by first | (rw [hy146]; with_reducible exact H) | (have H2_ := (Option.bind_some _ _).symm.trans H; rw [hy146]; with_reducible exact H2_) | (have H2_ := (Option.bind_some _ _).symm.trans H; with_reducible exact H2_) | with_reducible exact H | (rw [hy146]; exact H) | exact H
           have Ny146 := mk0 hy146
           clear hy146
           have H' := mk0 H
           clear H
           have hcz29_0 : wr.cell? ⟨gb130, 0, none⟩ = some (.slice Ap lp.length cp) := (blk_cell BK130.out 0).trans rfl
           have hcz29_1 : wr.cell? ⟨gb130, 1, none⟩ = some (.slice Aq lq.length cq) := (blk_cell BK130.out 1).trans rfl
           have hcz29_2 : wr.cell? ⟨gb130, 2, none⟩ = some (.slice Ar lr.length cr) := (blk_cell BK130.out 2).trans rfl
           have hfz29_0 := blk_frozen BK130.out 0
           have hfz29_1 := blk_frozen BK130.out 1
           have hfz29_2 := blk_frozen BK130.out 2
           try go_wp2
           have n0_ := mk0 (Kd.R_drew HO_3.out)
           have n1_ := mk0 (blk_drew BK130.out)
           have n2_ := mk0 (below_drew1 HB.out)
           clear HO_3
           clear BK130
           clear HB
           have HO_3 := n0_
           have BK130 := n1_
           have HB := n2_
           clear n0_ n1_ n2_
           have p144 : 0 ≤ (x6_2 : Int) := of_decide_eq_true sm
           have q144 : x6_2 < (lp.length : Int) := of_decide_eq_true sm
           obtain ⟨ad144, e144, hx144_0, hx144_1, hx144_2⟩ := at_T50 HR0_0.out x6_2 p144 q144
           have hw144_2 := hx144_2
           have hw144_1 := hx144_1
           have hw144_0 := hx144_0
           cases e144
           try (replace hx144_0 := (HB.out.cell (World.block_lt_of_cell? w _ hx144_0)).trans hx144_0)
           try (replace hx144_1 := (HB.out.cell (World.block_lt_of_cell? w _ hx144_1)).trans hx144_1)
           try (replace hx144_2 := (HB.out.cell (World.block_lt_of_cell? w _ hx144_2)).trans hx144_2)
           replace p144 := eq_true p144
           replace q144 := eq_true q144
           have p145 : 0 ≤ (x6_2 : Int) := of_decide_eq_true sm
           have q145 : x6_2 < (lp.length : Int) := of_decide_eq_true sm
           obtain ⟨ad145, e145, hx145_0, hx145_1, hx145_2⟩ := at_T50 HR0_0.out x6_2 p145 q145
           have hw145_2 := hx145_2
           have hw145_1 := hx145_1
           have hw145_0 := hx145_0
           obtain rfl : ad144 = ad145 := (by injection e145)
           try (replace hx145_0 := (HB.out.cell (World.block_lt_of_cell? w _ hx145_0)).trans hx145_0)
           try (replace hx145_1 := (HB.out.cell (World.block_lt_of_cell? w _ hx145_1)).trans hx145_1)
           try (replace hx145_2 := (HB.out.cell (World.block_lt_of_cell? w _ hx145_2)).trans hx145_2)
           replace p145 := eq_true p145
           replace q145 := eq_true q145
           refine start_ (n := 13) (S := fun w' => w'.cell? ⟨gb130, 0, none⟩ = some (.slice (some ad144) lp.length cp) ∧ w'.cell? ⟨gb130, 1, none⟩ = some (.slice Aq lq.length cq) ∧ w'.cell? ⟨gb130, 2, none⟩ = some (.slice Ar lr.length cr) ∧ w'.cell? (ad144.add ((x6_2).toNat * 3)) = some (.int .i64 ((rd_T50 lp x6_2).f0)) ∧ w'.cell? ⟨(ad144.add ((x6_2).toNat * 3)).block, (ad144.add ((x6_2).toNat * 3)).off + 1, none⟩ = some (.int .i64 ((rd_T50 lp x6_2).f1)) ∧ w'.cell? ⟨(ad144.add ((x6_2).toNat * 3)).block, (ad144.add ((x6_2).toNat * 3)).off + 2, none⟩ = some (.int .i64 ((rd_T50 lp x6_2).f2)) ∧ w'.cell? (ad144.add ((x6_2).toNat * 3)) = some (.int .i64 ((rd_T50 lp x6_2).f0)) ∧ w'.cell? ⟨(ad144.add ((x6_2).toNat * 3)).block, (ad144.add ((x6_2).toNat * 3)).off + 1, none⟩ = some (.int .i64 ((rd_T50 lp x6_2).f1)) ∧ w'.cell? ⟨(ad144.add ((x6_2).toNat * 3)).block, (ad144.add ((x6_2).toNat * 3)).off + 2, none⟩ = some (.int .i64 ((rd_T50 lp x6_2).f2))) (ds := []) #[O,O,O,O,O,O,O,O,O,O,O,O,O] (by kernel_rfl) rfl rfl ⟨(blk_cell BK130.out 0).trans rfl, (blk_cell BK130.out 1).trans rfl, (blk_cell BK130.out 2).trans rfl, ((HB.out.cell (World.block_lt_of_cell? w _ hw144_0)).trans hw144_0), ((HB.out.cell (World.block_lt_of_cell? w _ hw144_1)).trans hw144_1), ((HB.out.cell (World.block_lt_of_cell? w _ hw144_2)).trans hw144_2), ((HB.out.cell (World.block_lt_of_cell? w _ hw145_0)).trans hw145_0), ((HB.out.cell (World.block_lt_of_cell? w _ hw145_1)).trans hw145_1), ((HB.out.cell (World.block_lt_of_cell? w _ hw145_2)).trans hw145_2)⟩ (fun hHeld => ?_); refine with_tabW spec_Faults.tab15 spec_Faults.bits15 (fun HT_ HW_ => ?_)
           generalize wr.drew = w30 at HO_3 BK130 HB hx144_0 hx144_1 hx144_2 hx145_0 hx145_1 hx145_2 hHeld ⊢
           refine pure_ (i := 0) (N := some 50) (v := ?_) (a' := ?_) #[I,O,O,O,O,O,O,O,O,O,O,O,O] rfl rfl (any_of HT_.out (by kernel_rfl)) (fun _ _ _ h => h) (Or.inl ⟨by rfl, ?_⟩) ?_ ?_
           rotate_left
           ·intro w'
            go_simp
            with_reducible rfl
           rotate_left
           ·simp only [Act.put, s1, s2, s3, i64_w]
            rfl
           refine pure_ (i := 2) (N := some 52) (v := ?_) (a' := ?_) #[I,O,I,O,O,O,O,O,O,O,O,O,O] rfl rfl (any_of HT_.out (by kernel_rfl)) (fun _ _ _ h => h) (Or.inl ⟨by rfl, ?_⟩) ?_ ?_
           rotate_left
           ·intro w'
            go_simp
            with_reducible rfl
           rotate_left
           ·simp only [Act.put, s1, s2, s3, i64_w]
            rfl
           refine pure_ (i := 6) (N := some 56) (v := ?_) (a' := ?_) #[I,O,I,O,O,O,I,O,O,O,O,O,O] rfl rfl (any_of HT_.out (by kernel_rfl)) (fun _ _ _ h => h) (Or.inl ⟨by rfl, ?_⟩) ?_ ?_
           rotate_left
           ·intro w'
            go_simp
            with_reducible rfl
           rotate_left
           ·simp only [Act.put, s1, s2, s3, i64_w]
            rfl
           refine pure_ (i := 8) (N := some 58) (v := ?_) (a' := ?_) #[I,O,I,O,O,O,I,O,I,O,O,O,O] rfl rfl (any_of HT_.out (by kernel_rfl)) (fun _ _ _ h => h) (Or.inl ⟨by rfl, ?_⟩) ?_ ?_
           rotate_left
           ·intro w'
            go_simp
            with_reducible rfl
           rotate_left
           ·simp only [Act.put, s1, s2, s3, i64_w]
            rfl
           refine take_ (i := 1) (N := some 51) (v := ?_) (a' := ?_) #[I,I,I,O,O,O,I,O,I,O,O,O,O] rfl rfl (take_ofW HT_.out HW_.out (by kernel_rfl)) (fun _ _ _ h => h) (Or.inl ⟨by rfl, ?_⟩) hHeld ?_ ?_
           rotate_left
           ·rintro w' ⟨s0, s1, s2, s3, s4, s5, s6, s7, s8⟩
            go_simp
            with_reducible rfl
           rotate_left
           ·simp only [Act.put, s1, s2, s3, i64_w]
            rfl
           refine pure_ (i := 3) (N := some 53) (v := ?_) (a' := ?_) #[I,I,I,I,O,O,I,O,I,O,O,O,O] rfl rfl (any_of HT_.out (by kernel_rfl)) (fun _ _ _ h => h) (Or.inl ⟨by rfl, ?_⟩) ?_ ?_
           rotate_left
           ·intro w'
            go_simp
            with_reducible rfl
           rotate_left
           ·simp only [Act.put, s1, s2, s3, i64_w]
            rfl
           refine pure_ (i := 4) (N := some 54) (v := ?_) (a' := ?_) #[I,I,I,I,I,O,I,O,I,O,O,O,O] rfl rfl (any_of HT_.out (by kernel_rfl)) (fun _ _ _ h => h) (Or.inl ⟨by rfl, ?_⟩) ?_ ?_
           rotate_left
           ·intro w'
            go_simp
            with_reducible rfl
           rotate_left
           ·simp only [Act.put, s1, s2, s3, i64_w]
            rfl
           refine take_ (i := 5) (N := some 55) (v := ?_) (a' := ?_) #[I,I,I,I,I,I,I,O,I,O,O,O,O] rfl rfl (take_ofW HT_.out HW_.out (by kernel_rfl)) (fun _ _ _ h => h) (Or.inl ⟨by rfl, ?_⟩) hHeld ?_ ?_
           rotate_left
           ·rintro w' ⟨s0, s1, s2, s3, s4, s5, s6, s7, s8⟩
            go_simp
            with_reducible rfl
           rotate_left
           ·simp only [Act.put, s1, s2, s3, i64_w]
            rfl
           refine take_ (i := 7) (N := some 57) (v := ?_) (a' := ?_) #[I,I,I,I,I,I,I,I,I,O,O,O,O] rfl rfl (take_ofW HT_.out HW_.out (by kernel_rfl)) (fun _ _ _ h => h) (Or.inl ⟨by rfl, ?_⟩) hHeld ?_ ?_
           rotate_left
           ·rintro w' ⟨s0, s1, s2, s3, s4, s5, s6, s7, s8⟩
            go_simp
            with_reducible rfl
           rotate_left
           ·simp only [Act.put, s1, s2, s3, i64_w]
            rfl
           refine pure_ (i := 9) (N := some 59) (v := ?_) (a' := ?_) #[I,I,I,I,I,I,I,I,I,I,O,O,O] rfl rfl (any_of HT_.out (by kernel_rfl)) (fun _ _ _ h => h) (Or.inl ⟨by rfl, ?_⟩) ?_ ?_
           rotate_left
           ·intro w'
            go_simp
            with_reducible rfl
           rotate_left
           ·simp only [Act.put, s1, s2, s3, i64_w]
            rfl
           refine pure_ (i := 10) (N := some 60) (v := ?_) (a' := ?_) #[I,I,I,I,I,I,I,I,I,I,I,O,O] rfl rfl (any_of HT_.out (by kernel_rfl)) (fun _ _ _ h => h) (Or.inl ⟨by rfl, ?_⟩) ?_ ?_
           rotate_left
           ·intro w'
            go_simp
            with_reducible rfl
           rotate_left
           ·simp only [Act.put, s1, s2, s3, i64_w]
            rfl
           refine take_ (i := 11) (N := some 61) (v := ?_) (a' := ?_) #[I,I,I,I,I,I,I,I,I,I,I,I,O] rfl rfl (take_ofW HT_.out HW_.out (by kernel_rfl)) (fun _ _ _ h => h) (Or.inl ⟨by rfl, ?_⟩) hHeld ?_ ?_
           rotate_left
           ·rintro w' ⟨s0, s1, s2, s3, s4, s5, s6, s7, s8⟩
            go_simp
            with_reducible rfl
           rotate_left
           ·simp only [Act.put, s1, s2, s3, i64_w]
            rfl
           refine pure_ (i := 12) (N := some 62) (v := ?_) (a' := ?_) #[I,I,I,I,I,I,I,I,I,I,I,I,I] rfl rfl (any_of HT_.out (by kernel_rfl)) (fun _ _ _ h => h) (Or.inl ⟨by rfl, ?_⟩) ?_ ?_
           rotate_left
           ·intro w'
            go_simp
            with_reducible rfl
           rotate_left
           ·simp only [Act.put, s1, s2, s3, i64_w]
            rfl
           refine done_ (done_of HT_.out (by kernel_rfl)) ?_
           try go_wp2_with (first | ((with_reducible refine gate_builtin (b := .append) (xs := #[.tmp 63, .tmp 66]) rfl ?_); at_builtin; refine Kd.R_append k69 (w0 := w) w.heap.size rfl (.tmp 63) (.tmp 66) 38 69 (.agg #[(.int .i64 0), (.int .i64 0)]) 16 rfl Try.underlying38 info69 rfl (by decide) (by omega) u3 x3_2 (⟨2, x6_2⟩ : S69) [.int .i64 2, .int .i64 x6_2] (fun _ => True) (fun _ => False) rfl rfl ?aP (fun _ hk => hk.elim) ?aF ?aO ?aB ?aS ?aL ?_; (case aP => exact k69_mkM _ _ _ (⟨2, x6_2⟩ : S69)); (case aB => exact (hA HB.out)); (case aF => exact (fun _ _ => trivial)); (case aO => exact (rA HO_3.out)); (case aS => exact (below_size (hA HB.out))); (case aL => have := LMc28.out; omega); intro v147 w31 ho hb hg hat; rw [← Ny146.out] at ho; have n0_ := mk0 (blk_grown (g := gb130) (o := .cells #[.slice (some ad144) lp.length cp, .slice Aq lq.length cq, .slice Ar lr.length cr] 29 (0, 0)) (bA BK130.out) hg (Kd.R_ne HO_3.out BK130.out (by decide))); have n1_ := mk0 (hb); have n2_ := mk0 (ho); clear BK130; clear HB; clear HO_3; have BK130 := n0_; have HB := n1_; have HO148 := n2_; clear n0_ n1_ n2_; clear ho hb hg hat))
           go_roundg k2
           case measure => have := HK1.out; have := HK2.out; omega
           case rel => exact ⟨(y146), (wrap64 (x6_2 + 1)), rs, H', ⟨by have := HK1.out; have := HK2.out; omega⟩, ⟨by refine rC (a := ?_); exact HO148.out⟩, ⟨by refine bC (a := ?_); exact BK130.out⟩, ⟨hA HB.out⟩⟩
          ·rw [if_neg c28] at H
           exact absurd H (by simp)
         ·rw [if_neg c27] at H
          have c27b0 : (((rd_T50 lp x6_2).f0) == ((rd_T50 lp x6_2).f1)) = false := beq_eq_false_iff_ne.mpr c27
          have c27b1 : (((rd_T50 lp x6_2).f0) != ((rd_T50 lp x6_2).f1)) = true := bne_iff_ne.mpr c27
          have H' := mk0 H
          clear H
          have hcz32_0 : wr.cell? ⟨gb130, 0, none⟩ = some (.slice Ap lp.length cp) := (blk_cell BK130.out 0).trans rfl
          have hcz32_1 : wr.cell? ⟨gb130, 1, none⟩ = some (.slice Aq lq.length cq) := (blk_cell BK130.out 1).trans rfl
          have hcz32_2 : wr.cell? ⟨gb130, 2, none⟩ = some (.slice Ar lr.length cr) := (blk_cell BK130.out 2).trans rfl
          have hfz32_0 := blk_frozen BK130.out 0
          have hfz32_1 := blk_frozen BK130.out 1
          have hfz32_2 := blk_frozen BK130.out 2
          try go_wp2
          have n0_ := mk0 (Kd.R_drew HO_3.out)
          have n1_ := mk0 (blk_drew BK130.out)
          have n2_ := mk0 (below_drew1 HB.out)
          clear HO_3
          clear BK130
          clear HB
          have HO_3 := n0_
          have BK130 := n1_
          have HB := n2_
          clear n0_ n1_ n2_
          have p144 : 0 ≤ (x6_2 : Int) := of_decide_eq_true sm
          have q144 : x6_2 < (lp.length : Int) := of_decide_eq_true sm
          obtain ⟨ad144, e144, hx144_0, hx144_1, hx144_2⟩ := at_T50 HR0_0.out x6_2 p144 q144
          have hw144_2 := hx144_2
          have hw144_1 := hx144_1
          have hw144_0 := hx144_0
          cases e144
          try (replace hx144_0 := (HB.out.cell (World.block_lt_of_cell? w _ hx144_0)).trans hx144_0)
          try (replace hx144_1 := (HB.out.cell (World.block_lt_of_cell? w _ hx144_1)).trans hx144_1)
          try (replace hx144_2 := (HB.out.cell (World.block_lt_of_cell? w _ hx144_2)).trans hx144_2)
          replace p144 := eq_true p144
          replace q144 := eq_true q144
          have p145 : 0 ≤ (x6_2 : Int) := of_decide_eq_true sm
          have q145 : x6_2 < (lp.length : Int) := of_decide_eq_true sm
          obtain ⟨ad145, e145, hx145_0, hx145_1, hx145_2⟩ := at_T50 HR0_0.out x6_2 p145 q145
          have hw145_2 := hx145_2
          have hw145_1 := hx145_1
          have hw145_0 := hx145_0
          obtain rfl : ad144 = ad145 := (by injection e145)
          try (replace hx145_0 := (HB.out.cell (World.block_lt_of_cell? w _ hx145_0)).trans hx145_0)
          try (replace hx145_1 := (HB.out.cell (World.block_lt_of_cell? w _ hx145_1)).trans hx145_1)
          try (replace hx145_2 := (HB.out.cell (World.block_lt_of_cell? w _ hx145_2)).trans hx145_2)
          replace p145 := eq_true p145
          replace q145 := eq_true q145
          refine start_ (n := 13) (S := fun w' => w'.cell? ⟨gb130, 0, none⟩ = some (.slice (some ad144) lp.length cp) ∧ w'.cell? ⟨gb130, 1, none⟩ = some (.slice Aq lq.length cq) ∧ w'.cell? ⟨gb130, 2, none⟩ = some (.slice Ar lr.length cr) ∧ w'.cell? (ad144.add ((x6_2).toNat * 3)) = some (.int .i64 ((rd_T50 lp x6_2).f0)) ∧ w'.cell? ⟨(ad144.add ((x6_2).toNat * 3)).block, (ad144.add ((x6_2).toNat * 3)).off + 1, none⟩ = some (.int .i64 ((rd_T50 lp x6_2).f1)) ∧ w'.cell? ⟨(ad144.add ((x6_2).toNat * 3)).block, (ad144.add ((x6_2).toNat * 3)).off + 2, none⟩ = some (.int .i64 ((rd_T50 lp x6_2).f2)) ∧ w'.cell? (ad144.add ((x6_2).toNat * 3)) = some (.int .i64 ((rd_T50 lp x6_2).f0)) ∧ w'.cell? ⟨(ad144.add ((x6_2).toNat * 3)).block, (ad144.add ((x6_2).toNat * 3)).off + 1, none⟩ = some (.int .i64 ((rd_T50 lp x6_2).f1)) ∧ w'.cell? ⟨(ad144.add ((x6_2).toNat * 3)).block, (ad144.add ((x6_2).toNat * 3)).off + 2, none⟩ = some (.int .i64 ((rd_T50 lp x6_2).f2))) (ds := []) #[O,O,O,O,O,O,O,O,O,O,O,O,O] (by kernel_rfl) rfl rfl ⟨(blk_cell BK130.out 0).trans rfl, (blk_cell BK130.out 1).trans rfl, (blk_cell BK130.out 2).trans rfl, ((HB.out.cell (World.block_lt_of_cell? w _ hw144_0)).trans hw144_0), ((HB.out.cell (World.block_lt_of_cell? w _ hw144_1)).trans hw144_1), ((HB.out.cell (World.block_lt_of_cell? w _ hw144_2)).trans hw144_2), ((HB.out.cell (World.block_lt_of_cell? w _ hw145_0)).trans hw145_0), ((HB.out.cell (World.block_lt_of_cell? w _ hw145_1)).trans hw145_1), ((HB.out.cell (World.block_lt_of_cell? w _ hw145_2)).trans hw145_2)⟩ (fun hHeld => ?_); refine with_tabW spec_Faults.tab15 spec_Faults.bits15 (fun HT_ HW_ => ?_)
          generalize wr.drew = w33 at HO_3 BK130 HB hx144_0 hx144_1 hx144_2 hx145_0 hx145_1 hx145_2 hHeld ⊢
          refine pure_ (i := 0) (N := some 50) (v := ?_) (a' := ?_) #[I,O,O,O,O,O,O,O,O,O,O,O,O] rfl rfl (any_of HT_.out (by kernel_rfl)) (fun _ _ _ h => h) (Or.inl ⟨by rfl, ?_⟩) ?_ ?_
          rotate_left
          ·intro w'
           go_simp
           with_reducible rfl
          rotate_left
          ·simp only [Act.put, s1, s2, s3, i64_w]
           rfl
          refine pure_ (i := 2) (N := some 52) (v := ?_) (a' := ?_) #[I,O,I,O,O,O,O,O,O,O,O,O,O] rfl rfl (any_of HT_.out (by kernel_rfl)) (fun _ _ _ h => h) (Or.inl ⟨by rfl, ?_⟩) ?_ ?_
          rotate_left
          ·intro w'
           go_simp
           with_reducible rfl
          rotate_left
          ·simp only [Act.put, s1, s2, s3, i64_w]
           rfl
          refine pure_ (i := 6) (N := some 56) (v := ?_) (a' := ?_) #[I,O,I,O,O,O,I,O,O,O,O,O,O] rfl rfl (any_of HT_.out (by kernel_rfl)) (fun _ _ _ h => h) (Or.inl ⟨by rfl, ?_⟩) ?_ ?_
          rotate_left
          ·intro w'
           go_simp
           with_reducible rfl
          rotate_left
          ·simp only [Act.put, s1, s2, s3, i64_w]
           rfl
          refine pure_ (i := 8) (N := some 58) (v := ?_) (a' := ?_) #[I,O,I,O,O,O,I,O,I,O,O,O,O] rfl rfl (any_of HT_.out (by kernel_rfl)) (fun _ _ _ h => h) (Or.inl ⟨by rfl, ?_⟩) ?_ ?_
          rotate_left
          ·intro w'
           go_simp
           with_reducible rfl
          rotate_left
          ·simp only [Act.put, s1, s2, s3, i64_w]
           rfl
          refine take_ (i := 1) (N := some 51) (v := ?_) (a' := ?_) #[I,I,I,O,O,O,I,O,I,O,O,O,O] rfl rfl (take_ofW HT_.out HW_.out (by kernel_rfl)) (fun _ _ _ h => h) (Or.inl ⟨by rfl, ?_⟩) hHeld ?_ ?_
          rotate_left
          ·rintro w' ⟨s0, s1, s2, s3, s4, s5, s6, s7, s8⟩
           go_simp
           with_reducible rfl
          rotate_left
          ·simp only [Act.put, s1, s2, s3, i64_w]
           rfl
          refine pure_ (i := 3) (N := some 53) (v := ?_) (a' := ?_) #[I,I,I,I,O,O,I,O,I,O,O,O,O] rfl rfl (any_of HT_.out (by kernel_rfl)) (fun _ _ _ h => h) (Or.inl ⟨by rfl, ?_⟩) ?_ ?_
          rotate_left
          ·intro w'
           go_simp
           with_reducible rfl
          rotate_left
          ·simp only [Act.put, s1, s2, s3, i64_w]
           rfl
          refine pure_ (i := 4) (N := some 54) (v := ?_) (a' := ?_) #[I,I,I,I,I,O,I,O,I,O,O,O,O] rfl rfl (any_of HT_.out (by kernel_rfl)) (fun _ _ _ h => h) (Or.inl ⟨by rfl, ?_⟩) ?_ ?_
          rotate_left
          ·intro w'
           go_simp
           with_reducible rfl
          rotate_left
          ·simp only [Act.put, s1, s2, s3, i64_w]
           rfl
          refine take_ (i := 5) (N := some 55) (v := ?_) (a' := ?_) #[I,I,I,I,I,I,I,O,I,O,O,O,O] rfl rfl (take_ofW HT_.out HW_.out (by kernel_rfl)) (fun _ _ _ h => h) (Or.inl ⟨by rfl, ?_⟩) hHeld ?_ ?_
          rotate_left
          ·rintro w' ⟨s0, s1, s2, s3, s4, s5, s6, s7, s8⟩
           go_simp
           with_reducible rfl
          rotate_left
          ·simp only [Act.put, s1, s2, s3, i64_w]
           rfl
          refine take_ (i := 7) (N := some 57) (v := ?_) (a' := ?_) #[I,I,I,I,I,I,I,I,I,O,O,O,O] rfl rfl (take_ofW HT_.out HW_.out (by kernel_rfl)) (fun _ _ _ h => h) (Or.inl ⟨by rfl, ?_⟩) hHeld ?_ ?_
          rotate_left
          ·rintro w' ⟨s0, s1, s2, s3, s4, s5, s6, s7, s8⟩
           go_simp
           with_reducible rfl
          rotate_left
          ·simp only [Act.put, s1, s2, s3, i64_w]
           rfl
          refine pure_ (i := 9) (N := some 59) (v := ?_) (a' := ?_) #[I,I,I,I,I,I,I,I,I,I,O,O,O] rfl rfl (any_of HT_.out (by kernel_rfl)) (fun _ _ _ h => h) (Or.inl ⟨by rfl, ?_⟩) ?_ ?_
          rotate_left
          ·intro w'
           go_simp
           with_reducible rfl
          rotate_left
          ·simp only [Act.put, s1, s2, s3, i64_w]
           rfl
          refine pure_ (i := 10) (N := some 60) (v := ?_) (a' := ?_) #[I,I,I,I,I,I,I,I,I,I,I,O,O] rfl rfl (any_of HT_.out (by kernel_rfl)) (fun _ _ _ h => h) (Or.inl ⟨by rfl, ?_⟩) ?_ ?_
          rotate_left
          ·intro w'
           go_simp
           with_reducible rfl
          rotate_left
          ·simp only [Act.put, s1, s2, s3, i64_w]
           rfl
          refine take_ (i := 11) (N := some 61) (v := ?_) (a' := ?_) #[I,I,I,I,I,I,I,I,I,I,I,I,O] rfl rfl (take_ofW HT_.out HW_.out (by kernel_rfl)) (fun _ _ _ h => h) (Or.inl ⟨by rfl, ?_⟩) hHeld ?_ ?_
          rotate_left
          ·rintro w' ⟨s0, s1, s2, s3, s4, s5, s6, s7, s8⟩
           go_simp
           with_reducible rfl
          rotate_left
          ·simp only [Act.put, s1, s2, s3, i64_w]
           rfl
          refine pure_ (i := 12) (N := some 62) (v := ?_) (a' := ?_) #[I,I,I,I,I,I,I,I,I,I,I,I,I] rfl rfl (any_of HT_.out (by kernel_rfl)) (fun _ _ _ h => h) (Or.inl ⟨by rfl, ?_⟩) ?_ ?_
          rotate_left
          ·intro w'
           go_simp
           with_reducible rfl
          rotate_left
          ·simp only [Act.put, s1, s2, s3, i64_w]
           rfl
          refine done_ (done_of HT_.out (by kernel_rfl)) ?_
          try go_wp2
          go_roundg k2
          case measure => have := HK1.out; have := HK2.out; omega
          case rel => exact ⟨(x3_2), (wrap64 (x6_2 + 1)), rs, H', ⟨by have := HK1.out; have := HK2.out; omega⟩, ⟨by refine rC (a := ?_); exact HO_3.out⟩, ⟨by refine bC (a := ?_); exact BK130.out⟩, ⟨hA HB.out⟩⟩
        ·rw [if_neg c26] at H
         exact absurd H (by simp)
       ·rw [if_neg c25] at H
        have c25b0 : decide (x6_2 < (lp.length : Int)) = false := decide_eq_false c25
        clear c25
        replace H := Option.bind_eq_some_iff.mp H
        obtain ⟨t149, A340, H⟩ := H
        replace H : (if x3_2.length + t149.length < 8796093022208 then ((some (x3_2 ++ t149 : List (S69))).bind fun y152 => ((spec_l18Told.f k2 lp lq lr lr true 5 6).bind fun t155 => (if y152.length + t155.length < 8796093022208 then (some (y152 ++ t155)) else (none)))) else (none)) = some r := H
        have A34 := mk0 A340
        clear A340
        by_cases c35 : x3_2.length + t149.length < 8796093022208
        ·rw [if_pos c35] at H
         have LMc35 := mk0 c35
         clear c35
         obtain ⟨y152, hy152⟩ : ∃ y_ : List (S69), y_ = (x3_2 ++ t149) := ⟨_, rfl⟩
         replace H : ((spec_l18Told.f k2 lp lq lr lr true 5 6).bind fun t155 => (if y152.length + t155.length < 8796093022208 then (some (y152 ++ t155)) else (none))) = some r := by first | (rw [hy152]; with_reducible exact H) | (have H2_ := (Option.bind_some _ _).symm.trans H; rw [hy152]; with_reducible exact H2_) | (have H2_ := (Option.bind_some _ _).symm.trans H; with_reducible exact H2_) | with_reducible exact H | (rw [hy152]; exact H) | exact H
         have Ny152 := mk0 hy152
         clear hy152
         replace H := Option.bind_eq_some_iff.mp H
         obtain ⟨t155, A360, H⟩ := H
         replace H : (if y152.length + t155.length < 8796093022208 then (some (y152 ++ t155)) else (none)) = some r := H
         have A36 := mk0 A360
         clear A360
         by_cases c37 : y152.length + t155.length < 8796093022208
         ·rw [if_pos c37] at H
          have LMc37 := mk0 c37
          clear c37
          obtain ⟨y158, hy158⟩ : ∃ y_ : List (S69), y_ = (y152 ++ t155) := ⟨_, rfl⟩
          replace H : (some y158) = some r := by first | (rw [hy158]; with_reducible exact H) | (have H2_ := (Option.bind_some _ _).symm.trans H; rw [hy158]; with_reducible exact H2_) | (have H2_ := (Option.bind_some _ _).symm.trans H; with_reducible exact H2_) | with_reducible exact H | (rw [hy158]; exact H) | exact H
          have Ny158 := mk0 hy158
          clear hy158
          obtain rfl := Option.some.inj H
          have hcz38_0 : wr.cell? ⟨gb130, 0, none⟩ = some (.slice Ap lp.length cp) := (blk_cell BK130.out 0).trans rfl
          have hcz38_1 : wr.cell? ⟨gb130, 1, none⟩ = some (.slice Aq lq.length cq) := (blk_cell BK130.out 1).trans rfl
          have hcz38_2 : wr.cell? ⟨gb130, 2, none⟩ = some (.slice Ar lr.length cr) := (blk_cell BK130.out 2).trans rfl
          have hfz38_0 := blk_frozen BK130.out 0
          have hfz38_1 := blk_frozen BK130.out 1
          have hfz38_2 := blk_frozen BK130.out 2
          go_wp2_with (first | ((with_reducible refine gate_callee (f := 48) rfl ?_); refine goesL_ (some 72) rfl rfl Try.func48 (by kernel_rfl) rfl #[.agg #[.slice Ap lp.length cp, .slice Aq lq.length cq, .slice Ar lr.length cr], .slice Aq lq.length cq, .bool false, .int .i64 3, .int .i64 4] rfl ar ?_; (with_reducible refine (spec_l18Told.calls k2 _ _ lp _ _ lq _ _ lr _ _ lq false 3 4 t149 _ ?side1 ?side2 ?side3 ?side4 ?side5 ?side6 ?side7 ?side8 A34.out).mono ?_); (case side1 => exact cA (Kd.C_below HR0_0.out HB.out)); (case side2 => exact HC0_0.out); (case side3 => exact cA (Kd.C_below HR0_1.out HB.out)); (case side4 => exact HC0_1.out); (case side5 => exact cA (Kd.C_below HR0_2.out HB.out)); (case side6 => exact HC0_2.out); (case side7 => exact cA (Kd.C_below HR0_1.out HB.out)); (case side8 => exact HC0_1.out); rintro e w39 ⟨v150, rfl, ho0, hb⟩; refine ⟨_, rfl, ?_⟩; have n0_ := mk0 (Kd.R_elder' (rA HO_3.out) (Kd.R_base ho0) hb); have n1_ := mk0 (Kd.R_lower (Kd.R_new' ho0 (Kd.R_lt (rA HO_3.out))) (below_size (hA HB.out))); have n2_ := mk0 (bB BK130.out hb); have n3_ := mk0 (below_step (hA HB.out) hb); clear HO_3; clear BK130; clear HB; have HO_3 := n0_; have HO151 := n1_; have BK130 := n2_; have HB := n3_; clear n0_ n1_ n2_ n3_; (try clear hb); (try clear hb2); (try clear hk); (try clear hi); (try clear ho0); obtain ⟨Ao41, co41, eo41⟩ := Kd.R_slice HO151.out; subst eo41) | ((with_reducible refine gate_builtin (b := .append) (xs := #[.tmp 68, .tmp 72]) rfl ?_); at_builtin; refine Kd.R_append_rows k69 (w0 := w) w.heap.size rfl (.tmp 68) (.tmp 72) 38 69 (.agg #[(.int .i64 0), (.int .i64 0)]) 16 rfl Try.underlying38 info69 rfl (by decide) (by omega) u3 x3_2 t149 _ _ _ (fun k_ => some k_ ≠ (.slice Ao41 t149.length co41 : Value).ownBlock) (fun _ => False) rfl rfl ?aO ?aR (fun _ _ h => h) (fun _ h => h.elim) ?aF ?aB ?aS ?aL ?_; (case aR => exact cA (Kd.R_reads' HO151.out).2.2); (case aB => exact (hA HB.out)); (case aF => exact (fun k_ hk => Kd.fresh' (Kd.R_lt (rA HO151.out)) k_ hk)); (case aO => exact (rC (a := by exact Kd.R_mono HO_3.out (fun _ hk => hk.2)))); (case aS => exact (below_size (hA HB.out))); (case aL => have := LMc35.out; omega); intro v153 w40 ho hb hg hat; rw [← Ny152.out] at ho; have n0_ := mk0 (blk_grown (g := gb130) (o := .cells #[.slice Ap lp.length cp, .slice Aq lq.length cq, .slice Ar lr.length cr] 29 (0, 0)) (bA BK130.out) hg (Kd.R_ne HO_3.out BK130.out (by decide))); have n1_ := mk0 (Kd.R_after (ok := (fun _ => True)) (rA HO151.out) hg hat); have n2_ := mk0 (hb); have n3_ := mk0 (ho); clear BK130; clear HO151; clear HB; clear HO_3; have BK130 := n0_; have HO151 := n1_; have HB := n2_; have HO154 := n3_; clear n0_ n1_ n2_ n3_; clear ho hb hg hat; have hcz42_0 : w40.cell? ⟨gb130, 0, none⟩ = some (.slice Ap lp.length cp) := (blk_cell BK130.out 0).trans rfl; have hcz42_1 : w40.cell? ⟨gb130, 1, none⟩ = some (.slice Aq lq.length cq) := (blk_cell BK130.out 1).trans rfl; have hcz42_2 : w40.cell? ⟨gb130, 2, none⟩ = some (.slice Ar lr.length cr) := (blk_cell BK130.out 2).trans rfl; have hfz42_0 := blk_frozen BK130.out 0; have hfz42_1 := blk_frozen BK130.out 1; have hfz42_2 := blk_frozen BK130.out 2) | ((with_reducible refine gate_callee (f := 48) rfl ?_); refine goesL_ (some 78) rfl rfl Try.func48 (by kernel_rfl) rfl #[.agg #[.slice Ap lp.length cp, .slice Aq lq.length cq, .slice Ar lr.length cr], .slice Ar lr.length cr, .bool true, .int .i64 5, .int .i64 6] rfl ar ?_; (with_reducible refine (spec_l18Told.calls k2 _ _ lp _ _ lq _ _ lr _ _ lr true 5 6 t155 _ ?side1 ?side2 ?side3 ?side4 ?side5 ?side6 ?side7 ?side8 A36.out).mono ?_); (case side1 => exact cA (Kd.C_below HR0_0.out HB.out)); (case side2 => exact HC0_0.out); (case side3 => exact cA (Kd.C_below HR0_1.out HB.out)); (case side4 => exact HC0_1.out); (case side5 => exact cA (Kd.C_below HR0_2.out HB.out)); (case side6 => exact HC0_2.out); (case side7 => exact cA (Kd.C_below HR0_2.out HB.out)); (case side8 => exact HC0_2.out); rintro e w43 ⟨v156, rfl, ho0, hb⟩; refine ⟨_, rfl, ?_⟩; have n0_ := mk0 (Kd.R_elder' (rA HO151.out) (Kd.R_base ho0) hb); have n1_ := mk0 (Kd.R_elder' (rA HO154.out) (Kd.R_base ho0) hb); have n2_ := mk0 (Kd.R_lower (Kd.R_new' (Kd.R_new' ho0 (Kd.R_lt (rA HO151.out))) (Kd.R_lt (rA HO154.out))) (below_size (hA HB.out))); have n3_ := mk0 (bB BK130.out hb); have n4_ := mk0 (below_step (hA HB.out) hb); clear HO151; clear HO154; clear BK130; clear HB; have HO151 := n0_; have HO154 := n1_; have HO157 := n2_; have BK130 := n3_; have HB := n4_; clear n0_ n1_ n2_ n3_ n4_; (try clear hb); (try clear hb2); (try clear hk); (try clear hi); (try clear ho0); obtain ⟨Ao45, co45, eo45⟩ := Kd.R_slice HO157.out; subst eo45) | ((with_reducible refine gate_builtin (b := .append) (xs := #[.tmp 74, .tmp 78]) rfl ?_); at_builtin; refine Kd.R_append_rows k69 (w0 := w) w.heap.size rfl (.tmp 74) (.tmp 78) 38 69 (.agg #[(.int .i64 0), (.int .i64 0)]) 16 rfl Try.underlying38 info69 rfl (by decide) (by omega) v153 y152 t155 _ _ _ (fun k_ => some k_ ≠ (.slice Ao41 t149.length co41 : Value).ownBlock ∧ some k_ ≠ (.slice Ao45 t155.length co45 : Value).ownBlock) (fun _ => False) rfl rfl ?aO ?aR (fun _ _ h => h) (fun _ h => h.elim) ?aF ?aB ?aS ?aL ?_; (case aR => exact cA (Kd.R_reads' HO157.out).2.2); (case aB => exact (hA HB.out)); (case aF => exact (fun k_ hk => ⟨Kd.fresh' (Kd.R_lt (rA HO151.out)) k_ hk, Kd.fresh' (Kd.R_lt (rA HO157.out)) k_ hk⟩)); (case aO => exact (rA HO154.out)); (case aS => exact (below_size (hA HB.out))); (case aL => have := LMc37.out; omega); intro v159 w44 ho hb hg hat; rw [← Ny158.out] at ho; have n0_ := mk0 (blk_grown (g := gb130) (o := .cells #[.slice Ap lp.length cp, .slice Aq lq.length cq, .slice Ar lr.length cr] 29 (0, 0)) (bA BK130.out) hg (Kd.R_ne HO154.out BK130.out (by decide))); have n1_ := mk0 (Kd.R_after (ok := (fun k_ => some k_ ≠ (.slice Ao45 t155.length co45 : Value).ownBlock)) (rC (a := by exact Kd.R_mono HO151.out (fun _ hk => ⟨hk.2, hk.1.2⟩))) hg hat); have n2_ := mk0 (Kd.R_after (ok := (fun k_ => some k_ ≠ (.slice Ao41 t149.length co41 : Value).ownBlock)) (rC (a := by exact Kd.R_mono HO157.out (fun _ hk => ⟨hk.1.2, hk.2⟩))) hg hat); have n3_ := mk0 (hb); have n4_ := mk0 (ho); clear BK130; clear HO151; clear HO157; clear HB; clear HO154; have BK130 := n0_; have HO151 := n1_; have HO157 := n2_; have HB := n3_; have HO160 := n4_; clear n0_ n1_ n2_ n3_ n4_; clear ho hb hg hat))
          go_ret
          exact ⟨_, er, by refine rC (a := ?_); exact Kd.R_mono HO160.out (fun _ hk => trivial), hA HB.out⟩
         ·rw [if_neg c37] at H
          exact absurd H (by simp)
        ·rw [if_neg c35] at H
         exact absurd H (by simp)
 ·replace c3 := Bool.eq_false_iff.mpr c3
  subst c3
  have H1 : (if y131.length < 8796093022208 then (some (y131 ++ [(⟨7, 0⟩ : S69)])) else (none)) = some r := by rw [if_neg (show ¬ (false = true) by decide)] at H; exact H
  clear H
  have H := H1
  clear H1
  by_cases c46 : y131.length < 8796093022208
  ·rw [if_pos c46] at H
   have LMc46 := mk0 c46
   clear c46
   obtain ⟨y135, hy135⟩ : ∃ y_ : List (S69), y_ = (y131 ++ [(⟨7, 0⟩ : S69)]) := ⟨_, rfl⟩
   replace H : (some y135) = some r := by first | (rw [hy135]; with_reducible exact H) | (have H2_ := (Option.bind_some _ _).symm.trans H; rw [hy135]; with_reducible exact H2_) | (have H2_ := (Option.bind_some _ _).symm.trans H; with_reducible exact H2_) | with_reducible exact H | (rw [hy135]; exact H) | exact H
   have Ny135 := mk0 hy135
   clear hy135
   obtain rfl := Option.some.inj H
   go_enter Try.func19, Try.ntmps19
   go_wp2_with (first | ((with_reducible refine gate_dst (N := 1) rfl ?_); refine box_event ?hg (N := 1) ?hd (cs := #[.slice Ap lp.length cp, .slice Aq lq.length cq, .slice Ar lr.length cr]) (t := 29) ?hr ?_; (case hd | hg => rfl); (case hr => first | (go_simp; done) | (go_simp; rfl)); intro gb130 hg w47 hbox hb; have n0_ := mk0 (below_step (hA HB.out) hb); have n1_ := mk0 (hbox); have n2_ := mk0 ((by rw [hg]; exact (below_size (hA HB.out)) : w.heap.size ≤ gb130)); have n3_ := mk0 ((by rw [hg]; exact (below_size (hA HB.out)) : w.heap.size ≤ gb130)); clear HB; have HB := n0_; have BK130 := n1_; have GW130 := n2_; have GE130 := n3_; clear n0_ n1_ n2_ n3_; clear hb hbox hg) | ((with_reducible refine gate_dst (N := 7) rfl ?_); refine Kd.R_lit k69 _ 69 ?hg (N := 7) ?hd (xs := ([] : List (S69))) (inner := []) (ok := fun _ => True) (okp := fun _ => True) ?hr ?hp (fun _ hk => hk) trivial (Below.refl _ _) (Nat.le_refl _) (by simp) ?_; (case hd | hg => rfl); (case hr => first | (go_simp; done) | (go_simp; rfl)); (case hp => exact (Reps.none _ _)); intro v132 w48 ho49 hb hg_ hnew_; clear hg_ hnew_; (first | rw [← Ny131.out] at ho49 | (simp only [Int.reduceToNat] at ho49; rw [← Ny131.out] at ho49)); have n0_ := mk0 (Kd.R_lower ho49 (below_size (hA HB.out))); have n1_ := mk0 (bB BK130.out hb); have n2_ := mk0 (below_step (hA HB.out) hb); clear BK130; clear HB; have HO133 := n0_; have BK130 := n1_; have HB := n2_; clear n0_ n1_ n2_; clear hb ho49; have hcz50_0 : w48.cell? ⟨gb130, 0, none⟩ = some (.slice Ap lp.length cp) := (blk_cell BK130.out 0).trans rfl; have hcz50_1 : w48.cell? ⟨gb130, 1, none⟩ = some (.slice Aq lq.length cq) := (blk_cell BK130.out 1).trans rfl; have hcz50_2 : w48.cell? ⟨gb130, 2, none⟩ = some (.slice Ar lr.length cr) := (blk_cell BK130.out 2).trans rfl; have hfz50_0 := blk_frozen BK130.out 0; have hfz50_1 := blk_frozen BK130.out 1; have hfz50_2 := blk_frozen BK130.out 2) | ((with_reducible refine gate_callee (f := 27) rfl ?_); refine goesL_ (some 9) rfl rfl Try.func27 (by kernel_rfl) rfl #[.agg #[.slice Ap lp.length cp, .slice Aq lq.length cq, .slice Ar lr.length cr]] rfl ar ?_; (with_reducible refine (spec_BookOk.calls k _ _ lp _ _ lq _ _ lr false _ ?side1 ?side2 ?side3 ?side4 ?side5 ?side6 A2.out).mono ?_); (case side1 => exact cA (Kd.C_below HR0_0.out HB.out)); (case side2 => exact HC0_0.out); (case side3 => exact cA (Kd.C_below HR0_1.out HB.out)); (case side4 => exact HC0_1.out); (case side5 => exact cA (Kd.C_below HR0_2.out HB.out)); (case side6 => exact HC0_2.out); rintro e w51 ⟨rfl, hb⟩; refine ⟨_, rfl, ?_⟩; have n0_ := mk0 (Kd.R_below (rA HO133.out) hb); have n1_ := mk0 (bB BK130.out hb); have n2_ := mk0 (below_step (hA HB.out) hb); clear HO133; clear BK130; clear HB; have HO133 := n0_; have BK130 := n1_; have HB := n2_; clear n0_ n1_ n2_; (try clear hb); (try clear hb2); (try clear hk); (try clear hi)) | ((with_reducible refine gate_builtin (b := .append) (xs := #[.tmp 11, .tmp 13]) rfl ?_); at_builtin; refine Kd.R_append k69 (w0 := w) w.heap.size rfl (.tmp 11) (.tmp 13) 38 69 (.agg #[(.int .i64 0), (.int .i64 0)]) 16 rfl Try.underlying38 info69 rfl (by decide) (by omega) v132 y131 (⟨7, 0⟩ : S69) [.int .i64 7, .int .i64 0] (fun _ => True) (fun _ => False) rfl rfl ?aP (fun _ hk => hk.elim) ?aF ?aO ?aB ?aS ?aL ?_; (case aP => exact k69_mkM _ _ _ (⟨7, 0⟩ : S69)); (case aB => exact (hA HB.out)); (case aF => exact (fun _ _ => trivial)); (case aO => exact (rA HO133.out)); (case aS => exact (below_size (hA HB.out))); (case aL => have := LMc46.out; omega); intro v136 w52 ho hb hg hat; rw [← Ny135.out] at ho; have n0_ := mk0 (blk_grown (g := gb130) (o := .cells #[.slice Ap lp.length cp, .slice Aq lq.length cq, .slice Ar lr.length cr] 29 (0, 0)) (bA BK130.out) hg (Kd.R_ne HO133.out BK130.out (by decide))); have n1_ := mk0 (hb); have n2_ := mk0 (ho); clear BK130; clear HB; clear HO133; have BK130 := n0_; have HB := n1_; have HO137 := n2_; clear n0_ n1_ n2_; clear ho hb hg hat))
   go_ret
   exact ⟨_, er, by refine rC (a := ?_); exact HO137.out, hA HB.out⟩
  ·rw [if_neg c46] at H
   exact absurd H (by simp)
end Go.Proofs.Ytngnkfpciloamaa.MFnBooked
