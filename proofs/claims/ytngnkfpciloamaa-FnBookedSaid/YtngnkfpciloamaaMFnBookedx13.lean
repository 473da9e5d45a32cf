/- What the code of the law FnBooked answers. -/
import Derived.Test.YtngnkfpciloamaaShortFnBooked
import Derived.Test.YtngnkfpciloamaaMFnBookedx0
import Derived.Test.YtngnkfpciloamaaMFnBookedx3
import Derived.Test.YtngnkfpciloamaaMFnBookedx4
import Derived.Test.YtngnkfpciloamaaMFnBookedx12
namespace Go.Proofs.Ytngnkfpciloamaa.MFnBooked
open Go.RowKit Go.Proofs.YtngnkfpciloamaaW.PrintWords Go.Proofs.YtngnkfpciloamaaW.PrintLast Go.Proofs.YtngnkfpciloamaaW.PrintMore
attribute [local go_sem] max2_int min2_int max_two min_two max_three min_three max_four min_four
set_option linter.unusedVariables false
set_option linter.unusedSimpArgs false
mutual
def spec_MendBook.l0 : Nat → List Int → List (S50) → Int → List (S50) → List Int → List Int → Option ((List (S50)) × List Int × List Int × List Int)
 | 0, _, _, _, _, _, _ => none
 | k + 1, x4, x5, x6, x332000, x332001, x332002 => if x6 < (x332000.length : Int) then (if 0 ≤ x6 then (spec_MendBook.l1 k x4 x5 x6 (((rd_T50 x332000 x6).f0) != ((rd_T50 x332000 x6).f1)) 0 x332000 x332001 x332002 ((rd_T50 x332000 x6).f0) ((rd_T50 x332000 x6).f1) ((rd_T50 x332000 x6).f2)) else (none)) else ((spec_l18Write.f k x5 (x332001.length : Int) (x332002.length : Int)).bind fun bt340 => (some (bt340.1, bt340.2.1, bt340.2.2, x4)))
def spec_MendBook.l1 : Nat → List Int → List (S50) → Int → Bool → Int → List (S50) → List Int → List Int → Int → Int → Int → Option ((List (S50)) × List Int × List Int × List Int)
 | 0, _, _, _, _, _, _, _, _, _, _, _ => none
 | k + 1, x4, x5, x6, x8, x9, x332000, x332001, x332002, x351000, x351001, x351002 => if x9 < (x5.length : Int) then (if x8 = true then (if 0 ≤ x9 then ((spec_l18Shares.f x351000 x351001 x351002 ((rd_T50 x5 x9).f0) ((rd_T50 x5 x9).f1) ((rd_T50 x5 x9).f2)).bind fun t352 => (spec_MendBook.l1 k x4 x5 x6 (!t352) (wrap64 (x9 + 1)) x332000 x332001 x332002 x351000 x351001 x351002)) else (none)) else (spec_MendBook.l1 k x4 x5 x6 false (wrap64 (x9 + 1)) x332000 x332001 x332002 x351000 x351001 x351002)) else (if x8 = true then (if x5.length < 5864062014805 then (spec_MendBook.l0 k x4 (x5 ++ [(⟨x351000, x351001, x351002⟩ : S50)]) (wrap64 (x6 + 1)) x332000 x332001 x332002) else (none)) else (if x4.length < 17592186044416 then (spec_MendBook.l0 k (x4 ++ [x6]) x5 (wrap64 (x6 + 1)) x332000 x332001 x332002) else (none)))
end
def spec_MendBook.f (k : Nat) (lp : List (S50)) (lq : List Int) (lr : List Int) : Option ((List (S50)) × List Int × List Int × List Int) := (some (([] : List Int) : List Int)).bind fun y333 => ((spec_BookOk.f k lp lq lr).bind fun t336 => (if t336 = true then (spec_MendBook.l0 k y333 (([] : List (S50))) 0 lp lq lr) else (some (([] : List (S50)), ([] : List Int), ([] : List Int), y333))))
theorem spec_MendBook.mono_l : ∀ k, (∀ y0 y1 y2 y3 y4 y5, LeO (spec_MendBook.l0 k y0 y1 y2 y3 y4 y5) (spec_MendBook.l0 (k + 1) y0 y1 y2 y3 y4 y5)) ∧ (∀ y0 y1 y2 y3 y4 y5 y6 y7 y8 y9 y10, LeO (spec_MendBook.l1 k y0 y1 y2 y3 y4 y5 y6 y7 y8 y9 y10) (spec_MendBook.l1 (k + 1) y0 y1 y2 y3 y4 y5 y6 y7 y8 y9 y10))
 | 0 => ⟨fun _ _ _ _ _ _ r h => by simp [spec_MendBook.l0] at h, fun _ _ _ _ _ _ _ _ _ _ _ r h => by simp [spec_MendBook.l1] at h⟩
 | k + 1 => by
  obtain ⟨ih0, ih1⟩ := spec_MendBook.mono_l k
  refine ⟨?_, ?_⟩
  ·intro y0 y1 y2 y3 y4 y5
   unfold spec_MendBook.l0
   repeat' first
   | (with_reducible exact ih0 _ _ _ _ _ _)
   | (with_reducible exact ih1 _ _ _ _ _ _ _ _ _ _ _)
   | (with_reducible exact spec_BookOk.mono _ _ _ _)
   | (with_reducible exact spec_l18Write.mono _ _ _ _)
   | (with_reducible exact LeO.refl _)
   | (with_reducible exact LeO.none _)
   | (with_reducible refine LeO.ite ?_ ?_)
   | (with_reducible refine LeO.bind ?_ (fun _ => ?_))
   | exact ih0 _ _ _ _ _ _
   | exact ih1 _ _ _ _ _ _ _ _ _ _ _
   | exact spec_BookOk.mono _ _ _ _
   | exact spec_l18Write.mono _ _ _ _
   | exact LeO.none _
   | refine LeO.ite ?_ ?_
   | refine LeO.bind ?_ (fun _ => ?_)
  ·intro y0 y1 y2 y3 y4 y5 y6 y7 y8 y9 y10
   unfold spec_MendBook.l1
   repeat' first
   | (with_reducible exact ih0 _ _ _ _ _ _)
   | (with_reducible exact ih1 _ _ _ _ _ _ _ _ _ _ _)
   | (with_reducible exact spec_BookOk.mono _ _ _ _)
   | (with_reducible exact spec_l18Write.mono _ _ _ _)
   | (with_reducible exact LeO.refl _)
   | (with_reducible exact LeO.none _)
   | (with_reducible refine LeO.ite ?_ ?_)
   | (with_reducible refine LeO.bind ?_ (fun _ => ?_))
   | exact ih0 _ _ _ _ _ _
   | exact ih1 _ _ _ _ _ _ _ _ _ _ _
   | exact spec_BookOk.mono _ _ _ _
   | exact spec_l18Write.mono _ _ _ _
   | exact LeO.none _
   | refine LeO.ite ?_ ?_
   | refine LeO.bind ?_ (fun _ => ?_)
theorem spec_MendBook.mono : ∀ a0 a1 a2 k, LeO (spec_MendBook.f k a0 a1 a2) (spec_MendBook.f (k + 1) a0 a1 a2) := by
 intro a0 a1 a2 k
 obtain ⟨ih0, ih1⟩ := spec_MendBook.mono_l k
 unfold spec_MendBook.f
 repeat' first
   | (with_reducible exact ih0 _ _ _ _ _ _)
   | (with_reducible exact ih1 _ _ _ _ _ _ _ _ _ _ _)
   | (with_reducible exact spec_BookOk.mono _ _ _ _)
   | (with_reducible exact spec_l18Write.mono _ _ _ _)
   | (with_reducible exact LeO.refl _)
   | (with_reducible exact LeO.none _)
   | (with_reducible refine LeO.ite ?_ ?_)
   | (with_reducible refine LeO.bind ?_ (fun _ => ?_))
   | exact ih0 _ _ _ _ _ _
   | exact ih1 _ _ _ _ _ _ _ _ _ _ _
   | exact spec_BookOk.mono _ _ _ _
   | exact spec_l18Write.mono _ _ _ _
   | exact LeO.none _
   | refine LeO.ite ?_ ?_
   | refine LeO.bind ?_ (fun _ => ?_)
def spec_MendBook.T13 : Bool × List (List Nat × List Nat) := (true, [([], []), ([0], [0]), ([1], [1]), ([1], [1]), ([1], [1]), ([3, 4, 1], [1, 3, 4]), ([5, 1], [1, 5]), ([2, 6, 1, 1], [1, 2, 6]), ([7, 1], [1, 7]), ([1, 8], [1, 8]), ([9, 7, 0, 1, 2, 3, 4, 5, 6, 7, 8, 9], [0, 9])])
def spec_MendBook.B13 : List Nat := [0, 1, 3, 3, 3, 27, 59, 127, 255, 511, 1023]
theorem spec_MendBook.tab13 : rtab .any (opsOf Try.f10 13) = spec_MendBook.T13 := by kernel_rfl
theorem spec_MendBook.bits13 : waitsOk spec_MendBook.T13.2 spec_MendBook.B13 = true := by kernel_rfl
set_option maxHeartbeats 8000000 in
set_option maxRecDepth 100000 in
theorem spec_MendBook.calls (k : Nat) (Ap : Option Addr) (cp : Nat) (lp : List (S50)) (Aq : Option Addr) (cq : Nat) (lq : List Int) (Ar : Option Addr) (cr : Nat) (lr : List Int) (r1 : List (S50)) (r2 : List Int) (r3 : List Int) (r4 : List Int) (w : World) (hr0_0 : Kd.C k50 w Ap lp.length lp) (hc0_0 : lp.length ≤ cp) (hr0_1 : Kd.C (Kd.int .i64) w Aq lq.length lq) (hc0_1 : lq.length ≤ cq) (hr0_2 : Kd.C (Kd.int .i64) w Ar lr.length lr) (hc0_2 : lr.length ≤ cr) (h : spec_MendBook.f k lp lq lr = some (r1, r2, r3, r4)) :
  Calls Try.prog 10 #[.agg #[.slice Ap lp.length cp, .slice Aq lq.length cq, .slice Ar lr.length cr]] w fun e w' => ∃ v0_ v1_ v2_ v3_ : Value, e = .returned (.tuple #[.agg #[v0_, v1_, v2_], v3_]) ∧ Kd.R k50 50 w' w.heap.size (fun _ => True) v0_ r1 ∧ Kd.R (Kd.int .i64) 3 w' w.heap.size (fun k_ => some k_ ≠ (v2_ : Value).ownBlock ∧ some k_ ≠ (v3_ : Value).ownBlock) v1_ r2 ∧ Kd.R (Kd.int .i64) 3 w' w.heap.size (fun k_ => some k_ ≠ (v1_ : Value).ownBlock ∧ some k_ ≠ (v3_ : Value).ownBlock) v2_ r3 ∧ Kd.R (Kd.int .i64) 3 w' w.heap.size (fun k_ => some k_ ≠ (v1_ : Value).ownBlock ∧ some k_ ≠ (v2_ : Value).ownBlock) v3_ r4 ∧ Below w.heap.size w w' := by
 have hu29 := Try.underlying29
 have hu50 := Try.underlying50
 have HR0_0 := mk0 hr0_0
 have HC0_0 := mk0 hc0_0
 clear hr0_0 hc0_0
 have HR0_1 := mk0 hr0_1
 have HC0_1 := mk0 hc0_1
 clear hr0_1 hc0_1
 have HR0_2 := mk0 hr0_2
 have HC0_2 := mk0 hc0_2
 clear hr0_2 hc0_2
 have HB := mk0 (Below.refl w.heap.size w)
 have H : ((some (([] : List Int) : List Int)).bind fun y333 => ((spec_BookOk.f k lp lq lr).bind fun t336 => (if t336 = true then (spec_MendBook.l0 k y333 (([] : List (S50))) 0 lp lq lr) else (some (([] : List (S50)), ([] : List Int), ([] : List Int), y333))))) = some (r1, r2, r3, r4) := h
 clear h
 obtain ⟨y333, hy333⟩ : ∃ y_ : List Int, y_ = (([] : List Int)) := ⟨_, rfl⟩
 replace H : ((spec_BookOk.f k lp lq lr).bind fun t336 => (if t336 = true then (spec_MendBook.l0 k y333 (([] : List (S50))) 0 lp lq lr) else (some (([] : List (S50)), ([] : List Int), ([] : List Int), y333)))) = some (r1, r2, r3, r4) := by first | (rw [hy333]; with_reducible exact H) | (have H2_ := (Option.bind_some _ _).symm.trans H; rw [hy333]; with_reducible exact H2_) | (have H2_ := (Option.bind_some _ _).symm.trans H; with_reducible exact H2_) | with_reducible exact H | (rw [hy333]; exact H) | exact H
 have Ny333 := mk0 hy333
 clear hy333
 replace H := Option.bind_eq_some_iff.mp H
 obtain ⟨t336, A20, H⟩ := H
 replace H : (if t336 = true then (spec_MendBook.l0 k y333 (([] : List (S50))) 0 lp lq lr) else (some (([] : List (S50)), ([] : List Int), ([] : List Int), y333))) = some (r1, r2, r3, r4) := H
 have A2 := mk0 A20
 clear A20
 by_cases c3 : t336 = true
 ·subst c3
  have H1 : (spec_MendBook.l0 k y333 (([] : List (S50))) 0 lp lq lr) = some (r1, r2, r3, r4) := by rw [if_pos rfl] at H; exact H
  clear H
  have H := H1
  clear H1
  obtain ⟨y337, hy337⟩ : ∃ y_ : List (S50), y_ = (([] : List (S50))) := ⟨_, rfl⟩
  replace H : (spec_MendBook.l0 k y333 y337 0 lp lq lr) = some (r1, r2, r3, r4) := by first | (rw [hy337]; with_reducible exact H) | (have H2_ := (Option.bind_some _ _).symm.trans H; rw [hy337]; with_reducible exact H2_) | (have H2_ := (Option.bind_some _ _).symm.trans H; with_reducible exact H2_) | with_reducible exact H | (rw [hy337]; exact H) | exact H
  have Ny337 := mk0 hy337
  clear hy337
  have H' := mk0 H
  clear H
  go_enter Try.func10, Try.ntmps10
  go_wp2_with (first | ((with_reducible refine gate_dst (N := 1) rfl ?_); refine box_event ?hg (N := 1) ?hd (cs := #[.slice Ap lp.length cp, .slice Aq lq.length cq, .slice Ar lr.length cr]) (t := 29) ?hr ?_; (case hd | hg => rfl); (case hr => first | (go_simp; done) | (go_simp; rfl)); intro gb331 hg w4 hbox hb; have n0_ := mk0 (below_step (hA HB.out) hb); have n1_ := mk0 (hbox); have n2_ := mk0 ((by rw [hg]; exact (below_size (hA HB.out)) : w.heap.size ≤ gb331)); have n3_ := mk0 ((by rw [hg]; exact (below_size (hA HB.out)) : w.heap.size ≤ gb331)); clear HB; have HB := n0_; have BK331 := n1_; have GW331 := n2_; have GE331 := n3_; clear n0_ n1_ n2_ n3_; clear hb hbox hg) | ((with_reducible refine gate_dst (N := 2) rfl ?_); refine box_event ?hg (N := 2) ?hd (cs := #[.slice none 0 0, .slice none 0 0, .slice none 0 0]) (t := 29) ?hr ?_; (case hd | hg => rfl); (case hr => first | (go_simp; done) | (go_simp; rfl)); intro gb332 hg w5 hbox hb; have n0_ := mk0 (bB BK331.out hb); have n1_ := mk0 (below_step (hA HB.out) hb); have n2_ := mk0 (hbox); have n3_ := mk0 ((by rw [hg]; exact (below_size (hA HB.out)) : w.heap.size ≤ gb332)); have n4_ := mk0 ((by rw [hg]; exact (below_size (hA HB.out)) : w.heap.size ≤ gb332)); have n5_ := mk0 ((by rw [hg]; exact Nat.ne_of_lt (blk_lt (g := gb331) (o := .cells #[.slice Ap lp.length cp, .slice Aq lq.length cq, .slice Ar lr.length cr] 29 (0, 0)) (bA BK331.out)) : gb331 ≠ gb332)); have n6_ := mk0 ((by rw [hg]; exact Nat.ne_of_gt (blk_lt (g := gb331) (o := .cells #[.slice Ap lp.length cp, .slice Aq lq.length cq, .slice Ar lr.length cr] 29 (0, 0)) (bA BK331.out)) : gb332 ≠ gb331)); clear BK331; clear HB; have BK331 := n0_; have HB := n1_; have BK332 := n2_; have GW332 := n3_; have GE332 := n4_; have NB331_332 := n5_; have NB332_331 := n6_; clear n0_ n1_ n2_ n3_ n4_ n5_ n6_; clear hb hbox hg) | ((with_reducible refine gate_dst (N := 10) rfl ?_); refine Kd.R_lit (Kd.int .i64) _ 3 ?hg (N := 10) ?hd (xs := ([] : List Int)) (inner := []) (ok := fun _ => True) (okp := fun _ => True) ?hr ?hp (fun _ hk => hk) trivial (Below.refl _ _) (Nat.le_refl _) (by simp) ?_; (case hd | hg => rfl); (case hr => first | (go_simp; done) | (go_simp; rfl)); (case hp => exact (Reps.none _ _)); intro v334 w6 ho7 hb hg_ hnew_; clear hg_ hnew_; (first | rw [← Ny333.out] at ho7 | (simp only [Int.reduceToNat] at ho7; rw [← Ny333.out] at ho7)); have n0_ := mk0 (Kd.R_lower ho7 (below_size (hA HB.out))); have n1_ := mk0 (bB BK331.out hb); have n2_ := mk0 (bB BK332.out hb); have n3_ := mk0 (below_step (hA HB.out) hb); clear BK331; clear BK332; clear HB; have HO335 := n0_; have BK331 := n1_; have BK332 := n2_; have HB := n3_; clear n0_ n1_ n2_ n3_; clear hb ho7; have hnb8 := NB331_332.out; have hnc8 := NB332_331.out; have hcz9_0 : w6.cell? ⟨gb331, 0, none⟩ = some (.slice Ap lp.length cp) := (blk_cell BK331.out 0).trans rfl; have hcz9_1 : w6.cell? ⟨gb331, 1, none⟩ = some (.slice Aq lq.length cq) := (blk_cell BK331.out 1).trans rfl; have hcz9_2 : w6.cell? ⟨gb331, 2, none⟩ = some (.slice Ar lr.length cr) := (blk_cell BK331.out 2).trans rfl; have hfz9_0 := blk_frozen BK331.out 0; have hfz9_1 := blk_frozen BK331.out 1; have hfz9_2 := blk_frozen BK331.out 2) | ((with_reducible refine gate_callee (f := 27) rfl ?_); refine goesL_ (some 12) rfl rfl Try.func27 (by kernel_rfl) rfl #[.agg #[.slice Ap lp.length cp, .slice Aq lq.length cq, .slice Ar lr.length cr]] rfl ar ?_; (with_reducible refine (spec_BookOk.calls k _ _ lp _ _ lq _ _ lr true _ ?side1 ?side2 ?side3 ?side4 ?side5 ?side6 A2.out).mono ?_); (case side1 => exact cA (Kd.C_below HR0_0.out HB.out)); (case side2 => exact HC0_0.out); (case side3 => exact cA (Kd.C_below HR0_1.out HB.out)); (case side4 => exact HC0_1.out); (case side5 => exact cA (Kd.C_below HR0_2.out HB.out)); (case side6 => exact HC0_2.out); rintro e w10 ⟨rfl, hb⟩; refine ⟨_, rfl, ?_⟩; have n0_ := mk0 (Kd.R_below (rA HO335.out) hb); have n1_ := mk0 (bB BK331.out hb); have n2_ := mk0 (bB BK332.out hb); have n3_ := mk0 (below_step (hA HB.out) hb); clear HO335; clear BK331; clear BK332; clear HB; have HO335 := n0_; have BK331 := n1_; have BK332 := n2_; have HB := n3_; clear n0_ n1_ n2_ n3_; (try clear hb); (try clear hb2); (try clear hk); (try clear hi)) | ((with_reducible refine gate_dst (N := 16) rfl ?_); refine Kd.R_lit k50 _ 50 ?hg (N := 16) ?hd (xs := ([] : List (S50))) (inner := []) (ok := fun _ => True) (okp := fun _ => True) ?hr ?hp (fun _ hk => hk) trivial (Below.refl _ _) (Nat.le_refl _) (by simp) ?_; (case hd | hg => rfl); (case hr => first | (go_simp; done) | (go_simp; rfl)); (case hp => exact (Reps.none _ _)); intro v338 w11 ho12 hb hg_ hnew_; clear hg_ hnew_; (first | rw [← Ny337.out] at ho12 | (simp only [Int.reduceToNat] at ho12; rw [← Ny337.out] at ho12)); have n0_ := mk0 (Kd.R_below (rA HO335.out) hb); have n1_ := mk0 (Kd.R_lower ho12 (below_size (hA HB.out))); have n2_ := mk0 (bB BK331.out hb); have n3_ := mk0 (bB BK332.out hb); have n4_ := mk0 (below_step (hA HB.out) hb); clear HO335; clear BK331; clear BK332; clear HB; have HO335 := n0_; have HO339 := n1_; have BK331 := n2_; have BK332 := n3_; have HB := n4_; clear n0_ n1_ n2_ n3_ n4_; clear hb ho12))
  go_loopg [4, 5, 6] k (fun kq v4 v5 v6 w' => ∃ (x4_1 : List Int) (x5_1 : List (S50)) (x6_1 : Int), v6 = .int .i64 x6_1 ∧ Aside0 (spec_MendBook.l0 kq x4_1 x5_1 x6_1 lp lq lr = some (r1, r2, r3, r4)) ∧ Aside0 (kq ≤ k) ∧ Aside0 (Kd.R (Kd.int .i64) 3 w' w.heap.size (fun _ => True) v4 x4_1) ∧ Aside0 (Kd.R k50 50 w' w.heap.size (fun _ => True) v5 x5_1) ∧ Aside0 (w'.heap[gb331]? = some (.cells #[(.slice Ap lp.length cp), (.slice Aq lq.length cq), (.slice Ar lr.length cr)] 29 (0, 0))) ∧ Aside0 (w'.heap[gb332]? = some (.cells #[(.slice none 0 0), (.slice none 0 0), (.slice none 0 0)] 29 (0, 0))) ∧ Aside0 (Below w.heap.size w w'))
  case atStart => exact ⟨(y333), (y337), (0), rs, H', ⟨Nat.le_refl _⟩, ⟨by refine rC (a := ?_); exact HO335.out⟩, ⟨by refine rC (a := ?_); exact HO339.out⟩, ⟨by refine bC (a := ?_); exact BK331.out⟩, ⟨by refine bC (a := ?_); exact BK332.out⟩, ⟨hA HB.out⟩⟩
  case round =>
   clear H'
   (try clear c1); (try clear c2); (try clear p2); (try clear c3); (try clear c8); (try clear c10); (try clear hcz9_0); (try clear hcz9_1); (try clear hcz9_2); (try clear hfz9_0); (try clear hfz9_1); (try clear hfz9_2)
   obtain ⟨x4_1, x5_1, x6_1, rfl, HA, HK1, HO_4, HO_5, BK331, BK332, HB⟩ := hrel
   cases gk with
   | zero => exact absurd HA.out (by simp [spec_MendBook.l0])
   | succ k1 =>
    have H := HA.out
    clear HA
    simp only [spec_MendBook.l0] at H
    by_cases c13 : x6_1 < (lp.length : Int)
    ·rw [if_pos c13] at H
     have c13b0 : decide (x6_1 < (lp.length : Int)) = true := decide_eq_true c13
     clear c13
     by_cases c14 : 0 ≤ x6_1
     ·rw [if_pos c14] at H
      have c14b0 : decide (0 ≤ x6_1) = true := decide_eq_true c14
      clear c14
      have H' := mk0 H
      clear H
      have hnb15 := NB331_332.out
      have hnc15 := NB332_331.out
      have hcz16_0 : wr.cell? ⟨gb331, 0, none⟩ = some (.slice Ap lp.length cp) := (blk_cell BK331.out 0).trans rfl
      have hcz16_1 : wr.cell? ⟨gb331, 1, none⟩ = some (.slice Aq lq.length cq) := (blk_cell BK331.out 1).trans rfl
      have hcz16_2 : wr.cell? ⟨gb331, 2, none⟩ = some (.slice Ar lr.length cr) := (blk_cell BK331.out 2).trans rfl
      have hfz16_0 := blk_frozen BK331.out 0
      have hfz16_1 := blk_frozen BK331.out 1
      have hfz16_2 := blk_frozen BK331.out 2
      have p349 : 0 ≤ (x6_1 : Int) := of_decide_eq_true sm
      have q349 : x6_1 < (lp.length : Int) := of_decide_eq_true sm
      obtain ⟨ad349, e349, hx349_0, hx349_1, hx349_2⟩ := at_T50 HR0_0.out x6_1 p349 q349
      cases e349
      try (replace hx349_0 := (HB.out.cell (World.block_lt_of_cell? w _ hx349_0)).trans hx349_0)
      try (replace hx349_1 := (HB.out.cell (World.block_lt_of_cell? w _ hx349_1)).trans hx349_1)
      try (replace hx349_2 := (HB.out.cell (World.block_lt_of_cell? w _ hx349_2)).trans hx349_2)
      replace p349 := eq_true p349
      replace q349 := eq_true q349
      go_wp2_with (first | ((with_reducible refine gate_dst (N := 7) rfl ?_); refine box_event ?hg (N := 7) ?hd (cs := #[.int .i64 0, .int .i64 0, .int .i64 0]) (t := 50) ?hr ?_; (case hd | hg => rfl); (case hr => first | (go_simp; done) | (go_simp; rfl)); intro gb350 hg w17 hbox hb; have n0_ := mk0 (Kd.R_below (rA HO_4.out) hb); have n1_ := mk0 (Kd.R_below (Kd.R_elderB (rA HO_5.out) gb350 (Nat.le_of_eq hg.symm)) hb); have n2_ := mk0 (bB BK331.out hb); have n3_ := mk0 (bB BK332.out hb); have n4_ := mk0 (below_step (hA HB.out) hb); have n5_ := mk0 (hbox); have n6_ := mk0 ((by rw [hg]; exact (below_size (hA HB.out)) : w.heap.size ≤ gb350)); have n7_ := mk0 ((by rw [hg]; exact (below_size (hA HB.out)) : w.heap.size ≤ gb350)); have n8_ := mk0 ((by rw [hg]; exact Nat.ne_of_lt (blk_lt (g := gb331) (o := .cells #[.slice (some ad349) lp.length cp, .slice Aq lq.length cq, .slice Ar lr.length cr] 29 (0, 0)) (bA BK331.out)) : gb331 ≠ gb350)); have n9_ := mk0 ((by rw [hg]; exact Nat.ne_of_gt (blk_lt (g := gb331) (o := .cells #[.slice (some ad349) lp.length cp, .slice Aq lq.length cq, .slice Ar lr.length cr] 29 (0, 0)) (bA BK331.out)) : gb350 ≠ gb331)); have n10_ := mk0 ((by rw [hg]; exact Nat.ne_of_lt (blk_lt (g := gb332) (o := .cells #[.slice none 0 0, .slice none 0 0, .slice none 0 0] 29 (0, 0)) (bA BK332.out)) : gb332 ≠ gb350)); have n11_ := mk0 ((by rw [hg]; exact Nat.ne_of_gt (blk_lt (g := gb332) (o := .cells #[.slice none 0 0, .slice none 0 0, .slice none 0 0] 29 (0, 0)) (bA BK332.out)) : gb350 ≠ gb332)); clear HO_4; clear HO_5; clear BK331; clear BK332; clear HB; have HO_4 := n0_; have HO_5 := n1_; have BK331 := n2_; have BK332 := n3_; have HB := n4_; have BK350 := n5_; have GW350 := n6_; have GE350 := n7_; have NB331_350 := n8_; have NB350_331 := n9_; have NB332_350 := n10_; have NB350_332 := n11_; clear n0_ n1_ n2_ n3_ n4_ n5_ n6_ n7_ n8_ n9_ n10_ n11_; clear hb hbox hg; have hnb18 := NB350_331.out; have hnc18 := NB331_350.out; have hnb19 := NB350_332.out; have hnc19 := NB332_350.out; have hcz20_0 : w17.cell? ⟨gb350, 0, none⟩ = some (.int .i64 0) := (blk_cell BK350.out 0).trans rfl; have hcz20_1 : w17.cell? ⟨gb350, 1, none⟩ = some (.int .i64 0) := (blk_cell BK350.out 1).trans rfl; have hcz20_2 : w17.cell? ⟨gb350, 2, none⟩ = some (.int .i64 0) := (blk_cell BK350.out 2).trans rfl; have hfz20_0 := blk_frozen BK350.out 0; have hfz20_1 := blk_frozen BK350.out 1; have hfz20_2 := blk_frozen BK350.out 2))
      go_loopg [8, 9] k1 (fun kq v8 v9 w' => ∃ (x8_2 : Bool) (x9_2 : Int), v8 = .bool x8_2 ∧ v9 = .int .i64 x9_2 ∧ Aside0 (spec_MendBook.l1 kq x4_1 x5_1 x6_1 x8_2 x9_2 lp lq lr ((rd_T50 lp x6_1).f0) ((rd_T50 lp x6_1).f1) ((rd_T50 lp x6_1).f2) = some (r1, r2, r3, r4)) ∧ Aside0 (kq ≤ k1) ∧ Aside0 (Kd.R (Kd.int .i64) 3 w' w.heap.size (fun _ => True) u4 x4_1) ∧ Aside0 (Kd.R k50 50 w' w.heap.size (fun k_ => k_ ≠ gb350) u5 x5_1) ∧ Aside0 (w'.heap[gb331]? = some (.cells #[(.slice (some ad349) lp.length cp), (.slice Aq lq.length cq), (.slice Ar lr.length cr)] 29 (0, 0))) ∧ Aside0 (w'.heap[gb332]? = some (.cells #[(.slice none 0 0), (.slice none 0 0), (.slice none 0 0)] 29 (0, 0))) ∧ Aside0 (w'.heap[gb350]? = some (.cells #[.int .i64 ((rd_T50 lp x6_1).f0), .int .i64 ((rd_T50 lp x6_1).f1), .int .i64 ((rd_T50 lp x6_1).f2)] 50 (0, 0))) ∧ Aside0 (Below w.heap.size w w'))
      case atStart => exact ⟨((((rd_T50 lp x6_1).f0) != ((rd_T50 lp x6_1).f1))), (0), rs, rs, H', ⟨Nat.le_refl _⟩, ⟨by refine rC (a := ?_); exact Kd.R_mono (Kd.R_far (p := ⟨gb350, 2, none⟩) (Kd.R_far (p := ⟨gb350, 1, none⟩) (Kd.R_far (p := ⟨gb350, 0, none⟩) (Kd.R_types HO_4.out BK350.out (by decide)) (fun _ hk => hk.2) (.int .i64 ((rd_T50 lp x6_1).f0))) (fun _ hk => hk.2) (.int .i64 ((rd_T50 lp x6_1).f1))) (fun _ hk => hk.2) (.int .i64 ((rd_T50 lp x6_1).f2))) (fun _ hk => trivial)⟩, ⟨by refine rC (a := ?_); exact Kd.R_mono (Kd.R_far (p := ⟨gb350, 2, none⟩) (Kd.R_far (p := ⟨gb350, 1, none⟩) (Kd.R_far (p := ⟨gb350, 0, none⟩) (Kd.R_mono HO_5.out (fun k_ hk => (⟨hk, hk.2⟩ : _ ∧ k_ ≠ gb350))) (fun _ hk => hk.2) (.int .i64 ((rd_T50 lp x6_1).f0))) (fun _ hk => hk.2) (.int .i64 ((rd_T50 lp x6_1).f1))) (fun _ hk => hk.2) (.int .i64 ((rd_T50 lp x6_1).f2))) (fun _ hk => hk.1.2)⟩, ⟨by refine bC (a := ?_); refine blk_far ?_ NB331_350.out _; refine bC (a := ?_); refine blk_far ?_ NB331_350.out _; refine bC (a := ?_); refine blk_far ?_ NB331_350.out _; refine bC (a := ?_); exact BK331.out⟩, ⟨by refine bC (a := ?_); refine blk_far ?_ NB332_350.out _; refine bC (a := ?_); refine blk_far ?_ NB332_350.out _; refine bC (a := ?_); refine blk_far ?_ NB332_350.out _; refine bC (a := ?_); exact BK332.out⟩, ⟨by refine bC (a := ?_); refine blk_put (cs := #[.int .i64 ((rd_T50 lp x6_1).f0), .int .i64 ((rd_T50 lp x6_1).f1), .int .i64 0]) ?_ 2 _ rfl; refine bC (a := ?_); refine blk_put (cs := #[.int .i64 ((rd_T50 lp x6_1).f0), .int .i64 0, .int .i64 0]) ?_ 1 _ rfl; refine bC (a := ?_); refine blk_put (cs := #[.int .i64 0, .int .i64 0, .int .i64 0]) ?_ 0 _ rfl; refine bC (a := ?_); exact BK350.out⟩, ⟨hA HB.out⟩⟩
      case round =>
       clear H'
       (try clear c1); (try clear c2); (try clear p2); (try clear c3); (try clear p3); (try clear q3); (try clear hx3); (try clear c8); (try clear c10); (try clear c13); (try clear c13b0); (try clear c14); (try clear c14b0); (try clear c15); (try clear c18); (try clear c19); (try clear hcz16_0); (try clear hcz16_1); (try clear hcz16_2); (try clear hcz20_0); (try clear hcz20_1); (try clear hcz20_2); (try clear hcz9_0); (try clear hcz9_1); (try clear hcz9_2); (try clear hfz16_0); (try clear hfz16_1); (try clear hfz16_2); (try clear hfz20_0); (try clear hfz20_1); (try clear hfz20_2); (try clear hfz9_0); (try clear hfz9_1); (try clear hfz9_2); (try clear hx349_0); (try clear hx349_1); (try clear hx349_2); (try clear p2); (try clear p349); (try clear q349)
       obtain ⟨x8_2, x9_2, rfl, rfl, HA, HK2, HO_4, HO_5, BK331, BK332, BK350, HB⟩ := hrel
       cases gk with
       | zero => exact absurd HA.out (by simp [spec_MendBook.l1])
       | succ k2 =>
        have H := HA.out
        clear HA
        simp only [spec_MendBook.l1] at H
        by_cases c21 : x9_2 < (x5_1.length : Int)
        ·rw [if_pos c21] at H
         have c21b0 : decide (x9_2 < (x5_1.length : Int)) = true := decide_eq_true c21
         clear c21
         by_cases c22 : x8_2 = true
         ·subst c22
          have H1 : (if 0 ≤ x9_2 then ((spec_l18Shares.f ((rd_T50 lp x6_1).f0) ((rd_T50 lp x6_1).f1) ((rd_T50 lp x6_1).f2) ((rd_T50 x5_1 x9_2).f0) ((rd_T50 x5_1 x9_2).f1) ((rd_T50 x5_1 x9_2).f2)).bind fun t352 => (spec_MendBook.l1 k2 x4_1 x5_1 x6_1 (!t352) (wrap64 (x9_2 + 1)) lp lq lr ((rd_T50 lp x6_1).f0) ((rd_T50 lp x6_1).f1) ((rd_T50 lp x6_1).f2))) else (none)) = some (r1, r2, r3, r4) := by rw [if_pos rfl] at H; exact H
          clear H
          have H := H1
          clear H1
          by_cases c23 : 0 ≤ x9_2
          ·rw [if_pos c23] at H
           have c23b0 : decide (0 ≤ x9_2) = true := decide_eq_true c23
           clear c23
           replace H := Option.bind_eq_some_iff.mp H
           obtain ⟨t352, A240, H⟩ := H
           replace H : (spec_MendBook.l1 k2 x4_1 x5_1 x6_1 (!t352) (wrap64 (x9_2 + 1)) lp lq lr ((rd_T50 lp x6_1).f0) ((rd_T50 lp x6_1).f1) ((rd_T50 lp x6_1).f2)) = some (r1, r2, r3, r4) := H
           have A24 := mk0 A240
           clear A240
           have H' := mk0 H
           clear H
           obtain ⟨Ao25, co25, eo25⟩ := Kd.R_slice HO_5.out
           subst eo25
           try go_wp2
           have n0_ := mk0 (Kd.R_drew HO_4.out)
           have n1_ := mk0 (Kd.R_drew HO_5.out)
           have n2_ := mk0 (blk_drew BK331.out)
           have n3_ := mk0 (blk_drew BK332.out)
           have n4_ := mk0 (blk_drew BK350.out)
           have n5_ := mk0 (below_drew1 HB.out)
           clear HO_4
           clear HO_5
           clear BK331
           clear BK332
           clear BK350
           clear HB
           have HO_4 := n0_
           have HO_5 := n1_
           have BK331 := n2_
           have BK332 := n3_
           have BK350 := n4_
           have HB := n5_
           clear n0_ n1_ n2_ n3_ n4_ n5_
           have p351 : 0 ≤ (x9_2 : Int) := of_decide_eq_true sm
           have q351 : x9_2 < (x5_1.length : Int) := of_decide_eq_true sm
           obtain ⟨ad351, e351, hx351_0, hx351_1, hx351_2⟩ := at_T50 (Kd.R_reads' HO_5.out).2.2 x9_2 p351 q351
           cases e351
           replace p351 := eq_true p351
           replace q351 := eq_true q351
           refine start_ (n := 11) (S := fun w' => w'.cell? ⟨gb350, 0, none⟩ = some (.int .i64 ((rd_T50 lp x6_1).f0)) ∧ w'.cell? ⟨gb350, 1, none⟩ = some (.int .i64 ((rd_T50 lp x6_1).f1)) ∧ w'.cell? ⟨gb350, 2, none⟩ = some (.int .i64 ((rd_T50 lp x6_1).f2)) ∧ w'.cell? (ad351.add ((x9_2).toNat * 3)) = some (.int .i64 ((rd_T50 x5_1 x9_2).f0)) ∧ w'.cell? ⟨(ad351.add ((x9_2).toNat * 3)).block, (ad351.add ((x9_2).toNat * 3)).off + 1, none⟩ = some (.int .i64 ((rd_T50 x5_1 x9_2).f1)) ∧ w'.cell? ⟨(ad351.add ((x9_2).toNat * 3)).block, (ad351.add ((x9_2).toNat * 3)).off + 2, none⟩ = some (.int .i64 ((rd_T50 x5_1 x9_2).f2))) (ds := []) #[O,O,O,O,O,O,O,O,O,O,O] (by kernel_rfl) rfl rfl ⟨(blk_cell BK350.out 0).trans rfl, (blk_cell BK350.out 1).trans rfl, (blk_cell BK350.out 2).trans rfl, hx351_0, hx351_1, hx351_2⟩ (fun hHeld => ?_); refine with_tabW spec_MendBook.tab13 spec_MendBook.bits13 (fun HT_ HW_ => ?_)
           generalize wr.drew = w26 at HO_4 HO_5 BK331 BK332 BK350 HB hx351_0 hx351_1 hx351_2 hHeld ⊢
           refine pure_ (i := 0) (N := some 40) (v := ?_) (a' := ?_) #[I,O,O,O,O,O,O,O,O,O,O] rfl rfl (any_of HT_.out (by kernel_rfl)) (fun _ _ _ h => h) (Or.inl ⟨by rfl, ?_⟩) ?_ ?_
           rotate_left
           ·intro w'
            go_simp
            with_reducible rfl
           rotate_left
           ·simp only [Act.put, s1, s2, s3, i64_w]
            rfl
           refine pure_ (i := 1) (N := some 41) (v := ?_) (a' := ?_) #[I,I,O,O,O,O,O,O,O,O,O] rfl rfl (any_of HT_.out (by kernel_rfl)) (fun _ _ _ h => h) (Or.inl ⟨by rfl, ?_⟩) ?_ ?_
           rotate_left
           ·intro w'
            go_simp
            with_reducible rfl
           rotate_left
           ·simp only [Act.put, s1, s2, s3, i64_w]
            rfl
           refine pure_ (i := 3) (N := some 43) (v := ?_) (a' := ?_) #[I,I,O,I,O,O,O,O,O,O,O] rfl rfl (any_of HT_.out (by kernel_rfl)) (fun _ _ _ h => h) (Or.inl ⟨by rfl, ?_⟩) ?_ ?_
           rotate_left
           ·intro w'
            go_simp
            with_reducible rfl
           rotate_left
           ·simp only [Act.put, s1, s2, s3, i64_w]
            rfl
           refine pure_ (i := 4) (N := some 44) (v := ?_) (a' := ?_) #[I,I,O,I,I,O,O,O,O,O,O] rfl rfl (any_of HT_.out (by kernel_rfl)) (fun _ _ _ h => h) (Or.inl ⟨by rfl, ?_⟩) ?_ ?_
           rotate_left
           ·intro w'
            go_simp
            with_reducible rfl
           rotate_left
           ·simp only [Act.put, s1, s2, s3, i64_w]
            rfl
           refine pure_ (i := 5) (N := some 45) (v := ?_) (a' := ?_) #[I,I,O,I,I,I,O,O,O,O,O] rfl rfl (any_of HT_.out (by kernel_rfl)) (fun _ _ _ h => h) (Or.inl ⟨by rfl, ?_⟩) ?_ ?_
           rotate_left
           ·intro w'
            go_simp
            with_reducible rfl
           rotate_left
           ·simp only [Act.put, s1, s2, s3, i64_w]
            rfl
           refine take_ (i := 2) (N := some 42) (v := ?_) (a' := ?_) #[I,I,I,I,I,I,O,O,O,O,O] rfl rfl (take_ofW HT_.out HW_.out (by kernel_rfl)) (fun _ _ _ h => h) (Or.inl ⟨by rfl, ?_⟩) hHeld ?_ ?_
           rotate_left
           ·rintro w' ⟨s0, s1, s2, s3, s4, s5⟩
            go_simp
            with_reducible rfl
           rotate_left
           ·simp only [Act.put, s1, s2, s3, i64_w]
            rfl
           refine take_ (i := 6) (N := some 46) (v := ?_) (a' := ?_) #[I,I,I,I,I,I,I,O,O,O,O] rfl rfl (take_ofW HT_.out HW_.out (by kernel_rfl)) (fun _ _ _ h => h) (Or.inl ⟨by rfl, ?_⟩) hHeld ?_ ?_
           rotate_left
           ·rintro w' ⟨s0, s1, s2, s3, s4, s5⟩
            go_simp
            with_reducible rfl
           rotate_left
           ·simp only [Act.put, s1, s2, s3, i64_w]
            rfl
           refine one_ (i := 7) (N := some 47) #[I,I,I,I,I,I,I,I,O,O,O] rfl rfl (one_of HT_.out (by kernel_rfl)) (by decide) (fun K hK => ?_)
           refine goes_ Try.func36 (by kernel_rfl) rfl #[.agg #[.int .i64 ((rd_T50 lp x6_1).f0), .int .i64 ((rd_T50 lp x6_1).f1), .int .i64 ((rd_T50 lp x6_1).f2)], .agg #[.int .i64 ((rd_T50 x5_1 x9_2).f0), .int .i64 ((rd_T50 x5_1 x9_2).f1), .int .i64 ((rd_T50 x5_1 x9_2).f2)]] (by rfl) rfl rfl ar ?_
           with_reducible refine (spec_l18Shares.calls ((rd_T50 lp x6_1).f0) ((rd_T50 lp x6_1).f1) ((rd_T50 lp x6_1).f2) ((rd_T50 x5_1 x9_2).f0) ((rd_T50 x5_1 x9_2).f1) ((rd_T50 x5_1 x9_2).f2) t352 _ A24.out).mono ?_
           rintro e w27 ⟨rfl, hb⟩
           have HS3_ := (hb.cell (World.block_lt_of_cell? _ _ (hHeld.2.2.2.1))).trans (hHeld.2.2.2.1)
           have HS4_ := (hb.cell (World.block_lt_of_cell? _ _ (hHeld.2.2.2.2.1))).trans (hHeld.2.2.2.2.1)
           have HS5_ := (hb.cell (World.block_lt_of_cell? _ _ (hHeld.2.2.2.2.2))).trans (hHeld.2.2.2.2.2)
           refine ⟨_, rfl, ?_⟩
           have n0_ := mk0 (Kd.R_below (rA HO_4.out) hb)
           have n1_ := mk0 (Kd.R_below (rA HO_5.out) hb)
           have n2_ := mk0 (bB BK331.out hb)
           have n3_ := mk0 (bB BK332.out hb)
           have n4_ := mk0 (bB BK350.out hb)
           have n5_ := mk0 (below_step (hA HB.out) hb)
           clear HO_4
           clear HO_5
           clear BK331
           clear BK332
           clear BK350
           clear HB
           have HO_4 := n0_
           have HO_5 := n1_
           have BK331 := n2_
           have BK332 := n3_
           have BK350 := n4_
           have HB := n5_
           clear n0_ n1_ n2_ n3_ n4_ n5_
           (try clear hb); (try clear hb2); (try clear hk); (try clear hi)
           refine hK.out _ _ ⟨(blk_cell BK350.out 0).trans rfl, (blk_cell BK350.out 1).trans rfl, (blk_cell BK350.out 2).trans rfl, HS3_, HS4_, HS5_⟩ (fun hHeld => ?_)
           clear hK K
           refine norm_ (a' := ?_) ?_ ?_
           rotate_left
           ·show Act.put _ (some 47) _ = _
            simp only [Act.put, s1, s2, s3, i64_w]
            rfl
           refine pure_ (i := 8) (N := some 48) (v := ?_) (a' := ?_) #[I,I,I,I,I,I,I,I,I,O,O] rfl rfl (any_of HT_.out (by kernel_rfl)) (fun _ _ _ h => h) (Or.inl ⟨by rfl, ?_⟩) ?_ ?_
           rotate_left
           ·intro w'
            go_simp
            with_reducible rfl
           rotate_left
           ·simp only [Act.put, s1, s2, s3, i64_w]
            rfl
           refine pure_ (i := 9) (N := some 49) (v := ?_) (a' := ?_) #[I,I,I,I,I,I,I,I,I,I,O] rfl rfl (any_of HT_.out (by kernel_rfl)) (fun _ _ _ h => h) (Or.inl ⟨by rfl, ?_⟩) ?_ ?_
           rotate_left
           ·intro w'
            go_simp
            with_reducible rfl
           rotate_left
           ·simp only [Act.put, s1, s2, s3, i64_w]
            rfl
           refine pure_ (i := 10) (N := some 8) (v := ?_) (a' := ?_) #[I,I,I,I,I,I,I,I,I,I,I] rfl rfl (any_of HT_.out (by kernel_rfl)) (fun _ _ _ h => h) (Or.inl ⟨by rfl, ?_⟩) ?_ ?_
           rotate_left
           ·intro w'
            go_simp
            with_reducible rfl
           rotate_left
           ·simp only [Act.put, s1, s2, s3, i64_w]
            rfl
           refine done_ (done_of HT_.out (by kernel_rfl)) ?_
           try go_wp2
           go_roundg k2
           case measure => have := HK1.out; have := HK2.out; omega
           case rel => exact ⟨(!t352), (wrap64 (x9_2 + 1)), rs, rs, H', ⟨by have := HK1.out; have := HK2.out; omega⟩, ⟨by refine rC (a := ?_); exact HO_4.out⟩, ⟨by refine rC (a := ?_); exact HO_5.out⟩, ⟨by refine bC (a := ?_); exact BK331.out⟩, ⟨by refine bC (a := ?_); exact BK332.out⟩, ⟨by refine bC (a := ?_); exact BK350.out⟩, ⟨hA HB.out⟩⟩
          ·rw [if_neg c23] at H
           exact absurd H (by simp)
         ·replace c22 := Bool.eq_false_iff.mpr c22
          subst c22
          have H1 : (spec_MendBook.l1 k2 x4_1 x5_1 x6_1 false (wrap64 (x9_2 + 1)) lp lq lr ((rd_T50 lp x6_1).f0) ((rd_T50 lp x6_1).f1) ((rd_T50 lp x6_1).f2)) = some (r1, r2, r3, r4) := by rw [if_neg (show ¬ (false = true) by decide)] at H; exact H
          clear H
          have H := H1
          clear H1
          have H' := mk0 H
          clear H
          obtain ⟨Ao28, co28, eo28⟩ := Kd.R_slice HO_5.out
          subst eo28
          try go_wp2
          have n0_ := mk0 (Kd.R_drew HO_4.out)
          have n1_ := mk0 (Kd.R_drew HO_5.out)
          have n2_ := mk0 (blk_drew BK331.out)
          have n3_ := mk0 (blk_drew BK332.out)
          have n4_ := mk0 (blk_drew BK350.out)
          have n5_ := mk0 (below_drew1 HB.out)
          clear HO_4
          clear HO_5
          clear BK331
          clear BK332
          clear BK350
          clear HB
          have HO_4 := n0_
          have HO_5 := n1_
          have BK331 := n2_
          have BK332 := n3_
          have BK350 := n4_
          have HB := n5_
          clear n0_ n1_ n2_ n3_ n4_ n5_
          refine start_ (n := 11) (S := fun w' => True) (ds := []) #[O,O,O,O,O,O,O,O,O,O,O] (by kernel_rfl) rfl rfl trivial (fun hHeld => ?_); refine with_tabW spec_MendBook.tab13 spec_MendBook.bits13 (fun HT_ HW_ => ?_)
          generalize wr.drew = w29 at HO_4 HO_5 BK331 BK332 BK350 HB hHeld ⊢
          refine pure_ (i := 0) (N := some 40) (v := ?_) (a' := ?_) #[I,O,O,O,O,O,O,O,O,O,O] rfl rfl (any_of HT_.out (by kernel_rfl)) (fun _ _ _ h => h) (Or.inl ⟨by rfl, ?_⟩) ?_ ?_
          rotate_left
          ·intro w'
           go_simp
           with_reducible rfl
          rotate_left
          ·simp only [Act.put, s1, s2, s3, i64_w]
           rfl
          refine pure_ (i := 1) (N := some 41) (v := ?_) (a' := ?_) #[I,I,O,O,O,O,O,O,O,O,O] rfl rfl (any_of HT_.out (by kernel_rfl)) (fun _ _ _ h => h) (Or.inl ⟨by rfl, ?_⟩) ?_ ?_
          rotate_left
          ·intro w'
           go_simp
           with_reducible rfl
          rotate_left
          ·simp only [Act.put, s1, s2, s3, i64_w]
           rfl
          refine pure_ (i := 2) (N := some 42) (v := undef) (a' := ?_) #[I,I,I,O,O,O,O,O,O,O,O] rfl rfl (any_of HT_.out (by kernel_rfl)) (fun _ _ _ h => h) (Or.inr ⟨by rfl, rfl⟩) ?_ ?_
          rotate_left
          ·simp only [Act.put, s1, s2, s3, i64_w]
           rfl
          refine pure_ (i := 3) (N := some 43) (v := undef) (a' := ?_) #[I,I,I,I,O,O,O,O,O,O,O] rfl rfl (any_of HT_.out (by kernel_rfl)) (fun _ _ _ h => h) (Or.inr ⟨by rfl, rfl⟩) ?_ ?_
          rotate_left
          ·simp only [Act.put, s1, s2, s3, i64_w]
           rfl
          refine pure_ (i := 4) (N := some 44) (v := undef) (a' := ?_) #[I,I,I,I,I,O,O,O,O,O,O] rfl rfl (any_of HT_.out (by kernel_rfl)) (fun _ _ _ h => h) (Or.inr ⟨by rfl, rfl⟩) ?_ ?_
          rotate_left
          ·simp only [Act.put, s1, s2, s3, i64_w]
           rfl
          refine pure_ (i := 5) (N := some 45) (v := undef) (a' := ?_) #[I,I,I,I,I,I,O,O,O,O,O] rfl rfl (any_of HT_.out (by kernel_rfl)) (fun _ _ _ h => h) (Or.inr ⟨by rfl, rfl⟩) ?_ ?_
          rotate_left
          ·simp only [Act.put, s1, s2, s3, i64_w]
           rfl
          refine pure_ (i := 6) (N := some 46) (v := undef) (a' := ?_) #[I,I,I,I,I,I,I,O,O,O,O] rfl rfl (any_of HT_.out (by kernel_rfl)) (fun _ _ _ h => h) (Or.inr ⟨by rfl, rfl⟩) ?_ ?_
          rotate_left
          ·simp only [Act.put, s1, s2, s3, i64_w]
           rfl
          refine pure_ (i := 7) (N := some 47) (v := undef) (a' := ?_) #[I,I,I,I,I,I,I,I,O,O,O] rfl rfl (any_of HT_.out (by kernel_rfl)) (fun _ _ _ h => h) (Or.inr ⟨by rfl, rfl⟩) ?_ ?_
          rotate_left
          ·simp only [Act.put, s1, s2, s3, i64_w]
           rfl
          refine pure_ (i := 8) (N := some 48) (v := undef) (a' := ?_) #[I,I,I,I,I,I,I,I,I,O,O] rfl rfl (any_of HT_.out (by kernel_rfl)) (fun _ _ _ h => h) (Or.inr ⟨by rfl, rfl⟩) ?_ ?_
          rotate_left
          ·simp only [Act.put, s1, s2, s3, i64_w]
           rfl
          refine pure_ (i := 9) (N := some 49) (v := ?_) (a' := ?_) #[I,I,I,I,I,I,I,I,I,I,O] rfl rfl (any_of HT_.out (by kernel_rfl)) (fun _ _ _ h => h) (Or.inl ⟨by rfl, ?_⟩) ?_ ?_
          rotate_left
          ·intro w'
           go_simp
           with_reducible rfl
          rotate_left
          ·simp only [Act.put, s1, s2, s3, i64_w]
           rfl
          refine pure_ (i := 10) (N := some 8) (v := ?_) (a' := ?_) #[I,I,I,I,I,I,I,I,I,I,I] rfl rfl (any_of HT_.out (by kernel_rfl)) (fun _ _ _ h => h) (Or.inl ⟨by rfl, ?_⟩) ?_ ?_
          rotate_left
          ·intro w'
           go_simp
           with_reducible rfl
          rotate_left
          ·simp only [Act.put, s1, s2, s3, i64_w]
           rfl
          refine done_ (done_of HT_.out (by kernel_rfl)) ?_
          try go_wp2
          go_roundg k2
          case measure => have := HK1.out; have := HK2.out; omega
          case rel => exact ⟨(false), (wrap64 (x9_2 + 1)), rs, rs, H', ⟨by have := HK1.out; have := HK2.out; omega⟩, ⟨by refine rC (a := ?_); exact HO_4.out⟩, ⟨by refine rC (a := ?_); exact HO_5.out⟩, ⟨by refine bC (a := ?_); exact BK331.out⟩, ⟨by refine bC (a := ?_); exact BK332.out⟩, ⟨by refine bC (a := ?_); exact BK350.out⟩, ⟨hA HB.out⟩⟩
        ·rw [if_neg c21] at H
         have c21b0 : decide (x9_2 < (x5_1.length : Int)) = false := decide_eq_false c21
         clear c21
         by_cases c30 : x8_2 = true
         ·subst c30
          have H1 : (if x5_1.length < 5864062014805 then (spec_MendBook.l0 k2 x4_1 (x5_1 ++ [(⟨((rd_T50 lp x6_1).f0), ((rd_T50 lp x6_1).f1), ((rd_T50 lp x6_1).f2)⟩ : S50)]) (wrap64 (x6_1 + 1)) lp lq lr) else (none)) = some (r1, r2, r3, r4) := by rw [if_pos rfl] at H; exact H
          clear H
          have H := H1
          clear H1
          by_cases c31 : x5_1.length < 5864062014805
          ·rw [if_pos c31] at H
           have LMc31 := mk0 c31
           clear c31
           obtain ⟨y353, hy353⟩ : ∃ y_ : List (S50), y_ = (x5_1 ++ [(⟨((rd_T50 lp x6_1).f0), ((rd_T50 lp x6_1).f1), ((rd_T50 lp x6_1).f2)⟩ : S50)]) := ⟨_, rfl⟩
           replace H : (spec_MendBook.l0 k2 x4_1 y353 (wrap64 (x6_1 + 1)) lp lq lr) = some (r1, r2, r3, r4) := by first | (rw [hy353]; with_reducible exact H) | (have H2_ := (Option.bind_some _ _).symm.trans H; rw [hy353]; with_reducible exact H2_) | (have H2_ := (Option.bind_some _ _).symm.trans H; with_reducible exact H2_) | with_reducible exact H | (rw [hy353]; exact H) | exact H
           have Ny353 := mk0 hy353
           clear hy353
           have H' := mk0 H
           clear H
           obtain ⟨Ao32, co32, eo32⟩ := Kd.R_slice HO_5.out
           subst eo32
           have hnb33 := NB350_331.out
           have hnc33 := NB331_350.out
           have hnb34 := NB350_332.out
           have hnc34 := NB332_350.out
           have hcz35_0 : wr.cell? ⟨gb350, 0, none⟩ = some (.int .i64 ((rd_T50 lp x6_1).f0)) := (blk_cell BK350.out 0).trans rfl
           have hcz35_1 : wr.cell? ⟨gb350, 1, none⟩ = some (.int .i64 ((rd_T50 lp x6_1).f1)) := (blk_cell BK350.out 1).trans rfl
           have hcz35_2 : wr.cell? ⟨gb350, 2, none⟩ = some (.int .i64 ((rd_T50 lp x6_1).f2)) := (blk_cell BK350.out 2).trans rfl
           have hfz35_0 := blk_frozen BK350.out 0
           have hfz35_1 := blk_frozen BK350.out 1
           have hfz35_2 := blk_frozen BK350.out 2
           go_wp2_with (first | ((with_reducible refine gate_builtin (b := .append) (xs := #[.tmp 51, .tmp 53]) rfl ?_); at_builtin; refine Kd.R_append k50 (w0 := w) w.heap.size rfl (.tmp 51) (.tmp 53) 27 50 (.agg #[(.int .i64 0), (.int .i64 0), (.int .i64 0)]) 24 rfl Try.underlying27 info50 rfl (by decide) (by omega) (.slice Ao32 x5_1.length co32) x5_1 (⟨((rd_T50 lp x6_1).f0), ((rd_T50 lp x6_1).f1), ((rd_T50 lp x6_1).f2)⟩ : S50) [.int .i64 ((rd_T50 lp x6_1).f0), .int .i64 ((rd_T50 lp x6_1).f1), .int .i64 ((rd_T50 lp x6_1).f2)] (fun k_ => k_ ≠ gb350) (fun _ => False) rfl rfl ?aP (fun _ hk => hk.elim) ?aF ?aO ?aB ?aS ?aL ?_; (case aP => exact k50_mkM _ _ _ (⟨((rd_T50 lp x6_1).f0), ((rd_T50 lp x6_1).f1), ((rd_T50 lp x6_1).f2)⟩ : S50)); (case aB => exact (hA HB.out)); (case aF => exact (fun k_ hk => Kd.freshB (g := gb350) (o := .cells #[.int .i64 ((rd_T50 lp x6_1).f0), .int .i64 ((rd_T50 lp x6_1).f1), .int .i64 ((rd_T50 lp x6_1).f2)] 50 (0, 0)) (bA BK350.out) k_ hk)); (case aO => exact (rA HO_5.out)); (case aS => exact (below_size (hA HB.out))); (case aL => have := LMc31.out; omega); intro v354 w36 ho hb hg hat; rw [← Ny353.out] at ho; have n0_ := mk0 (Kd.R_over' (rA HO_4.out) (Kd.R_typed (rA HO_5.out)) (by decide) hg); have n1_ := mk0 (blk_grown (g := gb331) (o := .cells #[.slice (some ad349) lp.length cp, .slice Aq lq.length cq, .slice Ar lr.length cr] 29 (0, 0)) (bA BK331.out) hg (Kd.R_ne HO_5.out BK331.out (by decide))); have n2_ := mk0 (blk_grown (g := gb332) (o := .cells #[.slice none 0 0, .slice none 0 0, .slice none 0 0] 29 (0, 0)) (bA BK332.out) hg (Kd.R_ne HO_5.out BK332.out (by decide))); have n3_ := mk0 (blk_grown (g := gb350) (o := .cells #[.int .i64 ((rd_T50 lp x6_1).f0), .int .i64 ((rd_T50 lp x6_1).f1), .int .i64 ((rd_T50 lp x6_1).f2)] 50 (0, 0)) (bA BK350.out) hg (Kd.R_away HO_5.out (fun _ hk => hk))); have n4_ := mk0 (hb); have n5_ := mk0 (ho); clear HO_4; clear BK331; clear BK332; clear BK350; clear HB; clear HO_5; have HO_4 := n0_; have BK331 := n1_; have BK332 := n2_; have BK350 := n3_; have HB := n4_; have HO355 := n5_; clear n0_ n1_ n2_ n3_ n4_ n5_; clear ho hb hg hat))
           go_roundg k2
           case measure => have := HK1.out; have := HK2.out; omega
           case rel => exact ⟨(x4_1), (y353), (wrap64 (x6_1 + 1)), rs, H', ⟨by have := HK1.out; have := HK2.out; omega⟩, ⟨by refine rC (a := ?_); exact HO_4.out⟩, ⟨by refine rC (a := ?_); exact Kd.R_mono HO355.out (fun _ hk => trivial)⟩, ⟨by refine bC (a := ?_); exact BK331.out⟩, ⟨by refine bC (a := ?_); exact BK332.out⟩, ⟨hA HB.out⟩⟩
          ·rw [if_neg c31] at H
           exact absurd H (by simp)
         ·replace c30 := Bool.eq_false_iff.mpr c30
          subst c30
          have H1 : (if x4_1.length < 17592186044416 then (spec_MendBook.l0 k2 (x4_1 ++ [x6_1]) x5_1 (wrap64 (x6_1 + 1)) lp lq lr) else (none)) = some (r1, r2, r3, r4) := by rw [if_neg (show ¬ (false = true) by decide)] at H; exact H
          clear H
          have H := H1
          clear H1
          by_cases c37 : x4_1.length < 17592186044416
          ·rw [if_pos c37] at H
           have LMc37 := mk0 c37
           clear c37
           obtain ⟨y356, hy356⟩ : ∃ y_ : List Int, y_ = (x4_1 ++ [x6_1]) := ⟨_, rfl⟩
           replace H : (spec_MendBook.l0 k2 y356 x5_1 (wrap64 (x6_1 + 1)) lp lq lr) = some (r1, r2, r3, r4) := by first | (rw [hy356]; with_reducible exact H) | (have H2_ := (Option.bind_some _ _).symm.trans H; rw [hy356]; with_reducible exact H2_) | (have H2_ := (Option.bind_some _ _).symm.trans H; with_reducible exact H2_) | with_reducible exact H | (rw [hy356]; exact H) | exact H
           have Ny356 := mk0 hy356
           clear hy356
           have H' := mk0 H
           clear H
           obtain ⟨Ao38, co38, eo38⟩ := Kd.R_slice HO_5.out
           subst eo38
           go_wp2_with (first | ((with_reducible refine gate_builtin (b := .append) (xs := #[.tmp 55, .tmp 57]) rfl ?_); at_builtin; refine Kd.R_append (Kd.int .i64) (w0 := w) w.heap.size rfl (.tmp 55) (.tmp 57) 23 3 (.int .i64 0) 8 rfl Try.underlying23 info3 rfl (by decide) (by omega) u4 x4_1 x6_1 [.int .i64 x6_1] (fun _ => True) (fun _ => False) rfl rfl ?aP (fun _ hk => hk.elim) ?aF ?aO ?aB ?aS ?aL ?_; (case aP => exact rfl); (case aB => exact (hA HB.out)); (case aF => exact (fun _ _ => trivial)); (case aO => exact (rA HO_4.out)); (case aS => exact (below_size (hA HB.out))); (case aL => have := LMc37.out; omega); intro v357 w39 ho hb hg hat; rw [← Ny356.out] at ho; have n0_ := mk0 (Kd.R_over' (rA HO_5.out) (Kd.R_typed (rA HO_4.out)) (by decide) hg); have n1_ := mk0 (blk_grown (g := gb331) (o := .cells #[.slice (some ad349) lp.length cp, .slice Aq lq.length cq, .slice Ar lr.length cr] 29 (0, 0)) (bA BK331.out) hg (Kd.R_ne HO_4.out BK331.out (by decide))); have n2_ := mk0 (blk_grown (g := gb332) (o := .cells #[.slice none 0 0, .slice none 0 0, .slice none 0 0] 29 (0, 0)) (bA BK332.out) hg (Kd.R_ne HO_4.out BK332.out (by decide))); have n3_ := mk0 (blk_grown (g := gb350) (o := .cells #[.int .i64 ((rd_T50 lp x6_1).f0), .int .i64 ((rd_T50 lp x6_1).f1), .int .i64 ((rd_T50 lp x6_1).f2)] 50 (0, 0)) (bA BK350.out) hg (Kd.R_ne HO_4.out BK350.out (by decide))); have n4_ := mk0 (hb); have n5_ := mk0 (ho); clear HO_5; clear BK331; clear BK332; clear BK350; clear HB; clear HO_4; have HO_5 := n0_; have BK331 := n1_; have BK332 := n2_; have BK350 := n3_; have HB := n4_; have HO358 := n5_; clear n0_ n1_ n2_ n3_ n4_ n5_; clear ho hb hg hat))
           go_roundg k2
           case measure => have := HK1.out; have := HK2.out; omega
           case rel => exact ⟨(y356), (x5_1), (wrap64 (x6_1 + 1)), rs, H', ⟨by have := HK1.out; have := HK2.out; omega⟩, ⟨by refine rC (a := ?_); exact HO358.out⟩, ⟨by refine rC (a := ?_); exact Kd.R_mono HO_5.out (fun _ hk => trivial)⟩, ⟨by refine bC (a := ?_); exact BK331.out⟩, ⟨by refine bC (a := ?_); exact BK332.out⟩, ⟨hA HB.out⟩⟩
          ·rw [if_neg c37] at H
           exact absurd H (by simp)
     ·rw [if_neg c14] at H
      exact absurd H (by simp)
    ·rw [if_neg c13] at H
     have c13b0 : decide (x6_1 < (lp.length : Int)) = false := decide_eq_false c13
     clear c13
     replace H := Option.bind_eq_some_iff.mp H
     obtain ⟨⟨t340, t343, t346⟩, A400, H⟩ := H
     replace H : (some (t340, t343, t346, x4_1)) = some (r1, r2, r3, r4) := H
     have A40 := mk0 A400
     clear A400
     simp only [Option.some.injEq, Prod.mk.injEq] at H
     obtain ⟨rfl, rfl, rfl, rfl⟩ := H
     have hnb41 := NB331_332.out
     have hnc41 := NB332_331.out
     have hcz42_0 : wr.cell? ⟨gb331, 0, none⟩ = some (.slice Ap lp.length cp) := (blk_cell BK331.out 0).trans rfl
     have hcz42_1 : wr.cell? ⟨gb331, 1, none⟩ = some (.slice Aq lq.length cq) := (blk_cell BK331.out 1).trans rfl
     have hcz42_2 : wr.cell? ⟨gb331, 2, none⟩ = some (.slice Ar lr.length cr) := (blk_cell BK331.out 2).trans rfl
     have hfz42_0 := blk_frozen BK331.out 0
     have hfz42_1 := blk_frozen BK331.out 1
     have hfz42_2 := blk_frozen BK331.out 2
     obtain ⟨Ao43, co43, eo43⟩ := Kd.R_slice HO_5.out
     subst eo43
     go_wp2_with (first | ((with_reducible refine gate_callee (f := 37) rfl ?_); refine goesL_ (some 66) rfl rfl Try.func37 (by kernel_rfl) rfl #[.slice Ao43 x5_1.length co43, .int .i64 (lq.length : Int), .int .i64 (lr.length : Int)] rfl ar ?_; (with_reducible refine (spec_l18Write.calls k1 _ _ x5_1 (lq.length : Int) (lr.length : Int) t340 t343 t346 _ w.heap.size _ (rA HO_5.out) ?side1 ?side2 A40.out).mono ?_); (case side1 => exact cA (Kd.R_reads' HO_5.out).2.2); (case side2 => exact (Kd.R_reads' HO_5.out).2.1); rintro e w44 ⟨v341, v344, v347, rfl, ho0, ho1, ho2, hb⟩; refine ⟨_, rfl, ?_⟩; have n0_ := mk0 (Kd.R_mono (Kd.R_told (Kd.R_told (Kd.R_old (rA HO_4.out) hb) (Kd.R_base ho1)) (Kd.R_base ho2)) (fun _ h_ => h_.1)); have n1_ := mk0 (Kd.R_below ((rA HO_5.out)) hb); have n2_ := mk0 ho0; have n3_ := mk0 (Kd.R_lower (Kd.R_new' ho1 (Kd.R_lt (rA HO_4.out))) (below_size (hA HB.out))); have n4_ := mk0 (Kd.R_lower (Kd.R_new' ho2 (Kd.R_lt (rA HO_4.out))) (below_size (hA HB.out))); have n5_ := mk0 (bB BK331.out hb); have n6_ := mk0 (bB BK332.out hb); have n7_ := mk0 (below_step (hA HB.out) hb); clear HO_4; clear HO_5; clear BK331; clear BK332; clear HB; have HO_4 := n0_; have HO_5 := n1_; have HO342 := n2_; have HO345 := n3_; have HO348 := n4_; have BK331 := n5_; have BK332 := n6_; have HB := n7_; clear n0_ n1_ n2_ n3_ n4_ n5_ n6_ n7_; (try clear hb); (try clear hb2); (try clear hk); (try clear hi); (try clear ho0); (try clear ho1); (try clear ho2); obtain ⟨Ao45, co45, eo45⟩ := Kd.R_slice HO342.out; subst eo45; have hcz46_0 : w44.cell? ⟨gb332, 0, none⟩ = some (.slice none 0 0) := (blk_cell BK332.out 0).trans rfl; have hcz46_1 : w44.cell? ⟨gb332, 1, none⟩ = some (.slice none 0 0) := (blk_cell BK332.out 1).trans rfl; have hcz46_2 : w44.cell? ⟨gb332, 2, none⟩ = some (.slice none 0 0) := (blk_cell BK332.out 2).trans rfl; have hfz46_0 := blk_frozen BK332.out 0; have hfz46_1 := blk_frozen BK332.out 1; have hfz46_2 := blk_frozen BK332.out 2; obtain ⟨Ao47, co47, eo47⟩ := Kd.R_slice HO345.out; subst eo47; obtain ⟨Ao48, co48, eo48⟩ := Kd.R_slice HO348.out; subst eo48))
     refine bodyPost_ret (results_ct rfl _ _ gb332 29 #[.slice Ao45 t340.length co45, .slice Ao47 t343.length co47, .slice Ao48 t346.length co48] (0, 0) _ rfl (by refine bC (a := ?_); refine blk_put (cs := #[.slice Ao45 t340.length co45, .slice Ao47 t343.length co47, .slice none 0 0]) ?_ 2 _ rfl; refine bC (a := ?_); refine blk_put (cs := #[.slice Ao45 t340.length co45, .slice none 0 0, .slice none 0 0]) ?_ 1 _ rfl; refine bC (a := ?_); refine blk_put (cs := #[.slice none 0 0, .slice none 0 0, .slice none 0 0]) ?_ 0 _ rfl; refine bC (a := ?_); exact BK332.out) Try.underlying29 rfl (by kernel_rfl)) rfl ?_
     exact ⟨_, _, _, _, er, by refine rC (a := ?_); exact Kd.R_mono (Kd.R_far (p := ⟨gb332, 2, none⟩) (Kd.R_far (p := ⟨gb332, 1, none⟩) (Kd.R_far (p := ⟨gb332, 0, none⟩) (Kd.R_types HO342.out BK332.out (by decide)) (fun _ hk => hk.2) (.slice Ao45 t340.length co45)) (fun _ hk => hk.2) (.slice Ao47 t343.length co47)) (fun _ hk => hk.2) (.slice Ao48 t346.length co48)) (fun _ hk => trivial), by refine rC (a := ?_); exact Kd.R_mono (Kd.R_far (p := ⟨gb332, 2, none⟩) (Kd.R_far (p := ⟨gb332, 1, none⟩) (Kd.R_far (p := ⟨gb332, 0, none⟩) (Kd.R_types HO345.out BK332.out (by decide)) (fun _ hk => hk.2) (.slice Ao45 t340.length co45)) (fun _ hk => hk.2) (.slice Ao47 t343.length co47)) (fun _ hk => hk.2) (.slice Ao48 t346.length co48)) (fun _ hk => ⟨hk.1.1, hk.1.2⟩), by refine rC (a := ?_); exact Kd.R_mono (Kd.R_far (p := ⟨gb332, 2, none⟩) (Kd.R_far (p := ⟨gb332, 1, none⟩) (Kd.R_far (p := ⟨gb332, 0, none⟩) (Kd.R_types HO348.out BK332.out (by decide)) (fun _ hk => hk.2) (.slice Ao45 t340.length co45)) (fun _ hk => hk.2) (.slice Ao47 t343.length co47)) (fun _ hk => hk.2) (.slice Ao48 t346.length co48)) (fun _ hk => ⟨hk.1.1, hk.1.2⟩), by refine rC (a := ?_); exact Kd.R_mono (Kd.R_far (p := ⟨gb332, 2, none⟩) (Kd.R_far (p := ⟨gb332, 1, none⟩) (Kd.R_far (p := ⟨gb332, 0, none⟩) (Kd.R_types HO_4.out BK332.out (by decide)) (fun _ hk => hk.2) (.slice Ao45 t340.length co45)) (fun _ hk => hk.2) (.slice Ao47 t343.length co47)) (fun _ hk => hk.2) (.slice Ao48 t346.length co48)) (fun _ hk => ⟨hk.1.1.2, hk.1.2⟩), hA HB.out⟩
 ·replace c3 := Bool.eq_false_iff.mpr c3
  subst c3
  have H1 : (some (([] : List (S50)), ([] : List Int), ([] : List Int), y333)) = some (r1, r2, r3, r4) := by rw [if_neg (show ¬ (false = true) by decide)] at H; exact H
  clear H
  have H := H1
  clear H1
  simp only [Option.some.injEq, Prod.mk.injEq] at H
  obtain ⟨rfl, rfl, rfl, rfl⟩ := H
  go_enter Try.func10, Try.ntmps10
  go_wp2_with (first | ((with_reducible refine gate_dst (N := 1) rfl ?_); refine box_event ?hg (N := 1) ?hd (cs := #[.slice Ap lp.length cp, .slice Aq lq.length cq, .slice Ar lr.length cr]) (t := 29) ?hr ?_; (case hd | hg => rfl); (case hr => first | (go_simp; done) | (go_simp; rfl)); intro gb331 hg w49 hbox hb; have n0_ := mk0 (below_step (hA HB.out) hb); have n1_ := mk0 (hbox); have n2_ := mk0 ((by rw [hg]; exact (below_size (hA HB.out)) : w.heap.size ≤ gb331)); have n3_ := mk0 ((by rw [hg]; exact (below_size (hA HB.out)) : w.heap.size ≤ gb331)); clear HB; have HB := n0_; have BK331 := n1_; have GW331 := n2_; have GE331 := n3_; clear n0_ n1_ n2_ n3_; clear hb hbox hg) | ((with_reducible refine gate_dst (N := 2) rfl ?_); refine box_event ?hg (N := 2) ?hd (cs := #[.slice none 0 0, .slice none 0 0, .slice none 0 0]) (t := 29) ?hr ?_; (case hd | hg => rfl); (case hr => first | (go_simp; done) | (go_simp; rfl)); intro gb332 hg w50 hbox hb; have n0_ := mk0 (bB BK331.out hb); have n1_ := mk0 (below_step (hA HB.out) hb); have n2_ := mk0 (hbox); have n3_ := mk0 ((by rw [hg]; exact (below_size (hA HB.out)) : w.heap.size ≤ gb332)); have n4_ := mk0 ((by rw [hg]; exact (below_size (hA HB.out)) : w.heap.size ≤ gb332)); have n5_ := mk0 ((by rw [hg]; exact Nat.ne_of_lt (blk_lt (g := gb331) (o := .cells #[.slice Ap lp.length cp, .slice Aq lq.length cq, .slice Ar lr.length cr] 29 (0, 0)) (bA BK331.out)) : gb331 ≠ gb332)); have n6_ := mk0 ((by rw [hg]; exact Nat.ne_of_gt (blk_lt (g := gb331) (o := .cells #[.slice Ap lp.length cp, .slice Aq lq.length cq, .slice Ar lr.length cr] 29 (0, 0)) (bA BK331.out)) : gb332 ≠ gb331)); clear BK331; clear HB; have BK331 := n0_; have HB := n1_; have BK332 := n2_; have GW332 := n3_; have GE332 := n4_; have NB331_332 := n5_; have NB332_331 := n6_; clear n0_ n1_ n2_ n3_ n4_ n5_ n6_; clear hb hbox hg) | ((with_reducible refine gate_dst (N := 10) rfl ?_); refine Kd.R_lit (Kd.int .i64) _ 3 ?hg (N := 10) ?hd (xs := ([] : List Int)) (inner := []) (ok := fun _ => True) (okp := fun _ => True) ?hr ?hp (fun _ hk => hk) trivial (Below.refl _ _) (Nat.le_refl _) (by simp) ?_; (case hd | hg => rfl); (case hr => first | (go_simp; done) | (go_simp; rfl)); (case hp => exact (Reps.none _ _)); intro v334 w51 ho52 hb hg_ hnew_; clear hg_ hnew_; (first | rw [← Ny333.out] at ho52 | (simp only [Int.reduceToNat] at ho52; rw [← Ny333.out] at ho52)); have n0_ := mk0 (Kd.R_lower ho52 (below_size (hA HB.out))); have n1_ := mk0 (bB BK331.out hb); have n2_ := mk0 (bB BK332.out hb); have n3_ := mk0 (below_step (hA HB.out) hb); clear BK331; clear BK332; clear HB; have HO335 := n0_; have BK331 := n1_; have BK332 := n2_; have HB := n3_; clear n0_ n1_ n2_ n3_; clear hb ho52; have hnb53 := NB331_332.out; have hnc53 := NB332_331.out; have hcz54_0 : w51.cell? ⟨gb331, 0, none⟩ = some (.slice Ap lp.length cp) := (blk_cell BK331.out 0).trans rfl; have hcz54_1 : w51.cell? ⟨gb331, 1, none⟩ = some (.slice Aq lq.length cq) := (blk_cell BK331.out 1).trans rfl; have hcz54_2 : w51.cell? ⟨gb331, 2, none⟩ = some (.slice Ar lr.length cr) := (blk_cell BK331.out 2).trans rfl; have hfz54_0 := blk_frozen BK331.out 0; have hfz54_1 := blk_frozen BK331.out 1; have hfz54_2 := blk_frozen BK331.out 2) | ((with_reducible refine gate_callee (f := 27) rfl ?_); refine goesL_ (some 12) rfl rfl Try.func27 (by kernel_rfl) rfl #[.agg #[.slice Ap lp.length cp, .slice Aq lq.length cq, .slice Ar lr.length cr]] rfl ar ?_; (with_reducible refine (spec_BookOk.calls k _ _ lp _ _ lq _ _ lr false _ ?side1 ?side2 ?side3 ?side4 ?side5 ?side6 A2.out).mono ?_); (case side1 => exact cA (Kd.C_below HR0_0.out HB.out)); (case side2 => exact HC0_0.out); (case side3 => exact cA (Kd.C_below HR0_1.out HB.out)); (case side4 => exact HC0_1.out); (case side5 => exact cA (Kd.C_below HR0_2.out HB.out)); (case side6 => exact HC0_2.out); rintro e w55 ⟨rfl, hb⟩; refine ⟨_, rfl, ?_⟩; have n0_ := mk0 (Kd.R_below (rA HO335.out) hb); have n1_ := mk0 (bB BK331.out hb); have n2_ := mk0 (bB BK332.out hb); have n3_ := mk0 (below_step (hA HB.out) hb); clear HO335; clear BK331; clear BK332; clear HB; have HO335 := n0_; have BK331 := n1_; have BK332 := n2_; have HB := n3_; clear n0_ n1_ n2_ n3_; (try clear hb); (try clear hb2); (try clear hk); (try clear hi); have hcz56_0 : w55.cell? ⟨gb332, 0, none⟩ = some (.slice none 0 0) := (blk_cell BK332.out 0).trans rfl; have hcz56_1 : w55.cell? ⟨gb332, 1, none⟩ = some (.slice none 0 0) := (blk_cell BK332.out 1).trans rfl; have hcz56_2 : w55.cell? ⟨gb332, 2, none⟩ = some (.slice none 0 0) := (blk_cell BK332.out 2).trans rfl; have hfz56_0 := blk_frozen BK332.out 0; have hfz56_1 := blk_frozen BK332.out 1; have hfz56_2 := blk_frozen BK332.out 2))
  refine bodyPost_ret (results_ct rfl _ _ gb332 29 #[.slice none 0 0, .slice none 0 0, .slice none 0 0] (0, 0) _ rfl (by refine bC (a := ?_); refine blk_put (cs := #[.slice none 0 0, .slice none 0 0, .slice none 0 0]) ?_ 2 _ rfl; refine bC (a := ?_); refine blk_put (cs := #[.slice none 0 0, .slice none 0 0, .slice none 0 0]) ?_ 1 _ rfl; refine bC (a := ?_); refine blk_put (cs := #[.slice none 0 0, .slice none 0 0, .slice none 0 0]) ?_ 0 _ rfl; refine bC (a := ?_); exact BK332.out) Try.underlying29 rfl (by kernel_rfl)) rfl ?_
  exact ⟨_, _, _, _, er, by first | exact Kd.R_nil _ _ _ _ _ | exact Kd.N_nil _ _ _ _ _ | exact Kd.V_nil _ _ _ _ _ | exact Kd.Q_nil _ _ _ _ _ | exact Kd.S_nil _ _ _ _ _, by first | exact Kd.R_nil _ _ _ _ _ | exact Kd.N_nil _ _ _ _ _ | exact Kd.V_nil _ _ _ _ _ | exact Kd.Q_nil _ _ _ _ _ | exact Kd.S_nil _ _ _ _ _, by first | exact Kd.R_nil _ _ _ _ _ | exact Kd.N_nil _ _ _ _ _ | exact Kd.V_nil _ _ _ _ _ | exact Kd.Q_nil _ _ _ _ _ | exact Kd.S_nil _ _ _ _ _, by refine rC (a := ?_); exact Kd.R_mono (Kd.R_far (p := ⟨gb332, 2, none⟩) (Kd.R_far (p := ⟨gb332, 1, none⟩) (Kd.R_far (p := ⟨gb332, 0, none⟩) (Kd.R_types HO335.out BK332.out (by decide)) (fun _ hk => hk.2) (.slice none 0 0)) (fun _ hk => hk.2) (.slice none 0 0)) (fun _ hk => hk.2) (.slice none 0 0)) (fun _ hk => ⟨(by simp [Value.ownBlock]), (by simp [Value.ownBlock])⟩), hA HB.out⟩
def IsS87 (w0 W : World) (g : Nat) (f0 : List Int) (f1 : Int) (f2 : Int) : Prop := ∃ A0 c0, W.heap[g]? = some (.cells #[.slice A0 f0.length c0, .int .i64 f1, .int .i64 f2] 87 (0, 0)) ∧ w0.heap.size ≤ g ∧ Kd.C (Kd.int .u8) w0 A0 f0.length f0
theorem IsS87.grown {w0 W : World} {g : Nat} {f0 : List Int} {f1 : Int} {f2 : Int} {W1 : World} {row : Option Nat} (h : IsS87 w0 W g f0 f1 f2) (hw : W.grownBy W1 row) (hne : some g ≠ row) : IsS87 w0 W1 g f0 f1 f2 := by
 obtain ⟨A0, c0, hb, hg, hr0⟩ := h
 exact ⟨A0, c0, blk_grown hb hw hne, hg, hr0⟩
theorem IsS87.own_neN {w0 W : World} {g : Nat} {f0 : List Int} {f1 : Int} {f2 : Int} {α : Type} {d : Kd α} {e : Nat} {base : Nat} {ok : Nat → Prop} {v : Value} {xs : List α} (h : IsS87 w0 W g f0 f1 f2) (ho : Kd.N d e W base ok v xs) (ht : e ≠ 87) : some g ≠ v.ownBlock := by
 obtain ⟨A0, c0, hb, hg, hr0⟩ := h
 exact Kd.N_ne ho hb ht
theorem IsS87.fresh {w0 W : World} {g : Nat} {f0 : List Int} {f1 : Int} {f2 : Int} (h : IsS87 w0 W g f0 f1 f2) : ∀ k, W.heap.size ≤ k → k ≠ g := by
 obtain ⟨A0, c0, hb, hg, hr0⟩ := h
 exact Kd.freshB hb
theorem IsS87.kept {w0 W : World} {g : Nat} {f0 : List Int} {f1 : Int} {f2 : Int} {W1 : World} {S : Nat → Prop} (h : IsS87 w0 W g f0 f1 f2) (hk : Kept W W1 S) (hne : ¬ S g) : IsS87 w0 W1 g f0 f1 f2 := by
 obtain ⟨A0, c0, hb, hg, hr0⟩ := h
 exact ⟨A0, c0, blk_kept hb hk hne, hg, hr0⟩
theorem IsS87.below {w0 W : World} {g : Nat} {f0 : List Int} {f1 : Int} {f2 : Int} {W1 : World} (h : IsS87 w0 W g f0 f1 f2) (hw : Below W.heap.size W W1) : IsS87 w0 W1 g f0 f1 f2 := h.grown (grown_of_below hw none) (by simp)
theorem IsS87.alloc {w0 W : World} {g : Nat} {f0 : List Int} {f1 : Int} {f2 : Int} (h : IsS87 w0 W g f0 f1 f2) (o : Obj) : IsS87 w0 (W.alloc o) g f0 f1 f2 := h.below (below_alloc (Below.refl _ _) o)
theorem IsS87.drewN {w0 W : World} {g : Nat} {f0 : List Int} {f1 : Int} {f2 : Int} (h : IsS87 w0 W g f0 f1 f2) (m : Nat) : IsS87 w0 (W.drewN m) g f0 f1 f2 := h
theorem IsS87.drew {w0 W : World} {g : Nat} {f0 : List Int} {f1 : Int} {f2 : Int} (h : IsS87 w0 W g f0 f1 f2) : IsS87 w0 W.drew g f0 f1 f2 := h
theorem IsS87.at_ {w0 W : World} {g : Nat} {f0 : List Int} {f1 : Int} {f2 : Int} {w' : World} {m : Nat} (hq : W.drewN m = w') (h : IsS87 w0 W g f0 f1 f2) : IsS87 w0 w' g f0 f1 f2 := by subst hq; exact IsS87.drewN h m
theorem IsS87.apart {w0 W : World} {g : Nat} {f0 : List Int} {f1 : Int} {f2 : Int} {α : Type} {d : Kd α} {e : Nat} {base : Nat} {ok : Nat → Prop} {v : Value} {xs : List α} (h : IsS87 w0 W g f0 f1 f2) (ho : d.R e W base ok v xs) (ht : ∀ q, q ∈ e :: d.E → q ≠ 87) : d.R e W base (fun k => ok k ∧ k ≠ g) v xs := by
 obtain ⟨A0, c0, hb, hg, hr0⟩ := h
 exact Kd.R_types ho hb ht
theorem IsS87.own_ne {w0 W : World} {g : Nat} {f0 : List Int} {f1 : Int} {f2 : Int} {α : Type} {d : Kd α} {e : Nat} {base : Nat} {ok : Nat → Prop} {v : Value} {xs : List α} (h : IsS87 w0 W g f0 f1 f2) (ho : d.R e W base ok v xs) (ht : e ≠ 87) : some g ≠ v.ownBlock := by
 obtain ⟨A0, c0, hb, hg, hr0⟩ := h
 exact Kd.R_ne ho hb ht
theorem IsS87.apartQ {w0 W : World} {g : Nat} {f0 : List Int} {f1 : Int} {f2 : Int} {α : Type} {d : Kd α} {e : Nat} {base : Nat} {ok : Nat → Prop} {v : Value} {xs : List α} (h : IsS87 w0 W g f0 f1 f2) (ho : d.Q e W base ok v xs) (ht : ∀ q, q ∈ e :: d.E → q ≠ 87) : d.Q e W base (fun k => ok k ∧ k ≠ g) v xs := by
 obtain ⟨A0, c0, hb, hg, hr0⟩ := h
 exact Kd.Q_types ho hb ht
theorem IsS87.own_neQ {w0 W : World} {g : Nat} {f0 : List Int} {f1 : Int} {f2 : Int} {α : Type} {d : Kd α} {e : Nat} {base : Nat} {ok : Nat → Prop} {v : Value} {xs : List α} (h : IsS87 w0 W g f0 f1 f2) (ho : d.Q e W base ok v xs) (ht : e ≠ 87) : some g ≠ v.ownBlock := by
 obtain ⟨A0, c0, hb, hg, hr0⟩ := h
 exact Kd.Q_ne ho hb ht
theorem IsS87.apartS {w0 W : World} {g : Nat} {f0 : List Int} {f1 : Int} {f2 : Int} {α : Type} {d : Kd α} {e : Nat} {base : Nat} {ok : Nat → Prop} {v : Value} {xs : List α} (h : IsS87 w0 W g f0 f1 f2) (ho : d.S e W base ok v xs) (ht : ∀ q, q ∈ e :: d.E → q ≠ 87) : d.S e W base (fun k => ok k ∧ k ≠ g) v xs := by
 obtain ⟨A0, c0, hb, hg, hr0⟩ := h
 exact Kd.S_types ho hb ht
theorem IsS87.own_neS {w0 W : World} {g : Nat} {f0 : List Int} {f1 : Int} {f2 : Int} {α : Type} {d : Kd α} {e : Nat} {base : Nat} {ok : Nat → Prop} {v : Value} {xs : List α} (h : IsS87 w0 W g f0 f1 f2) (ho : d.S e W base ok v xs) (ht : e ≠ 87) : some g ≠ v.ownBlock := by
 obtain ⟨A0, c0, hb, hg, hr0⟩ := h
 exact Kd.S_ne ho hb ht
theorem IsS87.lt {w0 W : World} {g : Nat} {f0 : List Int} {f1 : Int} {f2 : Int} (h : IsS87 w0 W g f0 f1 f2) : g < W.heap.size := by
 obtain ⟨A0, c0, hb, hg, hr0⟩ := h
 exact blk_lt hb
theorem IsS87.ge {w0 W : World} {g : Nat} {f0 : List Int} {f1 : Int} {f2 : Int} (h : IsS87 w0 W g f0 f1 f2) : w0.heap.size ≤ g := by
 obtain ⟨A0, c0, hb, hg, hr0⟩ := h
 exact hg
theorem IsS87.ne_blk {w0 W : World} {g : Nat} {f0 : List Int} {f1 : Int} {f2 : Int} {a : Nat} {cs : Array Value} {t : TypeId} {fr : Nat × Nat} (h : IsS87 w0 W g f0 f1 f2) (hb2 : W.heap[a]? = some (.cells cs t fr)) (ht : t ≠ 87) : g ≠ a := by
 obtain ⟨A0, c0, hb, hg, hr0⟩ := h
 rintro rfl
 rw [hb] at hb2
 injection hb2 with hb2
 injection hb2 with _ ht2
 exact ht ht2.symm
theorem IsS87.far {w0 W : World} {g : Nat} {f0 : List Int} {f1 : Int} {f2 : Int} {p : Addr} (h : IsS87 w0 W g f0 f1 f2) (hne : g ≠ p.block) (u : Value) : IsS87 w0 (W.setCell p u) g f0 f1 f2 := by
 obtain ⟨A0, c0, hb, hg, hr0⟩ := h
 exact ⟨A0, c0, blk_far hb hne u, hg, hr0⟩
theorem cellS87_0 {W : World} {g : Nat} {A0 : Option Addr} {c0 : Nat} {f0 : List Int} {f1 : Int} {f2 : Int} (h : W.heap[g]? = some (.cells #[.slice A0 f0.length c0, .int .i64 f1, .int .i64 f2] 87 (0, 0))) : W.cell? ⟨g, 0, none⟩ = some (.slice A0 f0.length c0) := (blk_cell h 0).trans rfl
theorem cellS87_1 {W : World} {g : Nat} {A0 : Option Addr} {c0 : Nat} {f0 : List Int} {f1 : Int} {f2 : Int} (h : W.heap[g]? = some (.cells #[.slice A0 f0.length c0, .int .i64 f1, .int .i64 f2] 87 (0, 0))) : W.cell? ⟨g, 1, none⟩ = some (.int .i64 f1) := (blk_cell h 1).trans rfl
theorem IsS87.set_1 {w0 W : World} {g : Nat} {f0 : List Int} {f1 : Int} {f2 : Int} (h : IsS87 w0 W g f0 f1 f2) (x : Int) : IsS87 w0 (W.setCell ⟨g, 1, none⟩ (.int .i64 x)) g f0 x f2 := by
 obtain ⟨A0, c0, hb, hg, hr0⟩ := h
 exact ⟨A0, c0, by simpa using blk_set hb 1 (.int .i64 x), hg, hr0⟩
theorem cellS87_2 {W : World} {g : Nat} {A0 : Option Addr} {c0 : Nat} {f0 : List Int} {f1 : Int} {f2 : Int} (h : W.heap[g]? = some (.cells #[.slice A0 f0.length c0, .int .i64 f1, .int .i64 f2] 87 (0, 0))) : W.cell? ⟨g, 2, none⟩ = some (.int .i64 f2) := (blk_cell h 2).trans rfl
theorem IsS87.set_2 {w0 W : World} {g : Nat} {f0 : List Int} {f1 : Int} {f2 : Int} (h : IsS87 w0 W g f0 f1 f2) (x : Int) : IsS87 w0 (W.setCell ⟨g, 2, none⟩ (.int .i64 x)) g f0 f1 x := by
 obtain ⟨A0, c0, hb, hg, hr0⟩ := h
 exact ⟨A0, c0, by simpa using blk_set hb 2 (.int .i64 x), hg, hr0⟩
theorem IsS87.new (w0 W : World) (A0 : Option Addr) (c0 : Nat) (f0 : List Int) (f1 : Int) (f2 : Int) (hB : Below w0.heap.size w0 W) (hr0 : Kd.C (Kd.int .u8) w0 A0 f0.length f0) : IsS87 w0 (W.alloc (.cells #[.slice A0 f0.length c0, .int .i64 f1, .int .i64 f2] 87)) W.heap.size f0 f1 f2 := ⟨A0, c0, by simpa using heap_alloc_new W _, hB.size, hr0⟩
def spec_l1Byte.f (s0_0 : List Int) (s0_1 : Int) (s0_2 : Int) : Option (Int × Int × Int) := if s0_1 < (s0_0.length : Int) then (if 0 ≤ s0_1 then (some (Go.bits .and .i64 (wrap64 ((Go.bits .and .i64 (Go.bits .xor .i64 ((wrap64 ((wrap64 (s0_2 * 6364136223846793005)) + 1442695040888963407)) / 8589934592) ((wrap64 ((wrap64 (s0_2 * 6364136223846793005)) + 1442695040888963407)) / 35184372088832)) 255) + (wrap64 (rd s0_0 s0_1)))) 255, wrap64 (s0_1 + 1), wrap64 ((wrap64 (s0_2 * 6364136223846793005)) + 1442695040888963407))) else (none)) else (some (Go.bits .and .i64 (Go.bits .xor .i64 ((wrap64 ((wrap64 (s0_2 * 6364136223846793005)) + 1442695040888963407)) / 8589934592) ((wrap64 ((wrap64 (s0_2 * 6364136223846793005)) + 1442695040888963407)) / 35184372088832)) 255, s0_1, wrap64 ((wrap64 (s0_2 * 6364136223846793005)) + 1442695040888963407)))
set_option maxHeartbeats 8000000 in
set_option maxRecDepth 100000 in
theorem spec_l1Byte.calls (g : Nat) (s0_0 : List Int) (s0_1 : Int) (s0_2 : Int) (r1 : Int) (r2 : Int) (r3 : Int) (w0 w : World) (hI : IsS87 w0 w g s0_0 s0_1 s0_2) (hB : Below w0.heap.size w0 w) (h : spec_l1Byte.f s0_0 s0_1 s0_2 = some (r1, r2, r3)) :
  Calls Try.prog 69 #[.pointer (some ⟨g, 0, none⟩)] w fun e w' => e = .returned (.int .i64 r1) ∧ IsS87 w0 w' g s0_0 r2 r3 ∧ Below w0.heap.size w0 w' ∧ KeepBut w w' g none := by
 have HI0 := mk0 hI
 have HK := mk0 (KeepBut.refl w g none)
 have HL := mk0 hB.size
 clear hI
 have HW0 := mk0 hB.size
 have HB := mk0 hB
 clear hB
 have H : (if s0_1 < (s0_0.length : Int) then (if 0 ≤ s0_1 then (some (Go.bits .and .i64 (wrap64 ((Go.bits .and .i64 (Go.bits .xor .i64 ((wrap64 ((wrap64 (s0_2 * 6364136223846793005)) + 1442695040888963407)) / 8589934592) ((wrap64 ((wrap64 (s0_2 * 6364136223846793005)) + 1442695040888963407)) / 35184372088832)) 255) + (wrap64 (rd s0_0 s0_1)))) 255, wrap64 (s0_1 + 1), wrap64 ((wrap64 (s0_2 * 6364136223846793005)) + 1442695040888963407))) else (none)) else (some (Go.bits .and .i64 (Go.bits .xor .i64 ((wrap64 ((wrap64 (s0_2 * 6364136223846793005)) + 1442695040888963407)) / 8589934592) ((wrap64 ((wrap64 (s0_2 * 6364136223846793005)) + 1442695040888963407)) / 35184372088832)) 255, s0_1, wrap64 ((wrap64 (s0_2 * 6364136223846793005)) + 1442695040888963407)))) = some (r1, r2, r3) := h
 clear h
 by_cases c2 : s0_1 < (s0_0.length : Int)
 ·rw [if_pos c2] at H
  have c2b0 : decide (s0_1 < (s0_0.length : Int)) = true := decide_eq_true c2
  clear c2
  by_cases c3 : 0 ≤ s0_1
  ·rw [if_pos c3] at H
   have c3b0 : decide (0 ≤ s0_1) = true := decide_eq_true c3
   clear c3
   simp only [Option.some.injEq, Prod.mk.injEq] at H
   obtain ⟨rfl, rfl, rfl⟩ := H
   obtain ⟨ASz4_0, cSz4_0, HGz4, hgz4, HSz4_0⟩ := HI0.out
   have hcz4_0 := cellS87_0 HGz4
   have hcz4_1 := cellS87_1 HGz4
   have hcz4_2 := cellS87_2 HGz4
   have hfz4_1 := blk_frozen HGz4 1
   have hfz4_2 := blk_frozen HGz4 2
   clear HGz4 hgz4
   have p359 : 0 ≤ (s0_1 : Int) := of_decide_eq_true sm
   have q359 : s0_1 < (s0_0.length : Int) := of_decide_eq_true sm
   obtain ⟨ad359, e359, hx359_0⟩ := Kd.at_int HSz4_0 s0_1 p359 q359
   cases e359
   have hn359_0 : ad359.block ≠ g := Nat.ne_of_lt (Nat.lt_of_lt_of_le (by have := World.block_lt_of_cell? _ _ hx359_0; first | rwa [add_block] at this | exact this) (IsS87.ge HI0.out))
   replace hx359_0 := pw_cell_below HB.out hx359_0
   replace hx359_0 := (cell_far (p := ⟨g, 2, none⟩) (by first | (rw [add_block]; exact hn359_0) | (show (Addr.add _ _).block ≠ _; rw [add_block]; exact hn359_0) | exact hn359_0) (.int .i64 (wrap64 ((wrap64 (s0_2 * 6364136223846793005)) + 1442695040888963407)))).trans hx359_0
   (try have hy359_0 := fun (n_ : Nat) => (show (((w.drewN n_).setCell ⟨g, 2, none⟩ (.int .i64 (wrap64 ((wrap64 (s0_2 * 6364136223846793005)) + 1442695040888963407))))).cell? _ = some _ from hx359_0))
   clear hn359_0
   replace p359 := eq_true p359
   replace q359 := eq_true q359
   go_enter Try.func69, Try.ntmps69
   go_wp2
   repeat (go_quiet (fail); try go_wp2)
   go_ret
   exact ⟨er, by repeat (first | (with_reducible first | exact HI0.out | apply IsS87.alloc | apply IsS87.drewN | apply IsS87.drew | apply IsS87.set_1 | apply IsS87.set_2) | exact HI0.out), by repeat (first | (with_reducible first | exact HB.out | apply below_alloc | apply pw_below_drewN | apply below_drew1 | refine below_set ?_ (IsS87.ge HI0.out)) | exact HB.out), by repeat (first | (with_reducible first | exact HK.out | apply KeepBut.set_ | apply keep_drewN | apply keep_drew | apply keep_alloc) | exact HK.out)⟩
  ·rw [if_neg c3] at H
   exact absurd H (by simp)
 ·rw [if_neg c2] at H
  have c2b0 : decide (s0_1 < (s0_0.length : Int)) = false := decide_eq_false c2
  clear c2
  simp only [Option.some.injEq, Prod.mk.injEq] at H
  obtain ⟨rfl, rfl, rfl⟩ := H
  obtain ⟨ASz5_0, cSz5_0, HGz5, hgz5, HSz5_0⟩ := HI0.out
  have hcz5_0 := cellS87_0 HGz5
  have hcz5_1 := cellS87_1 HGz5
  have hcz5_2 := cellS87_2 HGz5
  have hfz5_1 := blk_frozen HGz5 1
  have hfz5_2 := blk_frozen HGz5 2
  clear HGz5 hgz5
  go_enter Try.func69, Try.ntmps69
  go_wp2
  repeat (go_quiet (fail); try go_wp2)
  go_ret
  exact ⟨er, by repeat (first | (with_reducible first | exact HI0.out | apply IsS87.alloc | apply IsS87.drewN | apply IsS87.drew | apply IsS87.set_1 | apply IsS87.set_2) | exact HI0.out), by repeat (first | (with_reducible first | exact HB.out | apply below_alloc | apply pw_below_drewN | apply below_drew1 | refine below_set ?_ (IsS87.ge HI0.out)) | exact HB.out), by repeat (first | (with_reducible first | exact HK.out | apply KeepBut.set_ | apply keep_drewN | apply keep_drew | apply keep_alloc) | exact HK.out)⟩
def spec_l1Below.f (s0_0 : List Int) (s0_1 : Int) (s0_2 : Int) (a1 : Int) : Option (Int × Int × Int) := if a1 ≤ 0 then (some (0, s0_1, s0_2)) else (if a1 ≤ 256 then ((spec_l1Byte.f s0_0 s0_1 s0_2).bind fun bt360 => (if a1 = 0 then (none) else (some (Int.tmod bt360.1 a1, bt360.2.1, bt360.2.2)))) else ((spec_l1Byte.f s0_0 s0_1 s0_2).bind fun bt363 => ((spec_l1Byte.f s0_0 bt363.2.1 bt363.2.2).bind fun bt366 => ((spec_l1Byte.f s0_0 bt366.2.1 bt366.2.2).bind fun bt369 => ((spec_l1Byte.f s0_0 bt369.2.1 bt369.2.2).bind fun bt372 => (if a1 = 0 then (none) else (some (Int.tmod (wrap64 ((wrap64 ((wrap64 ((wrap64 (bt363.1 * 16777216)) + (wrap64 (bt366.1 * 65536)))) + (wrap64 (bt369.1 * 256)))) + bt372.1)) a1, bt372.2.1, bt372.2.2))))))))
set_option maxHeartbeats 8000000 in
set_option maxRecDepth 100000 in
theorem spec_l1Below.calls (g : Nat) (s0_0 : List Int) (s0_1 : Int) (s0_2 : Int) (a1 : Int) (r1 : Int) (r2 : Int) (r3 : Int) (w0 w : World) (hI : IsS87 w0 w g s0_0 s0_1 s0_2) (hB : Below w0.heap.size w0 w) (h : spec_l1Below.f s0_0 s0_1 s0_2 a1 = some (r1, r2, r3)) :
  Calls Try.prog 65 #[.pointer (some ⟨g, 0, none⟩), .int .i64 a1] w fun e w' => e = .returned (.int .i64 r1) ∧ IsS87 w0 w' g s0_0 r2 r3 ∧ Below w0.heap.size w0 w' ∧ KeepBut w w' g none := by
 have HI0 := mk0 hI
 have HK := mk0 (KeepBut.refl w g none)
 have HL := mk0 hB.size
 clear hI
 have HW0 := mk0 hB.size
 have HB := mk0 hB
 clear hB
 have H : (if a1 ≤ 0 then (some (0, s0_1, s0_2)) else (if a1 ≤ 256 then ((spec_l1Byte.f s0_0 s0_1 s0_2).bind fun bt360 => (if a1 = 0 then (none) else (some (Int.tmod bt360.1 a1, bt360.2.1, bt360.2.2)))) else ((spec_l1Byte.f s0_0 s0_1 s0_2).bind fun bt363 => ((spec_l1Byte.f s0_0 bt363.2.1 bt363.2.2).bind fun bt366 => ((spec_l1Byte.f s0_0 bt366.2.1 bt366.2.2).bind fun bt369 => ((spec_l1Byte.f s0_0 bt369.2.1 bt369.2.2).bind fun bt372 => (if a1 = 0 then (none) else (some (Int.tmod (wrap64 ((wrap64 ((wrap64 ((wrap64 (bt363.1 * 16777216)) + (wrap64 (bt366.1 * 65536)))) + (wrap64 (bt369.1 * 256)))) + bt372.1)) a1, bt372.2.1, bt372.2.2))))))))) = some (r1, r2, r3) := h
 clear h
 by_cases c3 : a1 ≤ 0
 ·rw [if_pos c3] at H
  have c3b0 : decide (a1 ≤ 0) = true := decide_eq_true c3
  clear c3
  simp only [Option.some.injEq, Prod.mk.injEq] at H
  obtain ⟨rfl, rfl, rfl⟩ := H
  go_enter Try.func65, Try.ntmps65
  go_wp2
  go_ret
  exact ⟨er, by repeat (first | (with_reducible first | exact HI0.out | apply IsS87.alloc | apply IsS87.drewN | apply IsS87.drew | apply IsS87.set_1 | apply IsS87.set_2) | exact HI0.out), by repeat (first | (with_reducible first | exact HB.out | apply below_alloc | apply pw_below_drewN | apply below_drew1 | refine below_set ?_ (IsS87.ge HI0.out)) | exact HB.out), by repeat (first | (with_reducible first | exact HK.out | apply KeepBut.set_ | apply keep_drewN | apply keep_drew | apply keep_alloc) | exact HK.out)⟩
 ·rw [if_neg c3] at H
  have c3b0 : decide (a1 ≤ 0) = false := decide_eq_false c3
  clear c3
  by_cases c4 : a1 ≤ 256
  ·rw [if_pos c4] at H
   have c4b0 : decide (a1 ≤ 256) = true := decide_eq_true c4
   clear c4
   replace H := Option.bind_eq_some_iff.mp H
   obtain ⟨⟨t360, t361, t362⟩, A50, H⟩ := H
   replace H : (if a1 = 0 then (none) else (some (Int.tmod t360 a1, t361, t362))) = some (r1, r2, r3) := H
   have A5 := mk0 A50
   clear A50
   by_cases c6 : a1 = 0
   ·rw [if_pos c6] at H
    exact absurd H (by simp)
   ·rw [if_neg c6] at H
    have c6b0 : (a1 == 0) = false := beq_eq_false_iff_ne.mpr c6
    have c6b1 : (a1 != 0) = true := bne_iff_ne.mpr c6
    simp only [Option.some.injEq, Prod.mk.injEq] at H
    obtain ⟨rfl, rfl, rfl⟩ := H
    go_enter Try.func65, Try.ntmps65
    go_wp2_with (first | ((with_reducible refine gate_callee (f := 69) rfl ?_); refine goesL_ (some 14) rfl rfl Try.func69 (by kernel_rfl) rfl #[.pointer (some ⟨g, 0, none⟩)] rfl ar ?_; (with_reducible refine (spec_l1Byte.calls g s0_0 s0_1 s0_2 t360 t361 t362 w0 _ ?side1 ?side2 A5.out).mono ?_); (case side1 => repeat (first | (with_reducible first | exact HI0.out | apply IsS87.alloc | apply IsS87.drewN | apply IsS87.drew | apply IsS87.set_1 | apply IsS87.set_2) | exact HI0.out)); (case side2 => repeat (first | (with_reducible first | exact HB.out | apply below_alloc | apply pw_below_drewN | apply below_drew1 | refine below_set ?_ (IsS87.ge HI0.out)) | exact HB.out)); rintro e w7 ⟨rfl, hi, hb, hk⟩; refine ⟨_, rfl, ?_⟩; have n0_ := mk0 (KeepBut.trans (by repeat (first | (with_reducible first | exact HK.out | apply KeepBut.set_ | apply keep_drewN | apply keep_drew | apply keep_alloc) | exact HK.out)) hk (.inl rfl)); have n1_ := mk0 (hb); have n2_ := mk0 (hi); clear HK; clear HB; clear HI0; have HK := n0_; have HB := n1_; have HI0 := n2_; clear n0_ n1_ n2_; (try clear hb); (try clear hb2); (try clear hk); (try clear hi)))
    go_ret
    exact ⟨er, by repeat (first | (with_reducible first | exact HI0.out | apply IsS87.alloc | apply IsS87.drewN | apply IsS87.drew | apply IsS87.set_1 | apply IsS87.set_2) | exact HI0.out), by repeat (first | (with_reducible first | exact HB.out | apply below_alloc | apply pw_below_drewN | apply below_drew1 | refine below_set ?_ (IsS87.ge HI0.out)) | exact HB.out), by repeat (first | (with_reducible first | exact HK.out | apply KeepBut.set_ | apply keep_drewN | apply keep_drew | apply keep_alloc) | exact HK.out)⟩
  ·rw [if_neg c4] at H
   have c4b0 : decide (a1 ≤ 256) = false := decide_eq_false c4
   clear c4
   replace H := Option.bind_eq_some_iff.mp H
   obtain ⟨⟨t363, t364, t365⟩, A80, H⟩ := H
   replace H : ((spec_l1Byte.f s0_0 t364 t365).bind fun bt366 => ((spec_l1Byte.f s0_0 bt366.2.1 bt366.2.2).bind fun bt369 => ((spec_l1Byte.f s0_0 bt369.2.1 bt369.2.2).bind fun bt372 => (if a1 = 0 then (none) else (some (Int.tmod (wrap64 ((wrap64 ((wrap64 ((wrap64 (t363 * 16777216)) + (wrap64 (bt366.1 * 65536)))) + (wrap64 (bt369.1 * 256)))) + bt372.1)) a1, bt372.2.1, bt372.2.2)))))) = some (r1, r2, r3) := H
   have A8 := mk0 A80
   clear A80
   replace H := Option.bind_eq_some_iff.mp H
   obtain ⟨⟨t366, t367, t368⟩, A90, H⟩ := H
   replace H : ((spec_l1Byte.f s0_0 t367 t368).bind fun bt369 => ((spec_l1Byte.f s0_0 bt369.2.1 bt369.2.2).bind fun bt372 => (if a1 = 0 then (none) else (some (Int.tmod (wrap64 ((wrap64 ((wrap64 ((wrap64 (t363 * 16777216)) + (wrap64 (t366 * 65536)))) + (wrap64 (bt369.1 * 256)))) + bt372.1)) a1, bt372.2.1, bt372.2.2))))) = some (r1, r2, r3) := H
   have A9 := mk0 A90
   clear A90
   replace H := Option.bind_eq_some_iff.mp H
   obtain ⟨⟨t369, t370, t371⟩, A100, H⟩ := H
   replace H : ((spec_l1Byte.f s0_0 t370 t371).bind fun bt372 => (if a1 = 0 then (none) else (some (Int.tmod (wrap64 ((wrap64 ((wrap64 ((wrap64 (t363 * 16777216)) + (wrap64 (t366 * 65536)))) + (wrap64 (t369 * 256)))) + bt372.1)) a1, bt372.2.1, bt372.2.2)))) = some (r1, r2, r3) := H
   have A10 := mk0 A100
   clear A100
   replace H := Option.bind_eq_some_iff.mp H
   obtain ⟨⟨t372, t373, t374⟩, A110, H⟩ := H
   replace H : (if a1 = 0 then (none) else (some (Int.tmod (wrap64 ((wrap64 ((wrap64 ((wrap64 (t363 * 16777216)) + (wrap64 (t366 * 65536)))) + (wrap64 (t369 * 256)))) + t372)) a1, t373, t374))) = some (r1, r2, r3) := H
   have A11 := mk0 A110
   clear A110
   by_cases c12 : a1 = 0
   ·rw [if_pos c12] at H
    exact absurd H (by simp)
   ·rw [if_neg c12] at H
    have c12b0 : (a1 == 0) = false := beq_eq_false_iff_ne.mpr c12
    have c12b1 : (a1 != 0) = true := bne_iff_ne.mpr c12
    simp only [Option.some.injEq, Prod.mk.injEq] at H
    obtain ⟨rfl, rfl, rfl⟩ := H
    go_enter Try.func65, Try.ntmps65
    go_wp2_with (first | ((with_reducible refine gate_callee (f := 69) rfl ?_); refine goesL_ (some 18) rfl rfl Try.func69 (by kernel_rfl) rfl #[.pointer (some ⟨g, 0, none⟩)] rfl ar ?_; (with_reducible refine (spec_l1Byte.calls g s0_0 s0_1 s0_2 t363 t364 t365 w0 _ ?side1 ?side2 A8.out).mono ?_); (case side1 => repeat (first | (with_reducible first | exact HI0.out | apply IsS87.alloc | apply IsS87.drewN | apply IsS87.drew | apply IsS87.set_1 | apply IsS87.set_2) | exact HI0.out)); (case side2 => repeat (first | (with_reducible first | exact HB.out | apply below_alloc | apply pw_below_drewN | apply below_drew1 | refine below_set ?_ (IsS87.ge HI0.out)) | exact HB.out)); rintro e w13 ⟨rfl, hi, hb, hk⟩; refine ⟨_, rfl, ?_⟩; have n0_ := mk0 (KeepBut.trans (by repeat (first | (with_reducible first | exact HK.out | apply KeepBut.set_ | apply keep_drewN | apply keep_drew | apply keep_alloc) | exact HK.out)) hk (.inl rfl)); have n1_ := mk0 (hb); have n2_ := mk0 (hi); clear HK; clear HB; clear HI0; have HK := n0_; have HB := n1_; have HI0 := n2_; clear n0_ n1_ n2_; (try clear hb); (try clear hb2); (try clear hk); (try clear hi)) | ((with_reducible refine gate_callee (f := 69) rfl ?_); refine goesL_ (some 20) rfl rfl Try.func69 (by kernel_rfl) rfl #[.pointer (some ⟨g, 0, none⟩)] rfl ar ?_; (with_reducible refine (spec_l1Byte.calls g s0_0 t364 t365 t366 t367 t368 w0 _ ?side1 ?side2 A9.out).mono ?_); (case side1 => repeat (first | (with_reducible first | exact HI0.out | apply IsS87.alloc | apply IsS87.drewN | apply IsS87.drew | apply IsS87.set_1 | apply IsS87.set_2) | exact HI0.out)); (case side2 => repeat (first | (with_reducible first | exact HB.out | apply below_alloc | apply pw_below_drewN | apply below_drew1 | refine below_set ?_ (IsS87.ge HI0.out)) | exact HB.out)); rintro e w14 ⟨rfl, hi, hb, hk⟩; refine ⟨_, rfl, ?_⟩; have n0_ := mk0 (KeepBut.trans (by repeat (first | (with_reducible first | exact HK.out | apply KeepBut.set_ | apply keep_drewN | apply keep_drew | apply keep_alloc) | exact HK.out)) hk (.inl rfl)); have n1_ := mk0 (hb); have n2_ := mk0 (hi); clear HK; clear HB; clear HI0; have HK := n0_; have HB := n1_; have HI0 := n2_; clear n0_ n1_ n2_; (try clear hb); (try clear hb2); (try clear hk); (try clear hi)) | ((with_reducible refine gate_callee (f := 69) rfl ?_); refine goesL_ (some 22) rfl rfl Try.func69 (by kernel_rfl) rfl #[.pointer (some ⟨g, 0, none⟩)] rfl ar ?_; (with_reducible refine (spec_l1Byte.calls g s0_0 t367 t368 t369 t370 t371 w0 _ ?side1 ?side2 A10.out).mono ?_); (case side1 => repeat (first | (with_reducible first | exact HI0.out | apply IsS87.alloc | apply IsS87.drewN | apply IsS87.drew | apply IsS87.set_1 | apply IsS87.set_2) | exact HI0.out)); (case side2 => repeat (first | (with_reducible first | exact HB.out | apply below_alloc | apply pw_below_drewN | apply below_drew1 | refine below_set ?_ (IsS87.ge HI0.out)) | exact HB.out)); rintro e w15 ⟨rfl, hi, hb, hk⟩; refine ⟨_, rfl, ?_⟩; have n0_ := mk0 (KeepBut.trans (by repeat (first | (with_reducible first | exact HK.out | apply KeepBut.set_ | apply keep_drewN | apply keep_drew | apply keep_alloc) | exact HK.out)) hk (.inl rfl)); have n1_ := mk0 (hb); have n2_ := mk0 (hi); clear HK; clear HB; clear HI0; have HK := n0_; have HB := n1_; have HI0 := n2_; clear n0_ n1_ n2_; (try clear hb); (try clear hb2); (try clear hk); (try clear hi)) | ((with_reducible refine gate_callee (f := 69) rfl ?_); refine goesL_ (some 24) rfl rfl Try.func69 (by kernel_rfl) rfl #[.pointer (some ⟨g, 0, none⟩)] rfl ar ?_; (with_reducible refine (spec_l1Byte.calls g s0_0 t370 t371 t372 t373 t374 w0 _ ?side1 ?side2 A11.out).mono ?_); (case side1 => repeat (first | (with_reducible first | exact HI0.out | apply IsS87.alloc | apply IsS87.drewN | apply IsS87.drew | apply IsS87.set_1 | apply IsS87.set_2) | exact HI0.out)); (case side2 => repeat (first | (with_reducible first | exact HB.out | apply below_alloc | apply pw_below_drewN | apply below_drew1 | refine below_set ?_ (IsS87.ge HI0.out)) | exact HB.out)); rintro e w16 ⟨rfl, hi, hb, hk⟩; refine ⟨_, rfl, ?_⟩; have n0_ := mk0 (KeepBut.trans (by repeat (first | (with_reducible first | exact HK.out | apply KeepBut.set_ | apply keep_drewN | apply keep_drew | apply keep_alloc) | exact HK.out)) hk (.inl rfl)); have n1_ := mk0 (hb); have n2_ := mk0 (hi); clear HK; clear HB; clear HI0; have HK := n0_; have HB := n1_; have HI0 := n2_; clear n0_ n1_ n2_; (try clear hb); (try clear hb2); (try clear hk); (try clear hi)))
    go_ret
    exact ⟨er, by repeat (first | (with_reducible first | exact HI0.out | apply IsS87.alloc | apply IsS87.drewN | apply IsS87.drew | apply IsS87.set_1 | apply IsS87.set_2) | exact HI0.out), by repeat (first | (with_reducible first | exact HB.out | apply below_alloc | apply pw_below_drewN | apply below_drew1 | refine below_set ?_ (IsS87.ge HI0.out)) | exact HB.out), by repeat (first | (with_reducible first | exact HK.out | apply KeepBut.set_ | apply keep_drewN | apply keep_drew | apply keep_alloc) | exact HK.out)⟩
def spec_l1PickInt.f (s0_0 : List Int) (s0_1 : Int) (s0_2 : Int) (l1 : List Int) : Option (Int × Int × Int) := (spec_l1Below.f s0_0 s0_1 s0_2 (l1.length : Int)).bind fun bt375 => (if 0 ≤ bt375.1 then (if bt375.1 < (l1.length : Int) then (some (rd l1 bt375.1, bt375.2.1, bt375.2.2)) else (none)) else (none))
set_option maxHeartbeats 8000000 in
set_option maxRecDepth 100000 in
theorem spec_l1PickInt.calls (g : Nat) (s0_0 : List Int) (s0_1 : Int) (s0_2 : Int) (A1 : Option Addr) (c1 : Nat) (l1 : List Int) (r1 : Int) (r2 : Int) (r3 : Int) (w0 w : World) (hI : IsS87 w0 w g s0_0 s0_1 s0_2) (hB : Below w0.heap.size w0 w) (hr1 : Kd.C (Kd.int .i64) w A1 l1.length l1) (hc1 : l1.length ≤ c1) (hf1 : ∀ ad, A1 = some ad → 0 < l1.length → ad.block ≠ g) (h : spec_l1PickInt.f s0_0 s0_1 s0_2 l1 = some (r1, r2, r3)) :
  Calls Try.prog 59 #[.pointer (some ⟨g, 0, none⟩), .slice A1 l1.length c1] w fun e w' => e = .returned (.int .i64 r1) ∧ IsS87 w0 w' g s0_0 r2 r3 ∧ Below w0.heap.size w0 w' ∧ KeepBut w w' g none := by
 have HR1 := mk0 hr1
 have HC1 := mk0 hc1
 clear hr1 hc1
 have HI0 := mk0 hI
 have HK := mk0 (KeepBut.refl w g none)
 have HL := mk0 hB.size
 clear hI
 have HW0 := mk0 hB.size
 have HB := mk0 hB
 clear hB
 have H : ((spec_l1Below.f s0_0 s0_1 s0_2 (l1.length : Int)).bind fun bt375 => (if 0 ≤ bt375.1 then (if bt375.1 < (l1.length : Int) then (some (rd l1 bt375.1, bt375.2.1, bt375.2.2)) else (none)) else (none))) = some (r1, r2, r3) := h
 clear h
 replace H := Option.bind_eq_some_iff.mp H
 obtain ⟨⟨t375, t376, t377⟩, A30, H⟩ := H
 replace H : (if 0 ≤ t375 then (if t375 < (l1.length : Int) then (some (rd l1 t375, t376, t377)) else (none)) else (none)) = some (r1, r2, r3) := H
 have A3 := mk0 A30
 clear A30
 by_cases c4 : 0 ≤ t375
 ·rw [if_pos c4] at H
  have c4b0 : decide (0 ≤ t375) = true := decide_eq_true c4
  clear c4
  by_cases c5 : t375 < (l1.length : Int)
  ·rw [if_pos c5] at H
   have c5b0 : decide (t375 < (l1.length : Int)) = true := decide_eq_true c5
   clear c5
   simp only [Option.some.injEq, Prod.mk.injEq] at H
   obtain ⟨rfl, rfl, rfl⟩ := H
   go_enter Try.func59, Try.ntmps59
   go_wp2_with (first | ((with_reducible refine gate_callee (f := 65) rfl ?_); refine goesL_ (some 9) rfl rfl Try.func65 (by kernel_rfl) rfl #[.pointer (some ⟨g, 0, none⟩), .int .i64 (l1.length : Int)] rfl ar ?_; (with_reducible refine (spec_l1Below.calls g s0_0 s0_1 s0_2 (l1.length : Int) t375 t376 t377 w0 _ ?side1 ?side2 A3.out).mono ?_); (case side1 => repeat (first | (with_reducible first | exact HI0.out | apply IsS87.alloc | apply IsS87.drewN | apply IsS87.drew | apply IsS87.set_1 | apply IsS87.set_2) | exact HI0.out)); (case side2 => repeat (first | (with_reducible first | exact HB.out | apply below_alloc | apply pw_below_drewN | apply below_drew1 | refine below_set ?_ (IsS87.ge HI0.out)) | exact HB.out)); rintro e w6 ⟨rfl, hi, hb, hk⟩; refine ⟨_, rfl, ?_⟩; have n0_ := mk0 (KeepBut.trans (by repeat (first | (with_reducible first | exact HK.out | apply KeepBut.set_ | apply keep_drewN | apply keep_drew | apply keep_alloc) | exact HK.out)) hk (.inl rfl)); have n1_ := mk0 (hb); have n2_ := mk0 (hi); clear HK; clear HB; clear HI0; have HK := n0_; have HB := n1_; have HI0 := n2_; clear n0_ n1_ n2_; (try clear hb); (try clear hb2); (try clear hk); (try clear hi); have p378 : 0 ≤ (t375 : Int) := of_decide_eq_true sm; have q378 : t375 < (l1.length : Int) := of_decide_eq_true sm; obtain ⟨ad378, e378, hx378_0⟩ := Kd.at_int HR1.out t375 p378 q378; cases e378; replace hx378_0 := keep_cell HK.out hx378_0 (by first | (rw [add_block]; exact hf1 _ rfl (by omega)) | exact hf1 _ rfl (by omega) | exact hf1 ad378 rfl (by omega)); replace p378 := eq_true p378; replace q378 := eq_true q378))
   go_ret
   exact ⟨er, by repeat (first | (with_reducible first | exact HI0.out | apply IsS87.alloc | apply IsS87.drewN | apply IsS87.drew | apply IsS87.set_1 | apply IsS87.set_2) | exact HI0.out), by repeat (first | (with_reducible first | exact HB.out | apply below_alloc | apply pw_below_drewN | apply below_drew1 | refine below_set ?_ (IsS87.ge HI0.out)) | exact HB.out), by repeat (first | (with_reducible first | exact HK.out | apply KeepBut.set_ | apply keep_drewN | apply keep_drew | apply keep_alloc) | exact HK.out)⟩
  ·rw [if_neg c5] at H
   exact absurd H (by simp)
 ·rw [if_neg c4] at H
  exact absurd H (by simp)
end Go.Proofs.Ytngnkfpciloamaa.MFnBooked
