/- What the code of the law FnBooked answers. -/
import Derived.Test.YtngnkfpciloamaaShortFnBooked
import Derived.Test.YtngnkfpciloamaaHandBookFnBooked
import Derived.Test.YtngnkfpciloamaaMFnBookedx0
import Derived.Test.YtngnkfpciloamaaMFnBookedx6
import Derived.Test.YtngnkfpciloamaaMFnBookedx7
import Derived.Test.YtngnkfpciloamaaMFnBookedx9
namespace Go.Proofs.Ytngnkfpciloamaa.MFnBooked
open Go.RowKit Go.Proofs.YtngnkfpciloamaaW.PrintWords Go.Proofs.YtngnkfpciloamaaW.PrintLast Go.Proofs.YtngnkfpciloamaaW.PrintMore
attribute [local go_sem] max2_int min2_int max_two min_two max_three min_three max_four min_four
set_option linter.unusedVariables false
set_option linter.unusedSimpArgs false
def impl_MendBook.l0 : Nat → List Int → List (S50) → Int → Int → List (S50) → List Int → List Int → Option ((List (S50)) × List Int × List Int × List Int)
 | 0, _, _, _, _, _, _, _ => none
 | k + 1, x5, x20, x21, x22, x249000, x249001, x249002 => if x22 < x21 then (if 0 ≤ x22 then (if x22 < (x20.length : Int) then (if ((rd_T50 x20 x22).f0) = ((rd_T50 x20 x22).f1) then (if x5.length < 17592186044416 then (impl_MendBook.l0 k (x5 ++ [x22]) x20 x21 (wrap64 (x22 + 1)) x249000 x249001 x249002) else (none)) else ((impl_Talk_42.f k x249000 ((rd_T50 x20 x22).f0) ((rd_T50 x20 x22).f1) ((rd_T50 x20 x22).f2)).bind fun t254 => (if t254 = true then (if x5.length < 17592186044416 then (impl_MendBook.l0 k (x5 ++ [x22]) x20 x21 (wrap64 (x22 + 1)) x249000 x249001 x249002) else (none)) else (if x249000.length < 5864062014805 then (impl_MendBook.l0 k x5 x20 x21 (wrap64 (x22 + 1)) (x249000 ++ [(⟨(rd_T50 x20 x22).f0, (rd_T50 x20 x22).f1, (rd_T50 x20 x22).f2⟩ : S50)]) x249001 x249002) else (none))))) else (none)) else (none)) else ((impl_said.f k x249000 x249001 x249002).bind fun bt261 => (some (x249000, bt261.1, bt261.2, x5)))
def impl_MendBook.f (k : Nat) (lp : List (S50)) (lq : List Int) (lr : List Int) : Option ((List (S50)) × List Int × List Int × List Int) := (impl_BookOk.f k lp lq lr).bind fun t241 => (if t241 = true then ((slices_Clone_int_int.f k lq).bind fun t242 => ((slices_Clone_int_int.f k lr).bind fun t245 => (impl_MendBook.l0 k ([] : List Int) lp (lp.length : Int) 0 ([] : List (S50)) t242 t245))) else (some (([] : List (S50)), ([] : List Int), ([] : List Int), ([] : List Int))))
theorem impl_MendBook.mono_l : ∀ k, (∀ y0 y1 y2 y3 y4 y5 y6, LeO (impl_MendBook.l0 k y0 y1 y2 y3 y4 y5 y6) (impl_MendBook.l0 (k + 1) y0 y1 y2 y3 y4 y5 y6))
 | 0 => fun _ _ _ _ _ _ _ r h => by simp [impl_MendBook.l0] at h
 | k + 1 => by
  have ih0 := impl_MendBook.mono_l k
  ·intro y0 y1 y2 y3 y4 y5 y6
   unfold impl_MendBook.l0
   repeat' first
   | (with_reducible exact ih0 _ _ _ _ _ _ _)
   | (with_reducible exact impl_BookOk.mono _ _ _ _)
   | (with_reducible exact impl_Talk_42.mono _ _ _ _ _)
   | (with_reducible exact impl_said.mono _ _ _ _)
   | (with_reducible exact slices_Clone_int_int.mono _ _)
   | (with_reducible exact LeO.refl _)
   | (with_reducible exact LeO.none _)
   | (with_reducible refine LeO.ite ?_ ?_)
   | (with_reducible refine LeO.bind ?_ (fun _ => ?_))
   | exact ih0 _ _ _ _ _ _ _
   | exact impl_BookOk.mono _ _ _ _
   | exact impl_Talk_42.mono _ _ _ _ _
   | exact impl_said.mono _ _ _ _
   | exact slices_Clone_int_int.mono _ _
   | exact LeO.none _
   | refine LeO.ite ?_ ?_
   | refine LeO.bind ?_ (fun _ => ?_)
theorem impl_MendBook.mono : ∀ a0 a1 a2 k, LeO (impl_MendBook.f k a0 a1 a2) (impl_MendBook.f (k + 1) a0 a1 a2) := by
 intro a0 a1 a2 k
 have ih0 := impl_MendBook.mono_l k
 unfold impl_MendBook.f
 repeat' first
   | (with_reducible exact ih0 _ _ _ _ _ _ _)
   | (with_reducible exact impl_BookOk.mono _ _ _ _)
   | (with_reducible exact impl_Talk_42.mono _ _ _ _ _)
   | (with_reducible exact impl_said.mono _ _ _ _)
   | (with_reducible exact slices_Clone_int_int.mono _ _)
   | (with_reducible exact LeO.refl _)
   | (with_reducible exact LeO.none _)
   | (with_reducible refine LeO.ite ?_ ?_)
   | (with_reducible refine LeO.bind ?_ (fun _ => ?_))
   | exact ih0 _ _ _ _ _ _ _
   | exact impl_BookOk.mono _ _ _ _
   | exact impl_Talk_42.mono _ _ _ _ _
   | exact impl_said.mono _ _ _ _
   | exact slices_Clone_int_int.mono _ _
   | exact LeO.none _
   | refine LeO.ite ?_ ?_
   | refine LeO.bind ?_ (fun _ => ?_)
def impl_MendBook.T3 : Bool × List (List Nat × List Nat) := (true, [([], []), ([0], [0]), ([1], [1]), ([], []), ([3], [3]), ([4, 2], [4]), ([2, 5], [2, 5]), ([], []), ([7, 6, 5, 0, 1, 2, 3, 4, 5, 6, 7], [6, 7])])
def impl_MendBook.B3 : List Nat := [0, 1, 3, 0, 8, 31, 63, 0, 255]
theorem impl_MendBook.tab3 : rtab .any (opsOf Try.f12 3) = impl_MendBook.T3 := by kernel_rfl
theorem impl_MendBook.bits3 : waitsOk impl_MendBook.T3.2 impl_MendBook.B3 = true := by kernel_rfl
set_option maxHeartbeats 8000000 in
set_option maxRecDepth 100000 in
theorem impl_MendBook.calls (k : Nat) (Ap : Option Addr) (cp : Nat) (lp : List (S50)) (Aq : Option Addr) (cq : Nat) (lq : List Int) (Ar : Option Addr) (cr : Nat) (lr : List Int) (r1 : List (S50)) (r2 : List Int) (r3 : List Int) (r4 : List Int) (w : World) (hr0_0 : Kd.C k50 w Ap lp.length lp) (hc0_0 : lp.length ≤ cp) (hr0_1 : Kd.C (Kd.int .i64) w Aq lq.length lq) (hc0_1 : lq.length ≤ cq) (hr0_2 : Kd.C (Kd.int .i64) w Ar lr.length lr) (hc0_2 : lr.length ≤ cr) (h : impl_MendBook.f k lp lq lr = some (r1, r2, r3, r4)) :
  Calls Try.prog 12 #[.agg #[.slice Ap lp.length cp, .slice Aq lq.length cq, .slice Ar lr.length cr]] w fun e w' => ∃ v0_ v1_ v2_ v3_ : Value, e = .returned (.tuple #[.agg #[v0_, v1_, v2_], v3_]) ∧ Kd.R k50 50 w' w.heap.size (fun _ => True) v0_ r1 ∧ Kd.R (Kd.int .i64) 3 w' w.heap.size (fun k_ => some k_ ≠ (v2_ : Value).ownBlock ∧ some k_ ≠ (v3_ : Value).ownBlock) v1_ r2 ∧ Kd.R (Kd.int .i64) 3 w' w.heap.size (fun k_ => some k_ ≠ (v1_ : Value).ownBlock ∧ some k_ ≠ (v3_ : Value).ownBlock) v2_ r3 ∧ Kd.R (Kd.int .i64) 3 w' w.heap.size (fun k_ => some k_ ≠ (v1_ : Value).ownBlock ∧ some k_ ≠ (v2_ : Value).ownBlock) v3_ r4 ∧ Below w.heap.size w w' := by
 have hu29 := Try.underlying29
 have hu50 := Try.underlying50
 have HR0_0 := mk0 hr0_0
 have HC0_0 := mk0 hc0_0
 clear hr0_0 hc0_0
 have HR0_1 := mk0 hr0_1
 have HC0_1 := mk0 hc0_1
 clear hr0_1 hc0_1
 have HR0_2 := mk0 hr0_2
 have HC0_2 := mk0 hc0_2
 clear hr0_2 hc0_2
 have HB := mk0 (Below.refl w.heap.size w)
 have H : ((impl_BookOk.f k lp lq lr).bind fun t241 => (if t241 = true then ((slices_Clone_int_int.f k lq).bind fun t242 => ((slices_Clone_int_int.f k lr).bind fun t245 => (impl_MendBook.l0 k ([] : List Int) lp (lp.length : Int) 0 ([] : List (S50)) t242 t245))) else (some (([] : List (S50)), ([] : List Int), ([] : List Int), ([] : List Int))))) = some (r1, r2, r3, r4) := h
 clear h
 replace H := Option.bind_eq_some_iff.mp H
 obtain ⟨t241, A20, H⟩ := H
 replace H : (if t241 = true then ((slices_Clone_int_int.f k lq).bind fun t242 => ((slices_Clone_int_int.f k lr).bind fun t245 => (impl_MendBook.l0 k ([] : List Int) lp (lp.length : Int) 0 ([] : List (S50)) t242 t245))) else (some (([] : List (S50)), ([] : List Int), ([] : List Int), ([] : List Int)))) = some (r1, r2, r3, r4) := H
 have A2 := mk0 A20
 clear A20
 by_cases c3 : t241 = true
 ·subst c3
  have H1 : ((slices_Clone_int_int.f k lq).bind fun t242 => ((slices_Clone_int_int.f k lr).bind fun t245 => (impl_MendBook.l0 k ([] : List Int) lp (lp.length : Int) 0 ([] : List (S50)) t242 t245))) = some (r1, r2, r3, r4) := by rw [if_pos rfl] at H; exact H
  clear H
  have H := H1
  clear H1
  replace H := Option.bind_eq_some_iff.mp H
  obtain ⟨t242, A40, H⟩ := H
  replace H : ((slices_Clone_int_int.f k lr).bind fun t245 => (impl_MendBook.l0 k ([] : List Int) lp (lp.length : Int) 0 ([] : List (S50)) t242 t245)) = some (r1, r2, r3, r4) := H
  have A4 := mk0 A40
  clear A40
  replace H := Option.bind_eq_some_iff.mp H
  obtain ⟨t245, A50, H⟩ := H
  replace H : (impl_MendBook.l0 k ([] : List Int) lp (lp.length : Int) 0 ([] : List (S50)) t242 t245) = some (r1, r2, r3, r4) := H
  have A5 := mk0 A50
  clear A50
  have H' := mk0 H
  clear H
  go_enter Try.func12, Try.ntmps12
  try go_wp2_with (first | ((with_reducible refine gate_dst (N := 1) rfl ?_); refine box_event ?hg (N := 1) ?hd (cs := #[.slice Ap lp.length cp, .slice Aq lq.length cq, .slice Ar lr.length cr]) (t := 29) ?hr ?_; (case hd | hg => rfl); (case hr => first | (go_simp; done) | (go_simp; rfl)); intro gb239 hg w6 hbox hb; have n0_ := mk0 (below_step (hA HB.out) hb); have n1_ := mk0 (hbox); have n2_ := mk0 ((by rw [hg]; exact (below_size (hA HB.out)) : w.heap.size ≤ gb239)); have n3_ := mk0 ((by rw [hg]; exact (below_size (hA HB.out)) : w.heap.size ≤ gb239)); clear HB; have HB := n0_; have BK239 := n1_; have GW239 := n2_; have GE239 := n3_; clear n0_ n1_ n2_ n3_; clear hb hbox hg) | ((with_reducible refine gate_dst (N := 2) rfl ?_); refine box_event ?hg (N := 2) ?hd (cs := #[.slice none 0 0, .slice none 0 0, .slice none 0 0]) (t := 29) ?hr ?_; (case hd | hg => rfl); (case hr => first | (go_simp; done) | (go_simp; rfl)); intro gb240 hg w7 hbox hb; have n0_ := mk0 (bB BK239.out hb); have n1_ := mk0 (below_step (hA HB.out) hb); have n2_ := mk0 (hbox); have n3_ := mk0 ((by rw [hg]; exact (below_size (hA HB.out)) : w.heap.size ≤ gb240)); have n4_ := mk0 ((by rw [hg]; exact (below_size (hA HB.out)) : w.heap.size ≤ gb240)); have n5_ := mk0 ((by rw [hg]; exact Nat.ne_of_lt (blk_lt (g := gb239) (o := .cells #[.slice Ap lp.length cp, .slice Aq lq.length cq, .slice Ar lr.length cr] 29 (0, 0)) (bA BK239.out)) : gb239 ≠ gb240)); have n6_ := mk0 ((by rw [hg]; exact Nat.ne_of_gt (blk_lt (g := gb239) (o := .cells #[.slice Ap lp.length cp, .slice Aq lq.length cq, .slice Ar lr.length cr] 29 (0, 0)) (bA BK239.out)) : gb240 ≠ gb239)); clear BK239; clear HB; have BK239 := n0_; have HB := n1_; have BK240 := n2_; have GW240 := n3_; have GE240 := n4_; have NB239_240 := n5_; have NB240_239 := n6_; clear n0_ n1_ n2_ n3_ n4_ n5_ n6_; clear hb hbox hg; have hnb8 := NB239_240.out; have hnc8 := NB240_239.out; have hcz9_0 : w7.cell? ⟨gb239, 0, none⟩ = some (.slice Ap lp.length cp) := (blk_cell BK239.out 0).trans rfl; have hcz9_1 : w7.cell? ⟨gb239, 1, none⟩ = some (.slice Aq lq.length cq) := (blk_cell BK239.out 1).trans rfl; have hcz9_2 : w7.cell? ⟨gb239, 2, none⟩ = some (.slice Ar lr.length cr) := (blk_cell BK239.out 2).trans rfl; have hfz9_0 := blk_frozen BK239.out 0; have hfz9_1 := blk_frozen BK239.out 1; have hfz9_2 := blk_frozen BK239.out 2) | ((with_reducible refine gate_callee (f := 40) rfl ?_); refine goesL_ (some 9) rfl rfl Try.func40 (by kernel_rfl) rfl #[.agg #[.slice Ap lp.length cp, .slice Aq lq.length cq, .slice Ar lr.length cr]] rfl ar ?_; (with_reducible refine (impl_BookOk.calls k _ _ lp (fun k_ => k_ < w.heap.size) _ _ lq (fun k_ => k_ < w.heap.size) _ _ lr true _ ?side1 ?side2 ?side3 ?side4 A2.out).mono ?_); (case side1 => exact cA (Kd.C_below HR0_0.out HB.out)); (case side2 => exact HC0_0.out); (case side3 => exact Kd.V_mk HC0_1.out (Kd.F_below (Kd.C_F (Kd.heap_int .i64) HR0_1.out) (hA HB.out))); (case side4 => exact Kd.V_mk HC0_2.out (Kd.F_below (Kd.C_F (Kd.heap_int .i64) HR0_2.out) (hA HB.out))); rintro e w10 ⟨rfl, hb⟩; refine ⟨_, rfl, ?_⟩; have n0_ := mk0 (bB BK239.out hb); have n1_ := mk0 (bB BK240.out hb); have n2_ := mk0 (below_step (hA HB.out) hb); clear BK239; clear BK240; clear HB; have BK239 := n0_; have BK240 := n1_; have HB := n2_; clear n0_ n1_ n2_; (try clear hb); (try clear hb2); (try clear hk); (try clear hi)))
  have n0_ := mk0 (blk_drew BK239.out)
  have n1_ := mk0 (blk_drew BK240.out)
  have n2_ := mk0 (below_drew1 HB.out)
  clear BK239
  clear BK240
  clear HB
  have BK239 := n0_
  have BK240 := n1_
  have HB := n2_
  clear n0_ n1_ n2_
  refine start_ (n := 9) (S := fun w' => w'.cell? ⟨gb239, 0, none⟩ = some (.slice Ap lp.length cp) ∧ w'.cell? ⟨gb239, 1, none⟩ = some (.slice Aq lq.length cq) ∧ w'.cell? ⟨gb239, 2, none⟩ = some (.slice Ar lr.length cr)) (ds := []) #[O,O,O,O,O,O,O,O,O] (by kernel_rfl) rfl rfl ⟨(blk_cell BK239.out 0).trans rfl, (blk_cell BK239.out 1).trans rfl, (blk_cell BK239.out 2).trans rfl⟩ (fun hHeld => ?_); refine with_tabW impl_MendBook.tab3 impl_MendBook.bits3 (fun HT_ HW_ => ?_)
  generalize w10.drew = w11 at BK239 BK240 HB hHeld ⊢
  refine pure_ (i := 0) (N := some 12) (v := ?_) (a' := ?_) #[I,O,O,O,O,O,O,O,O] rfl rfl (any_of HT_.out (by kernel_rfl)) (fun _ _ _ h => h) (Or.inl ⟨by rfl, ?_⟩) ?_ ?_
  rotate_left
  ·intro w'
   go_simp
   with_reducible rfl
  rotate_left
  ·simp only [Act.put, s1, s2, s3, i64_w]
   rfl
  refine pure_ (i := 3) (N := some 15) (v := ?_) (a' := ?_) #[I,O,O,I,O,O,O,O,O] rfl rfl (any_of HT_.out (by kernel_rfl)) (fun _ _ _ h => h) (Or.inl ⟨by rfl, ?_⟩) ?_ ?_
  rotate_left
  ·intro w'
   go_simp
   with_reducible rfl
  rotate_left
  ·simp only [Act.put, s1, s2, s3, i64_w]
   rfl
  refine take_ (i := 1) (N := some 13) (v := ?_) (a' := ?_) #[I,I,O,I,O,O,O,O,O] rfl rfl (take_ofW HT_.out HW_.out (by kernel_rfl)) (fun _ _ _ h => h) (Or.inl ⟨by rfl, ?_⟩) hHeld ?_ ?_
  rotate_left
  ·rintro w' ⟨s0, s1, s2⟩
   go_simp
   with_reducible rfl
  rotate_left
  ·simp only [Act.put, s1, s2, s3, i64_w]
   rfl
  refine take_ (i := 4) (N := some 16) (v := ?_) (a' := ?_) #[I,I,O,I,I,O,O,O,O] rfl rfl (take_ofW HT_.out HW_.out (by kernel_rfl)) (fun _ _ _ h => h) (Or.inl ⟨by rfl, ?_⟩) hHeld ?_ ?_
  rotate_left
  ·rintro w' ⟨s0, s1, s2⟩
   go_simp
   with_reducible rfl
  rotate_left
  ·simp only [Act.put, s1, s2, s3, i64_w]
   rfl
  refine join_ (σ := Value × Value × Nat) 1 #[I,I,I,I,I,I,I,I,O] (fun s_ => [(14, s_.1), (17, s_.2.1), (4, .pointer (some ⟨s_.2.2, 0, none⟩)), (18, .agg #[.slice none 0 0, s_.1, s_.2.1])]) (fun s_ w' => (w'.cell? ⟨gb239, 0, none⟩ = some (.slice Ap lp.length cp) ∧ w'.cell? ⟨gb239, 1, none⟩ = some (.slice Aq lq.length cq) ∧ w'.cell? ⟨gb239, 2, none⟩ = some (.slice Ar lr.length cr)) ∧ (Kd.R (Kd.int .i64) 3 w' w.heap.size (fun k_ => some k_ ≠ (s_.2.1 : Value).ownBlock) s_.1 t242) ∧ (Kd.R (Kd.int .i64) 3 w' w.heap.size (fun k_ => some k_ ≠ (s_.1 : Value).ownBlock) s_.2.1 t245) ∧ (w'.heap[gb239]? = some (.cells #[.slice Ap lp.length cp, .slice Aq lq.length cq, .slice Ar lr.length cr] 29 (0, 0))) ∧ (w'.heap[gb240]? = some (.cells #[.slice none 0 0, .slice none 0 0, .slice none 0 0] 29 (0, 0))) ∧ (w'.heap[s_.2.2]? = some (.cells #[.slice none 0 0, .slice none 0 0, .slice none 0 0] 29 (0, 0))) ∧ (w.heap.size ≤ s_.2.2) ∧ (w.heap.size ≤ s_.2.2) ∧ (gb239 ≠ s_.2.2) ∧ (s_.2.2 ≠ gb239) ∧ (gb240 ≠ s_.2.2) ∧ (s_.2.2 ≠ gb240) ∧ (Below w.heap.size w w')) ?_ ?_
  rotate_left
  ·intro hCont
   refine two_ (i := 2) (j := 7) (Ni := some 14) (Nj := some 4) #[I,I,I,I,I,O,O,O,O] #[I,I,O,I,I,O,O,I,O] rfl rfl rfl rfl (two_of HT_.out (by kernel_rfl)) (by decide) (by decide) (fun K hK => ?_) (fun K hK => ?_)
   ·skip
    refine goes_ Try.func41 (by kernel_rfl) rfl #[.slice Aq lq.length cq] (by rfl) rfl rfl ar ?_
    with_reducible refine (slices_Clone_int_int.calls k _ _ lq t242 _ ?side1 ?side2 A4.out).mono ?_
    (case side1 => exact cA (Kd.C_below HR0_1.out HB.out))
    (case side2 => exact HC0_1.out)
    rintro e w12 ⟨v243, rfl, ho0, hb⟩
    refine ⟨_, rfl, ?_⟩
    have n0_ := mk0 (Kd.R_lower ho0 (below_size (hA HB.out)))
    have n1_ := mk0 (bB BK239.out hb)
    have n2_ := mk0 (bB BK240.out hb)
    have n3_ := mk0 (below_step (hA HB.out) hb)
    clear BK239
    clear BK240
    clear HB
    have HO244 := n0_
    have BK239 := n1_
    have BK240 := n2_
    have HB := n3_
    clear n0_ n1_ n2_ n3_
    (try clear hb); (try clear hb2); (try clear hk); (try clear hi); (try clear ho0)
    refine hK.out _ _ ⟨(blk_cell BK239.out 0).trans rfl, (blk_cell BK239.out 1).trans rfl, (blk_cell BK239.out 2).trans rfl⟩ (fun hHeld => ?_)
    clear hK K
    refine norm_ (a' := ?_) ?_ ?_
    rotate_left
    ·show Act.put _ (some 14) _ = _
     simp only [Act.put, s1, s2, s3, i64_w]
     rfl
    refine two_ (i := 5) (j := 7) (Ni := some 17) (Nj := some 4) #[I,I,I,I,I,I,O,O,O] #[I,I,I,I,I,O,O,I,O] rfl rfl rfl rfl (two_of HT_.out (by kernel_rfl)) (by decide) (by decide) (fun K hK => ?_) (fun K hK => ?_)
    ·skip
     refine goes_ Try.func41 (by kernel_rfl) rfl #[.slice Ar lr.length cr] (by rfl) rfl rfl ar ?_
     with_reducible refine (slices_Clone_int_int.calls k _ _ lr t245 _ ?side1 ?side2 A5.out).mono ?_
     (case side1 => exact cA (Kd.C_below HR0_2.out HB.out))
     (case side2 => exact HC0_2.out)
     rintro e w13 ⟨v246, rfl, ho0, hb⟩
     refine ⟨_, rfl, ?_⟩
     have n0_ := mk0 (Kd.R_elder' (rA HO244.out) (Kd.R_base ho0) hb)
     have n1_ := mk0 (Kd.R_lower (Kd.R_new' ho0 (Kd.R_lt (rA HO244.out))) (below_size (hA HB.out)))
     have n2_ := mk0 (bB BK239.out hb)
     have n3_ := mk0 (bB BK240.out hb)
     have n4_ := mk0 (below_step (hA HB.out) hb)
     clear HO244
     clear BK239
     clear BK240
     clear HB
     have HO244 := n0_
     have HO247 := n1_
     have BK239 := n2_
     have BK240 := n3_
     have HB := n4_
     clear n0_ n1_ n2_ n3_ n4_
     (try clear hb); (try clear hb2); (try clear hk); (try clear hi); (try clear ho0)
     obtain ⟨Ao14, co14, eo14⟩ := Kd.R_slice HO247.out
     (first | subst eo14 | (injection eo14 with f1_ f2_ f3_; have f4_ := f1_.symm; have f5_ := f3_.symm; clear f1_ f2_ f3_; subst f4_; subst f5_))
     obtain ⟨Ao15, co15, eo15⟩ := Kd.R_slice HO244.out
     (first | subst eo15 | (injection eo15 with f1_ f2_ f3_; have f4_ := f1_.symm; have f5_ := f3_.symm; clear f1_ f2_ f3_; subst f4_; subst f5_))
     refine hK.out _ _ ⟨(blk_cell BK239.out 0).trans rfl, (blk_cell BK239.out 1).trans rfl, (blk_cell BK239.out 2).trans rfl⟩ (fun hHeld => ?_)
     clear hK K
     refine norm_ (a' := ?_) ?_ ?_
     rotate_left
     ·show Act.put _ (some 17) _ = _
      simp only [Act.put, s1, s2, s3, i64_w]
      rfl
     refine pure_ (i := 6) (N := some 18) (v := ?_) (a' := ?_) #[I,I,I,I,I,I,I,O,O] rfl rfl (any_of HT_.out (by kernel_rfl)) (fun _ _ _ h => h) (Or.inl ⟨by rfl, ?_⟩) ?_ ?_
     rotate_left
     ·intro w'
      go_simp
      with_reducible rfl
     rotate_left
     ·simp only [Act.put, s1, s2, s3, i64_w]
      rfl
     refine one_ (i := 7) (N := some 4) #[I,I,I,I,I,I,I,I,O] rfl rfl (one_of HT_.out (by kernel_rfl)) (by decide) (fun K hK => ?_)
     refine box_step ?hg (N := 4) ?hd (cs := #[.slice none 0 0, .slice none 0 0, .slice none 0 0]) (t := 29) ?hr ?_; (case hd | hg => rfl); (case hr => first | (go_simp; done) | (go_simp; rfl))
     intro gb248 hg w16 hbox hb
     have n0_ := mk0 (Kd.R_below (rA HO244.out) hb)
     have n1_ := mk0 (Kd.R_below (rA HO247.out) hb)
     have n2_ := mk0 (bB BK239.out hb)
     have n3_ := mk0 (bB BK240.out hb)
     have n4_ := mk0 (below_step (hA HB.out) hb)
     have n5_ := mk0 (hbox)
     have n6_ := mk0 ((by rw [hg]; exact (below_size (hA HB.out)) : w.heap.size ≤ gb248))
     have n7_ := mk0 ((by rw [hg]; exact (below_size (hA HB.out)) : w.heap.size ≤ gb248))
     have n8_ := mk0 ((by rw [hg]; exact Nat.ne_of_lt (blk_lt (g := gb239) (o := .cells #[.slice Ap lp.length cp, .slice Aq lq.length cq, .slice Ar lr.length cr] 29 (0, 0)) (bA BK239.out)) : gb239 ≠ gb248))
     have n9_ := mk0 ((by rw [hg]; exact Nat.ne_of_gt (blk_lt (g := gb239) (o := .cells #[.slice Ap lp.length cp, .slice Aq lq.length cq, .slice Ar lr.length cr] 29 (0, 0)) (bA BK239.out)) : gb248 ≠ gb239))
     have n10_ := mk0 ((by rw [hg]; exact Nat.ne_of_lt (blk_lt (g := gb240) (o := .cells #[.slice none 0 0, .slice none 0 0, .slice none 0 0] 29 (0, 0)) (bA BK240.out)) : gb240 ≠ gb248))
     have n11_ := mk0 ((by rw [hg]; exact Nat.ne_of_gt (blk_lt (g := gb240) (o := .cells #[.slice none 0 0, .slice none 0 0, .slice none 0 0] 29 (0, 0)) (bA BK240.out)) : gb248 ≠ gb240))
     clear HO244
     clear HO247
     clear BK239
     clear BK240
     clear HB
     have HO244 := n0_
     have HO247 := n1_
     have BK239 := n2_
     have BK240 := n3_
     have HB := n4_
     have BK248 := n5_
     have GW248 := n6_
     have GE248 := n7_
     have NB239_248 := n8_
     have NB248_239 := n9_
     have NB240_248 := n10_
     have NB248_240 := n11_
     clear n0_ n1_ n2_ n3_ n4_ n5_ n6_ n7_ n8_ n9_ n10_ n11_
     clear hb hbox hg
     refine hK.out _ _ ⟨(blk_cell BK239.out 0).trans rfl, (blk_cell BK239.out 1).trans rfl, (blk_cell BK239.out 2).trans rfl⟩ (fun hHeld => ?_)
     clear hK K
     refine norm_ (a' := ?_) ?_ ?_
     rotate_left
     ·show Act.put _ (some 4) _ = _
      simp only [Act.put, s1, s2, s3, i64_w]
      rfl
     exact norm_ (by simp only [putAll, Act.put, s1, s2, s3]) (hCont (.slice Ao15 t242.length co15, .slice Ao14 t245.length co14, gb248) _ ⟨hHeld, (rC (a := by exact Kd.R_mono HO244.out (fun _ hk => hk.2))), (rC (a := by exact Kd.R_mono HO247.out (fun _ hk => hk.2))), (bA BK239.out), (bA BK240.out), (bA BK248.out), GW248.out, GE248.out, NB239_248.out, NB248_239.out, NB240_248.out, NB248_240.out, (hA HB.out)⟩)
    ·skip
     refine box_step ?hg (N := 4) ?hd (cs := #[.slice none 0 0, .slice none 0 0, .slice none 0 0]) (t := 29) ?hr ?_; (case hd | hg => rfl); (case hr => first | (go_simp; done) | (go_simp; rfl))
     intro gb248 hg w13 hbox hb
     have n0_ := mk0 (Kd.R_below (rA HO244.out) hb)
     have n1_ := mk0 (bB BK239.out hb)
     have n2_ := mk0 (bB BK240.out hb)
     have n3_ := mk0 (below_step (hA HB.out) hb)
     have n4_ := mk0 (hbox)
     have n5_ := mk0 ((by rw [hg]; exact (below_size (hA HB.out)) : w.heap.size ≤ gb248))
     have n6_ := mk0 ((by rw [hg]; exact (below_size (hA HB.out)) : w.heap.size ≤ gb248))
     have n7_ := mk0 ((by rw [hg]; exact Nat.ne_of_lt (blk_lt (g := gb239) (o := .cells #[.slice Ap lp.length cp, .slice Aq lq.length cq, .slice Ar lr.length cr] 29 (0, 0)) (bA BK239.out)) : gb239 ≠ gb248))
     have n8_ := mk0 ((by rw [hg]; exact Nat.ne_of_gt (blk_lt (g := gb239) (o := .cells #[.slice Ap lp.length cp, .slice Aq lq.length cq, .slice Ar lr.length cr] 29 (0, 0)) (bA BK239.out)) : gb248 ≠ gb239))
     have n9_ := mk0 ((by rw [hg]; exact Nat.ne_of_lt (blk_lt (g := gb240) (o := .cells #[.slice none 0 0, .slice none 0 0, .slice none 0 0] 29 (0, 0)) (bA BK240.out)) : gb240 ≠ gb248))
     have n10_ := mk0 ((by rw [hg]; exact Nat.ne_of_gt (blk_lt (g := gb240) (o := .cells #[.slice none 0 0, .slice none 0 0, .slice none 0 0] 29 (0, 0)) (bA BK240.out)) : gb248 ≠ gb240))
     clear HO244
     clear BK239
     clear BK240
     clear HB
     have HO244 := n0_
     have BK239 := n1_
     have BK240 := n2_
     have HB := n3_
     have BK248 := n4_
     have GW248 := n5_
     have GE248 := n6_
     have NB239_248 := n7_
     have NB248_239 := n8_
     have NB240_248 := n9_
     have NB248_240 := n10_
     clear n0_ n1_ n2_ n3_ n4_ n5_ n6_ n7_ n8_ n9_ n10_
     clear hb hbox hg
     refine hK.out _ _ ⟨(blk_cell BK239.out 0).trans rfl, (blk_cell BK239.out 1).trans rfl, (blk_cell BK239.out 2).trans rfl⟩ (fun hHeld => ?_)
     clear hK K
     refine norm_ (a' := ?_) ?_ ?_
     rotate_left
     ·show Act.put _ (some 4) _ = _
      simp only [Act.put, s1, s2, s3, i64_w]
      rfl
     refine one_ (i := 5) (N := some 17) #[I,I,I,I,I,I,O,I,O] rfl rfl (one_of HT_.out (by kernel_rfl)) (by decide) (fun K hK => ?_)
     refine goes_ Try.func41 (by kernel_rfl) rfl #[.slice Ar lr.length cr] (by rfl) rfl rfl ar ?_
     with_reducible refine (slices_Clone_int_int.calls k _ _ lr t245 _ ?side1 ?side2 A5.out).mono ?_
     (case side1 => exact cA (Kd.C_below HR0_2.out HB.out))
     (case side2 => exact HC0_2.out)
     rintro e w14 ⟨v246, rfl, ho0, hb⟩
     refine ⟨_, rfl, ?_⟩
     have n0_ := mk0 (Kd.R_elder' (rA HO244.out) (Kd.R_base ho0) hb)
     have n1_ := mk0 (Kd.R_lower (Kd.R_new' ho0 (Kd.R_lt (rA HO244.out))) (below_size (hA HB.out)))
     have n2_ := mk0 (bB BK239.out hb)
     have n3_ := mk0 (bB BK240.out hb)
     have n4_ := mk0 (bB BK248.out hb)
     have n5_ := mk0 (below_step (hA HB.out) hb)
     clear HO244
     clear BK239
     clear BK240
     clear BK248
     clear HB
     have HO244 := n0_
     have HO247 := n1_
     have BK239 := n2_
     have BK240 := n3_
     have BK248 := n4_
     have HB := n5_
     clear n0_ n1_ n2_ n3_ n4_ n5_
     (try clear hb); (try clear hb2); (try clear hk); (try clear hi); (try clear ho0)
     obtain ⟨Ao15, co15, eo15⟩ := Kd.R_slice HO247.out
     (first | subst eo15 | (injection eo15 with f1_ f2_ f3_; have f4_ := f1_.symm; have f5_ := f3_.symm; clear f1_ f2_ f3_; subst f4_; subst f5_))
     obtain ⟨Ao16, co16, eo16⟩ := Kd.R_slice HO244.out
     (first | subst eo16 | (injection eo16 with f1_ f2_ f3_; have f4_ := f1_.symm; have f5_ := f3_.symm; clear f1_ f2_ f3_; subst f4_; subst f5_))
     refine hK.out _ _ ⟨(blk_cell BK239.out 0).trans rfl, (blk_cell BK239.out 1).trans rfl, (blk_cell BK239.out 2).trans rfl⟩ (fun hHeld => ?_)
     clear hK K
     refine norm_ (a' := ?_) ?_ ?_
     rotate_left
     ·show Act.put _ (some 17) _ = _
      simp only [Act.put, s1, s2, s3, i64_w]
      rfl
     refine pure_ (i := 6) (N := some 18) (v := ?_) (a' := ?_) #[I,I,I,I,I,I,I,I,O] rfl rfl (any_of HT_.out (by kernel_rfl)) (fun _ _ _ h => h) (Or.inl ⟨by rfl, ?_⟩) ?_ ?_
     rotate_left
     ·intro w'
      go_simp
      with_reducible rfl
     rotate_left
     ·simp only [Act.put, s1, s2, s3, i64_w]
      rfl
     exact norm_ (by simp only [putAll, Act.put, s1, s2, s3]) (hCont (.slice Ao16 t242.length co16, .slice Ao15 t245.length co15, gb248) _ ⟨hHeld, (rC (a := by exact Kd.R_mono HO244.out (fun _ hk => hk.2))), (rC (a := by exact Kd.R_mono HO247.out (fun _ hk => hk.2))), (bA BK239.out), (bA BK240.out), (bA BK248.out), GW248.out, GE248.out, NB239_248.out, NB248_239.out, NB240_248.out, NB248_240.out, (hA HB.out)⟩)
   ·skip
    refine box_step ?hg (N := 4) ?hd (cs := #[.slice none 0 0, .slice none 0 0, .slice none 0 0]) (t := 29) ?hr ?_; (case hd | hg => rfl); (case hr => first | (go_simp; done) | (go_simp; rfl))
    intro gb248 hg w12 hbox hb
    have n0_ := mk0 (bB BK239.out hb)
    have n1_ := mk0 (bB BK240.out hb)
    have n2_ := mk0 (below_step (hA HB.out) hb)
    have n3_ := mk0 (hbox)
    have n4_ := mk0 ((by rw [hg]; exact (below_size (hA HB.out)) : w.heap.size ≤ gb248))
    have n5_ := mk0 ((by rw [hg]; exact (below_size (hA HB.out)) : w.heap.size ≤ gb248))
    have n6_ := mk0 ((by rw [hg]; exact Nat.ne_of_lt (blk_lt (g := gb239) (o := .cells #[.slice Ap lp.length cp, .slice Aq lq.length cq, .slice Ar lr.length cr] 29 (0, 0)) (bA BK239.out)) : gb239 ≠ gb248))
    have n7_ := mk0 ((by rw [hg]; exact Nat.ne_of_gt (blk_lt (g := gb239) (o := .cells #[.slice Ap lp.length cp, .slice Aq lq.length cq, .slice Ar lr.length cr] 29 (0, 0)) (bA BK239.out)) : gb248 ≠ gb239))
    have n8_ := mk0 ((by rw [hg]; exact Nat.ne_of_lt (blk_lt (g := gb240) (o := .cells #[.slice none 0 0, .slice none 0 0, .slice none 0 0] 29 (0, 0)) (bA BK240.out)) : gb240 ≠ gb248))
    have n9_ := mk0 ((by rw [hg]; exact Nat.ne_of_gt (blk_lt (g := gb240) (o := .cells #[.slice none 0 0, .slice none 0 0, .slice none 0 0] 29 (0, 0)) (bA BK240.out)) : gb248 ≠ gb240))
    clear BK239
    clear BK240
    clear HB
    have BK239 := n0_
    have BK240 := n1_
    have HB := n2_
    have BK248 := n3_
    have GW248 := n4_
    have GE248 := n5_
    have NB239_248 := n6_
    have NB248_239 := n7_
    have NB240_248 := n8_
    have NB248_240 := n9_
    clear n0_ n1_ n2_ n3_ n4_ n5_ n6_ n7_ n8_ n9_
    clear hb hbox hg
    refine hK.out _ _ ⟨(blk_cell BK239.out 0).trans rfl, (blk_cell BK239.out 1).trans rfl, (blk_cell BK239.out 2).trans rfl⟩ (fun hHeld => ?_)
    clear hK K
    refine norm_ (a' := ?_) ?_ ?_
    rotate_left
    ·show Act.put _ (some 4) _ = _
     simp only [Act.put, s1, s2, s3, i64_w]
     rfl
    refine one_ (i := 2) (N := some 14) #[I,I,I,I,I,O,O,I,O] rfl rfl (one_of HT_.out (by kernel_rfl)) (by decide) (fun K hK => ?_)
    refine goes_ Try.func41 (by kernel_rfl) rfl #[.slice Aq lq.length cq] (by rfl) rfl rfl ar ?_
    with_reducible refine (slices_Clone_int_int.calls k _ _ lq t242 _ ?side1 ?side2 A4.out).mono ?_
    (case side1 => exact cA (Kd.C_below HR0_1.out HB.out))
    (case side2 => exact HC0_1.out)
    rintro e w13 ⟨v243, rfl, ho0, hb⟩
    refine ⟨_, rfl, ?_⟩
    have n0_ := mk0 (Kd.R_lower ho0 (below_size (hA HB.out)))
    have n1_ := mk0 (bB BK239.out hb)
    have n2_ := mk0 (bB BK240.out hb)
    have n3_ := mk0 (bB BK248.out hb)
    have n4_ := mk0 (below_step (hA HB.out) hb)
    clear BK239
    clear BK240
    clear BK248
    clear HB
    have HO244 := n0_
    have BK239 := n1_
    have BK240 := n2_
    have BK248 := n3_
    have HB := n4_
    clear n0_ n1_ n2_ n3_ n4_
    (try clear hb); (try clear hb2); (try clear hk); (try clear hi); (try clear ho0)
    refine hK.out _ _ ⟨(blk_cell BK239.out 0).trans rfl, (blk_cell BK239.out 1).trans rfl, (blk_cell BK239.out 2).trans rfl⟩ (fun hHeld => ?_)
    clear hK K
    refine norm_ (a' := ?_) ?_ ?_
    rotate_left
    ·show Act.put _ (some 14) _ = _
     simp only [Act.put, s1, s2, s3, i64_w]
     rfl
    refine one_ (i := 5) (N := some 17) #[I,I,I,I,I,I,O,I,O] rfl rfl (one_of HT_.out (by kernel_rfl)) (by decide) (fun K hK => ?_)
    refine goes_ Try.func41 (by kernel_rfl) rfl #[.slice Ar lr.length cr] (by rfl) rfl rfl ar ?_
    with_reducible refine (slices_Clone_int_int.calls k _ _ lr t245 _ ?side1 ?side2 A5.out).mono ?_
    (case side1 => exact cA (Kd.C_below HR0_2.out HB.out))
    (case side2 => exact HC0_2.out)
    rintro e w14 ⟨v246, rfl, ho0, hb⟩
    refine ⟨_, rfl, ?_⟩
    have n0_ := mk0 (Kd.R_elder' (rA HO244.out) (Kd.R_base ho0) hb)
    have n1_ := mk0 (Kd.R_lower (Kd.R_new' ho0 (Kd.R_lt (rA HO244.out))) (below_size (hA HB.out)))
    have n2_ := mk0 (bB BK239.out hb)
    have n3_ := mk0 (bB BK240.out hb)
    have n4_ := mk0 (bB BK248.out hb)
    have n5_ := mk0 (below_step (hA HB.out) hb)
    clear HO244
    clear BK239
    clear BK240
    clear BK248
    clear HB
    have HO244 := n0_
    have HO247 := n1_
    have BK239 := n2_
    have BK240 := n3_
    have BK248 := n4_
    have HB := n5_
    clear n0_ n1_ n2_ n3_ n4_ n5_
    (try clear hb); (try clear hb2); (try clear hk); (try clear hi); (try clear ho0)
    obtain ⟨Ao15, co15, eo15⟩ := Kd.R_slice HO247.out
    (first | subst eo15 | (injection eo15 with f1_ f2_ f3_; have f4_ := f1_.symm; have f5_ := f3_.symm; clear f1_ f2_ f3_; subst f4_; subst f5_))
    obtain ⟨Ao16, co16, eo16⟩ := Kd.R_slice HO244.out
    (first | subst eo16 | (injection eo16 with f1_ f2_ f3_; have f4_ := f1_.symm; have f5_ := f3_.symm; clear f1_ f2_ f3_; subst f4_; subst f5_))
    refine hK.out _ _ ⟨(blk_cell BK239.out 0).trans rfl, (blk_cell BK239.out 1).trans rfl, (blk_cell BK239.out 2).trans rfl⟩ (fun hHeld => ?_)
    clear hK K
    refine norm_ (a' := ?_) ?_ ?_
    rotate_left
    ·show Act.put _ (some 17) _ = _
     simp only [Act.put, s1, s2, s3, i64_w]
     rfl
    refine pure_ (i := 6) (N := some 18) (v := ?_) (a' := ?_) #[I,I,I,I,I,I,I,I,O] rfl rfl (any_of HT_.out (by kernel_rfl)) (fun _ _ _ h => h) (Or.inl ⟨by rfl, ?_⟩) ?_ ?_
    rotate_left
    ·intro w'
     go_simp
     with_reducible rfl
    rotate_left
    ·simp only [Act.put, s1, s2, s3, i64_w]
     rfl
    exact norm_ (by simp only [putAll, Act.put, s1, s2, s3]) (hCont (.slice Ao16 t242.length co16, .slice Ao15 t245.length co15, gb248) _ ⟨hHeld, (rC (a := by exact Kd.R_mono HO244.out (fun _ hk => hk.2))), (rC (a := by exact Kd.R_mono HO247.out (fun _ hk => hk.2))), (bA BK239.out), (bA BK240.out), (bA BK248.out), GW248.out, GE248.out, NB239_248.out, NB248_239.out, NB240_248.out, NB248_240.out, (hA HB.out)⟩)
  rintro ⟨v243, v246, gb248⟩ w17 ⟨hS_, h0_, h1_, h2_, h3_, h4_, h5_, h6_, h7_, h8_, h9_, h10_, h11_⟩
  have n0_ : Aside0 (Kd.R (Kd.int .i64) 3 w17 w.heap.size (fun k_ => some k_ ≠ (v246 : Value).ownBlock) v243 t242) := ⟨h0_⟩
  have n1_ : Aside0 (Kd.R (Kd.int .i64) 3 w17 w.heap.size (fun k_ => some k_ ≠ (v243 : Value).ownBlock) v246 t245) := ⟨h1_⟩
  have n2_ : Aside0 (w17.heap[gb239]? = some (.cells #[.slice Ap lp.length cp, .slice Aq lq.length cq, .slice Ar lr.length cr] 29 (0, 0))) := ⟨h2_⟩
  have n3_ : Aside0 (w17.heap[gb240]? = some (.cells #[.slice none 0 0, .slice none 0 0, .slice none 0 0] 29 (0, 0))) := ⟨h3_⟩
  have n4_ : Aside0 (w17.heap[gb248]? = some (.cells #[.slice none 0 0, .slice none 0 0, .slice none 0 0] 29 (0, 0))) := ⟨h4_⟩
  have n5_ : Aside0 (w.heap.size ≤ gb248) := ⟨h5_⟩
  have n6_ : Aside0 (w.heap.size ≤ gb248) := ⟨h6_⟩
  have n7_ : Aside0 (gb239 ≠ gb248) := ⟨h7_⟩
  have n8_ : Aside0 (gb248 ≠ gb239) := ⟨h8_⟩
  have n9_ : Aside0 (gb240 ≠ gb248) := ⟨h9_⟩
  have n10_ : Aside0 (gb248 ≠ gb240) := ⟨h10_⟩
  have n11_ : Aside0 (Below w.heap.size w w17) := ⟨h11_⟩
  clear BK239
  clear BK240
  clear HB
  clear h0_ h1_ h2_ h3_ h4_ h5_ h6_ h7_ h8_ h9_ h10_ h11_
  have HO244 := n0_
  have HO247 := n1_
  have BK239 := n2_
  have BK240 := n3_
  have BK248 := n4_
  have GW248 := n5_
  have GE248 := n6_
  have NB239_248 := n7_
  have NB248_239 := n8_
  have NB240_248 := n9_
  have NB248_240 := n10_
  have HB := n11_
  clear n0_ n1_ n2_ n3_ n4_ n5_ n6_ n7_ n8_ n9_ n10_ n11_
  have hHeld : w17.cell? ⟨gb239, 0, none⟩ = some (.slice Ap lp.length cp) ∧ w17.cell? ⟨gb239, 1, none⟩ = some (.slice Aq lq.length cq) ∧ w17.cell? ⟨gb239, 2, none⟩ = some (.slice Ar lr.length cr) := hS_
  obtain ⟨Ao18, co18, eo18⟩ := Kd.R_slice HO247.out
  (first | subst eo18 | (injection eo18 with f1_ f2_ f3_; have f4_ := f1_.symm; have f5_ := f3_.symm; clear f1_ f2_ f3_; subst f4_; subst f5_))
  obtain ⟨Ao19, co19, eo19⟩ := Kd.R_slice HO244.out
  (first | subst eo19 | (injection eo19 with f1_ f2_ f3_; have f4_ := f1_.symm; have f5_ := f3_.symm; clear f1_ f2_ f3_; subst f4_; subst f5_))
  refine norm_ (a' := ?_) ?_ ?_
  rotate_left
  ·simp only [putAll, Act.put, s1, s2, s3]
   rfl
  refine one_ (i := 8) (N := none) #[I,I,I,I,I,I,I,I,I] rfl rfl (one_of HT_.out (by kernel_rfl)) (by decide) (fun K hK => ?_)
  have hs20 : w17.cell? ⟨gb248, 0, none⟩ = some (.slice none 0 0) := (blk_cell BK248.out 0).trans rfl
  have hfs20 := blk_frozen BK248.out 0
  have hns20_0 := NB239_248.out
  have hns20_1 := NB240_248.out
  have hms20_0 := NB248_239.out
  have hms20_1 := NB248_240.out
  have hs21 : w17.cell? ⟨gb248, 1, none⟩ = some (.slice none 0 0) := (blk_cell BK248.out 1).trans rfl
  have hfs21 := blk_frozen BK248.out 1
  have hns21_0 := NB239_248.out
  have hns21_1 := NB240_248.out
  have hms21_0 := NB248_239.out
  have hms21_1 := NB248_240.out
  have hs22 : w17.cell? ⟨gb248, 2, none⟩ = some (.slice none 0 0) := (blk_cell BK248.out 2).trans rfl
  have hfs22 := blk_frozen BK248.out 2
  have hns22_0 := NB239_248.out
  have hns22_1 := NB240_248.out
  have hms22_0 := NB248_239.out
  have hms22_1 := NB248_240.out
  refine skip_ (w1 := ?_) (by rfl) rfl ?_ ?_
  rotate_left
  ·go_simp
   rfl
  refine hK.out _ _ ⟨((cell_far (p := ⟨gb248, _, none⟩) NB239_248.out _).trans (((cell_far (p := ⟨gb248, _, none⟩) NB239_248.out _).trans (((cell_far (p := ⟨gb248, _, none⟩) NB239_248.out _).trans (hHeld.1)))))), ((cell_far (p := ⟨gb248, _, none⟩) NB239_248.out _).trans (((cell_far (p := ⟨gb248, _, none⟩) NB239_248.out _).trans (((cell_far (p := ⟨gb248, _, none⟩) NB239_248.out _).trans (hHeld.2.1)))))), ((cell_far (p := ⟨gb248, _, none⟩) NB239_248.out _).trans (((cell_far (p := ⟨gb248, _, none⟩) NB239_248.out _).trans (((cell_far (p := ⟨gb248, _, none⟩) NB239_248.out _).trans (hHeld.2.2))))))⟩ (fun hHeld => ?_)
  clear hK K
  refine done_ (done_of HT_.out (by kernel_rfl)) ?_
  have hnb23 := NB239_248.out
  have hnc23 := NB248_239.out
  have hcz24_0 : w17.cell? ⟨gb239, 0, none⟩ = some (.slice Ap lp.length cp) := (blk_cell BK239.out 0).trans rfl
  have hcz24_1 : w17.cell? ⟨gb239, 1, none⟩ = some (.slice Aq lq.length cq) := (blk_cell BK239.out 1).trans rfl
  have hcz24_2 : w17.cell? ⟨gb239, 2, none⟩ = some (.slice Ar lr.length cr) := (blk_cell BK239.out 2).trans rfl
  have hfz24_0 := blk_frozen BK239.out 0
  have hfz24_1 := blk_frozen BK239.out 1
  have hfz24_2 := blk_frozen BK239.out 2
  try go_wp2
  go_loopg [5, 22] k (fun kq v5 v22 w' => ∃ (x5_1 : List Int) (x22_1 : Int) (x249000_1 : List (S50)) (u249000 : Value), v22 = .int .i64 x22_1 ∧ Aside0 (impl_MendBook.l0 kq x5_1 lp (lp.length : Int) x22_1 x249000_1 t242 t245 = some (r1, r2, r3, r4)) ∧ Aside0 (kq ≤ k) ∧ Aside0 (Kd.R (Kd.int .i64) 3 w' w.heap.size (fun k_ => some k_ ≠ ((.slice Ao19 t242.length co19) : Value).ownBlock ∧ some k_ ≠ ((.slice Ao18 t245.length co18) : Value).ownBlock) v5 x5_1) ∧ Aside0 (Kd.R k50 50 w' w.heap.size (fun _ => True) u249000 x249000_1) ∧ Aside0 (Kd.R (Kd.int .i64) 3 w' w.heap.size (fun k_ => some k_ ≠ (v5 : Value).ownBlock ∧ some k_ ≠ ((.slice Ao18 t245.length co18) : Value).ownBlock) (.slice Ao19 t242.length co19) t242) ∧ Aside0 (Kd.R (Kd.int .i64) 3 w' w.heap.size (fun k_ => some k_ ≠ (v5 : Value).ownBlock ∧ some k_ ≠ ((.slice Ao19 t242.length co19) : Value).ownBlock) (.slice Ao18 t245.length co18) t245) ∧ Aside0 (w'.heap[gb239]? = some (.cells #[(.slice Ap lp.length cp), (.slice Aq lq.length cq), (.slice Ar lr.length cr)] 29 (0, 0))) ∧ Aside0 (w'.heap[gb240]? = some (.cells #[(.slice none 0 0), (.slice none 0 0), (.slice none 0 0)] 29 (0, 0))) ∧ Aside0 (w'.heap[gb248]? = some (.cells #[u249000, (.slice Ao19 t242.length co19), (.slice Ao18 t245.length co18)] 29 (0, 0))) ∧ Aside0 (Below w.heap.size w w'))
  case atStart => exact ⟨(([] : List Int)), (0), (([] : List (S50))), (.slice none 0 0), rs, H', ⟨Nat.le_refl _⟩, ⟨by first | exact Kd.R_nil _ _ _ _ _ | exact Kd.N_nil _ _ _ _ _ | exact Kd.V_nil _ _ _ _ _ | exact Kd.Q_nil _ _ _ _ _ | exact Kd.S_nil _ _ _ _ _⟩, ⟨by first | exact Kd.R_nil _ _ _ _ _ | exact Kd.N_nil _ _ _ _ _ | exact Kd.V_nil _ _ _ _ _ | exact Kd.Q_nil _ _ _ _ _ | exact Kd.S_nil _ _ _ _ _⟩, ⟨by refine rC (a := ?_); exact Kd.R_mono (Kd.R_far (p := ⟨gb248, 2, none⟩) (Kd.R_far (p := ⟨gb248, 1, none⟩) (Kd.R_far (p := ⟨gb248, 0, none⟩) (Kd.R_types HO244.out BK248.out (by decide)) (fun _ hk => hk.2) (.slice none 0 0)) (fun _ hk => hk.2) (.slice Ao19 t242.length co19)) (fun _ hk => hk.2) (.slice Ao18 t245.length co18)) (fun _ hk => ⟨(by simp [Value.ownBlock]), hk.1⟩)⟩, ⟨by refine rC (a := ?_); exact Kd.R_mono (Kd.R_far (p := ⟨gb248, 2, none⟩) (Kd.R_far (p := ⟨gb248, 1, none⟩) (Kd.R_far (p := ⟨gb248, 0, none⟩) (Kd.R_types HO247.out BK248.out (by decide)) (fun _ hk => hk.2) (.slice none 0 0)) (fun _ hk => hk.2) (.slice Ao19 t242.length co19)) (fun _ hk => hk.2) (.slice Ao18 t245.length co18)) (fun _ hk => ⟨(by simp [Value.ownBlock]), hk.1⟩)⟩, ⟨by refine bC (a := ?_); refine blk_far ?_ NB239_248.out _; refine bC (a := ?_); refine blk_far ?_ NB239_248.out _; refine bC (a := ?_); refine blk_far ?_ NB239_248.out _; refine bC (a := ?_); exact BK239.out⟩, ⟨by refine bC (a := ?_); refine blk_far ?_ NB240_248.out _; refine bC (a := ?_); refine blk_far ?_ NB240_248.out _; refine bC (a := ?_); refine blk_far ?_ NB240_248.out _; refine bC (a := ?_); exact BK240.out⟩, ⟨by refine bC (a := ?_); refine blk_put (cs := #[.slice none 0 0, .slice Ao19 t242.length co19, .slice none 0 0]) ?_ 2 _ rfl; refine bC (a := ?_); refine blk_put (cs := #[.slice none 0 0, .slice none 0 0, .slice none 0 0]) ?_ 1 _ rfl; refine bC (a := ?_); refine blk_put (cs := #[.slice none 0 0, .slice none 0 0, .slice none 0 0]) ?_ 0 _ rfl; refine bC (a := ?_); exact BK248.out⟩, ⟨hA HB.out⟩⟩
  case round =>
   clear H'
   (try clear c1); (try clear c2); (try clear p2); (try clear c3); (try clear c4); (try clear c8); (try clear c12); (try clear c23); (try clear hcz24_0); (try clear hcz24_1); (try clear hcz24_2); (try clear hcz9_0); (try clear hcz9_1); (try clear hcz9_2); (try clear hfz24_0); (try clear hfz24_1); (try clear hfz24_2); (try clear hfz9_0); (try clear hfz9_1); (try clear hfz9_2)
   obtain ⟨x5_1, x22_1, x249000_1, u249000, rfl, HA, HK1, HO_5, HO_249000, HO_249001, HO_249002, BK239, BK240, BK248, HB⟩ := hrel
   cases gk with
   | zero => exact absurd HA.out (by simp [impl_MendBook.l0])
   | succ k1 =>
    have H := HA.out
    clear HA
    simp only [impl_MendBook.l0] at H
    by_cases c25 : x22_1 < (lp.length : Int)
    ·rw [if_pos c25] at H
     have c25b0 : decide (x22_1 < (lp.length : Int)) = true := decide_eq_true c25
     clear c25
     by_cases c26 : 0 ≤ x22_1
     ·rw [if_pos c26] at H
      have c26b0 : decide (0 ≤ x22_1) = true := decide_eq_true c26
      clear c26
      by_cases c27 : x22_1 < (lp.length : Int)
      ·rw [if_pos c27] at H
       have c27b0 : decide (x22_1 < (lp.length : Int)) = true := decide_eq_true c27
       clear c27
       by_cases c28 : ((rd_T50 lp x22_1).f0) = ((rd_T50 lp x22_1).f1)
       ·rw [if_pos c28] at H
        have c28b0 : (((rd_T50 lp x22_1).f0) == ((rd_T50 lp x22_1).f1)) = true := beq_iff_eq.mpr c28
        have c28b1 : (((rd_T50 lp x22_1).f0) != ((rd_T50 lp x22_1).f1)) = false := bne_eq_false_iff_eq.mpr c28
        clear c28
        by_cases c29 : x5_1.length < 17592186044416
        ·rw [if_pos c29] at H
         have LMc29 := mk0 c29
         clear c29
         obtain ⟨y251, hy251⟩ : ∃ y_ : List Int, y_ = (x5_1 ++ [x22_1]) := ⟨_, rfl⟩
         replace H : (impl_MendBook.l0 k1 y251 lp (lp.length : Int) (wrap64 (x22_1 + 1)) x249000_1 t242 t245) = some (r1, r2, r3, r4) := by first | (rw [hy251]; with_reducible exact H) | (have H2_ := (Option.bind_some _ _).symm.trans H; rw [hy251]; with_reducible exact H2_) | (have H2_ := (Option.bind_some _ _).symm.trans H; with_reducible exact H2_) | with_reducible exact H | (rw [hy251]; exact H) | exact H
         have Ny251 := mk0 hy251
         clear hy251
         have H' := mk0 H
         clear H
         have p249 : 0 ≤ (x22_1 : Int) := of_decide_eq_true sm
         have q249 : x22_1 < (lp.length : Int) := of_decide_eq_true sm
         obtain ⟨ad249, e249, hx249_0, hx249_1, hx249_2⟩ := at_T50 HR0_0.out x22_1 p249 q249
         cases e249
         try (replace hx249_0 := (HB.out.cell (World.block_lt_of_cell? w _ hx249_0)).trans hx249_0)
         try (replace hx249_1 := (HB.out.cell (World.block_lt_of_cell? w _ hx249_1)).trans hx249_1)
         try (replace hx249_2 := (HB.out.cell (World.block_lt_of_cell? w _ hx249_2)).trans hx249_2)
         replace p249 := eq_true p249
         replace q249 := eq_true q249
         go_wp2_with (first | ((with_reducible refine gate_dst (N := 7) rfl ?_); refine box_event ?hg (N := 7) ?hd (cs := #[.int .i64 0, .int .i64 0, .int .i64 0]) (t := 50) ?hr ?_; (case hd | hg => rfl); (case hr => first | (go_simp; done) | (go_simp; rfl)); intro gb250 hg w30 hbox hb; have n0_ := mk0 (Kd.R_below (rA HO_5.out) hb); have n1_ := mk0 (Kd.R_below (Kd.R_elderB (rA HO_249000.out) gb250 (Nat.le_of_eq hg.symm)) hb); have n2_ := mk0 (Kd.R_below (rA HO_249001.out) hb); have n3_ := mk0 (Kd.R_below (rA HO_249002.out) hb); have n4_ := mk0 (bB BK239.out hb); have n5_ := mk0 (bB BK240.out hb); have n6_ := mk0 (bB BK248.out hb); have n7_ := mk0 (below_step (hA HB.out) hb); have n8_ := mk0 (hbox); have n9_ := mk0 ((by rw [hg]; exact (below_size (hA HB.out)) : w.heap.size ≤ gb250)); have n10_ := mk0 ((by rw [hg]; exact (below_size (hA HB.out)) : w.heap.size ≤ gb250)); have n11_ := mk0 ((by rw [hg]; exact Nat.ne_of_lt (blk_lt (g := gb239) (o := .cells #[.slice (some ad249) lp.length cp, .slice Aq lq.length cq, .slice Ar lr.length cr] 29 (0, 0)) (bA BK239.out)) : gb239 ≠ gb250)); have n12_ := mk0 ((by rw [hg]; exact Nat.ne_of_gt (blk_lt (g := gb239) (o := .cells #[.slice (some ad249) lp.length cp, .slice Aq lq.length cq, .slice Ar lr.length cr] 29 (0, 0)) (bA BK239.out)) : gb250 ≠ gb239)); have n13_ := mk0 ((by rw [hg]; exact Nat.ne_of_lt (blk_lt (g := gb240) (o := .cells #[.slice none 0 0, .slice none 0 0, .slice none 0 0] 29 (0, 0)) (bA BK240.out)) : gb240 ≠ gb250)); have n14_ := mk0 ((by rw [hg]; exact Nat.ne_of_gt (blk_lt (g := gb240) (o := .cells #[.slice none 0 0, .slice none 0 0, .slice none 0 0] 29 (0, 0)) (bA BK240.out)) : gb250 ≠ gb240)); have n15_ := mk0 ((by rw [hg]; exact Nat.ne_of_lt (blk_lt (g := gb248) (o := .cells #[u249000, .slice Ao19 t242.length co19, .slice Ao18 t245.length co18] 29 (0, 0)) (bA BK248.out)) : gb248 ≠ gb250)); have n16_ := mk0 ((by rw [hg]; exact Nat.ne_of_gt (blk_lt (g := gb248) (o := .cells #[u249000, .slice Ao19 t242.length co19, .slice Ao18 t245.length co18] 29 (0, 0)) (bA BK248.out)) : gb250 ≠ gb248)); clear HO_5; clear HO_249000; clear HO_249001; clear HO_249002; clear BK239; clear BK240; clear BK248; clear HB; have HO_5 := n0_; have HO_249000 := n1_; have HO_249001 := n2_; have HO_249002 := n3_; have BK239 := n4_; have BK240 := n5_; have BK248 := n6_; have HB := n7_; have BK250 := n8_; have GW250 := n9_; have GE250 := n10_; have NB239_250 := n11_; have NB250_239 := n12_; have NB240_250 := n13_; have NB250_240 := n14_; have NB248_250 := n15_; have NB250_248 := n16_; clear n0_ n1_ n2_ n3_ n4_ n5_ n6_ n7_ n8_ n9_ n10_ n11_ n12_ n13_ n14_ n15_ n16_; clear hb hbox hg; have hnb31 := NB250_239.out; have hnc31 := NB239_250.out; have hnb32 := NB250_240.out; have hnc32 := NB240_250.out; have hnb33 := NB250_248.out; have hnc33 := NB248_250.out; have hcz34_0 : w30.cell? ⟨gb250, 0, none⟩ = some (.int .i64 0) := (blk_cell BK250.out 0).trans rfl; have hcz34_1 : w30.cell? ⟨gb250, 1, none⟩ = some (.int .i64 0) := (blk_cell BK250.out 1).trans rfl; have hcz34_2 : w30.cell? ⟨gb250, 2, none⟩ = some (.int .i64 0) := (blk_cell BK250.out 2).trans rfl; have hfz34_0 := blk_frozen BK250.out 0; have hfz34_1 := blk_frozen BK250.out 1; have hfz34_2 := blk_frozen BK250.out 2) | ((with_reducible refine gate_builtin (b := .append) (xs := #[.tmp 39, .tmp 41]) rfl ?_); at_builtin; refine Kd.R_append (Kd.int .i64) (w0 := w) w.heap.size rfl (.tmp 39) (.tmp 41) 23 3 (.int .i64 0) 8 rfl Try.underlying23 info3 rfl (by decide) (by omega) u5 x5_1 x22_1 [.int .i64 x22_1] (fun k_ => some k_ ≠ (.slice Ao19 t242.length co19 : Value).ownBlock ∧ some k_ ≠ (.slice Ao18 t245.length co18 : Value).ownBlock) (fun _ => False) rfl (by first | (go_simp; done) | (go_simp; rfl)) ?aP (fun _ hk => hk.elim) ?aF ?aO ?aB ?aS ?aL ?_; (case aP => exact rfl); (case aB => exact (hA HB.out)); (case aF => exact (fun k_ hk => ⟨Kd.fresh' (Kd.R_lt (rC (a := by exact (Kd.R_mono (Kd.R_far (p := ⟨gb250, 2, none⟩) (Kd.R_far (p := ⟨gb250, 1, none⟩) (Kd.R_far (p := ⟨gb250, 0, none⟩) (Kd.R_types HO_249001.out BK250.out (by decide)) (fun _ hk => hk.2) (.int .i64 ((rd_T50 lp x22_1).f0))) (fun _ hk => hk.2) (.int .i64 ((rd_T50 lp x22_1).f1))) (fun _ hk => hk.2) (.int .i64 ((rd_T50 lp x22_1).f2))) (fun _ h_ => h_.1))))) k_ hk, Kd.fresh' (Kd.R_lt (rC (a := by exact (Kd.R_mono (Kd.R_far (p := ⟨gb250, 2, none⟩) (Kd.R_far (p := ⟨gb250, 1, none⟩) (Kd.R_far (p := ⟨gb250, 0, none⟩) (Kd.R_types HO_249002.out BK250.out (by decide)) (fun _ hk => hk.2) (.int .i64 ((rd_T50 lp x22_1).f0))) (fun _ hk => hk.2) (.int .i64 ((rd_T50 lp x22_1).f1))) (fun _ hk => hk.2) (.int .i64 ((rd_T50 lp x22_1).f2))) (fun _ h_ => h_.1))))) k_ hk⟩)); (case aO => exact (rC (a := by exact Kd.R_mono (Kd.R_far (p := ⟨gb250, 2, none⟩) (Kd.R_far (p := ⟨gb250, 1, none⟩) (Kd.R_far (p := ⟨gb250, 0, none⟩) (Kd.R_types HO_5.out BK250.out (by decide)) (fun _ hk => hk.2) (.int .i64 ((rd_T50 lp x22_1).f0))) (fun _ hk => hk.2) (.int .i64 ((rd_T50 lp x22_1).f1))) (fun _ hk => hk.2) (.int .i64 ((rd_T50 lp x22_1).f2))) (fun _ hk => ⟨hk.1.1, hk.1.2⟩)))); (case aS => exact (below_size (hA HB.out))); (case aL => have := LMc29.out; omega); intro v252 w35 ho hb hg hat; rw [← Ny251.out] at ho; have n0_ := mk0 (Kd.R_over' (rC (a := by exact (Kd.R_mono (Kd.R_far (p := ⟨gb250, 2, none⟩) (Kd.R_far (p := ⟨gb250, 1, none⟩) (Kd.R_far (p := ⟨gb250, 0, none⟩) (Kd.R_mono HO_249000.out (fun k_ hk => (⟨hk, hk.2⟩ : _ ∧ k_ ≠ gb250))) (fun _ hk => hk.2) (.int .i64 ((rd_T50 lp x22_1).f0))) (fun _ hk => hk.2) (.int .i64 ((rd_T50 lp x22_1).f1))) (fun _ hk => hk.2) (.int .i64 ((rd_T50 lp x22_1).f2))) (fun _ h_ => h_.1)))) (Kd.R_typed (rC (a := by exact (Kd.R_mono (Kd.R_far (p := ⟨gb250, 2, none⟩) (Kd.R_far (p := ⟨gb250, 1, none⟩) (Kd.R_far (p := ⟨gb250, 0, none⟩) (Kd.R_types HO_5.out BK250.out (by decide)) (fun _ hk => hk.2) (.int .i64 ((rd_T50 lp x22_1).f0))) (fun _ hk => hk.2) (.int .i64 ((rd_T50 lp x22_1).f1))) (fun _ hk => hk.2) (.int .i64 ((rd_T50 lp x22_1).f2))) (fun _ h_ => h_.1))))) (by decide) hg); have n1_ := mk0 (Kd.R_after (ok := (fun k_ => some k_ ≠ (.slice Ao18 t245.length co18 : Value).ownBlock)) (rC (a := by exact Kd.R_mono (Kd.R_far (p := ⟨gb250, 2, none⟩) (Kd.R_far (p := ⟨gb250, 1, none⟩) (Kd.R_far (p := ⟨gb250, 0, none⟩) (Kd.R_types HO_249001.out BK250.out (by decide)) (fun _ hk => hk.2) (.int .i64 ((rd_T50 lp x22_1).f0))) (fun _ hk => hk.2) (.int .i64 ((rd_T50 lp x22_1).f1))) (fun _ hk => hk.2) (.int .i64 ((rd_T50 lp x22_1).f2))) (fun _ hk => ⟨hk.1.2, hk.1.1⟩))) hg hat); have n2_ := mk0 (Kd.R_after (ok := (fun k_ => some k_ ≠ (.slice Ao19 t242.length co19 : Value).ownBlock)) (rC (a := by exact Kd.R_mono (Kd.R_far (p := ⟨gb250, 2, none⟩) (Kd.R_far (p := ⟨gb250, 1, none⟩) (Kd.R_far (p := ⟨gb250, 0, none⟩) (Kd.R_types HO_249002.out BK250.out (by decide)) (fun _ hk => hk.2) (.int .i64 ((rd_T50 lp x22_1).f0))) (fun _ hk => hk.2) (.int .i64 ((rd_T50 lp x22_1).f1))) (fun _ hk => hk.2) (.int .i64 ((rd_T50 lp x22_1).f2))) (fun _ hk => ⟨hk.1.2, hk.1.1⟩))) hg hat); have n3_ := mk0 (blk_grown (g := gb239) (o := .cells #[.slice (some ad249) lp.length cp, .slice Aq lq.length cq, .slice Ar lr.length cr] 29 (0, 0)) (by refine bC (a := ?_); refine blk_far ?_ NB239_250.out _; refine bC (a := ?_); refine blk_far ?_ NB239_250.out _; refine bC (a := ?_); refine blk_far ?_ NB239_250.out _; refine bC (a := ?_); exact BK239.out) hg (Kd.R_ne HO_5.out BK239.out (by decide))); have n4_ := mk0 (blk_grown (g := gb240) (o := .cells #[.slice none 0 0, .slice none 0 0, .slice none 0 0] 29 (0, 0)) (by refine bC (a := ?_); refine blk_far ?_ NB240_250.out _; refine bC (a := ?_); refine blk_far ?_ NB240_250.out _; refine bC (a := ?_); refine blk_far ?_ NB240_250.out _; refine bC (a := ?_); exact BK240.out) hg (Kd.R_ne HO_5.out BK240.out (by decide))); have n5_ := mk0 (blk_grown (g := gb248) (o := .cells #[u249000, .slice Ao19 t242.length co19, .slice Ao18 t245.length co18] 29 (0, 0)) (by refine bC (a := ?_); refine blk_far ?_ NB248_250.out _; refine bC (a := ?_); refine blk_far ?_ NB248_250.out _; refine bC (a := ?_); refine blk_far ?_ NB248_250.out _; refine bC (a := ?_); exact BK248.out) hg (Kd.R_ne HO_5.out BK248.out (by decide))); have n6_ := mk0 (blk_grown (g := gb250) (o := .cells #[.int .i64 ((rd_T50 lp x22_1).f0), .int .i64 ((rd_T50 lp x22_1).f1), .int .i64 ((rd_T50 lp x22_1).f2)] 50 (0, 0)) (by refine bC (a := ?_); refine blk_put (cs := #[.int .i64 ((rd_T50 lp x22_1).f0), .int .i64 ((rd_T50 lp x22_1).f1), .int .i64 0]) ?_ 2 _ rfl; refine bC (a := ?_); refine blk_put (cs := #[.int .i64 ((rd_T50 lp x22_1).f0), .int .i64 0, .int .i64 0]) ?_ 1 _ rfl; refine bC (a := ?_); refine blk_put (cs := #[.int .i64 0, .int .i64 0, .int .i64 0]) ?_ 0 _ rfl; refine bC (a := ?_); exact BK250.out) hg (Kd.R_ne HO_5.out BK250.out (by decide))); have n7_ := mk0 (hb); have n8_ := mk0 (ho); clear HO_249000; clear HO_249001; clear HO_249002; clear BK239; clear BK240; clear BK248; clear BK250; clear HB; clear HO_5; have HO_249000 := n0_; have HO_249001 := n1_; have HO_249002 := n2_; have BK239 := n3_; have BK240 := n4_; have BK248 := n5_; have BK250 := n6_; have HB := n7_; have HO253 := n8_; clear n0_ n1_ n2_ n3_ n4_ n5_ n6_ n7_ n8_; clear ho hb hg hat))
         go_roundg k1
         case measure => have := HK1.out; omega
         case rel => exact ⟨(y251), (wrap64 (x22_1 + 1)), (x249000_1), (u249000), rs, H', ⟨by have := HK1.out; omega⟩, ⟨by refine rC (a := ?_); exact HO253.out⟩, ⟨by refine rC (a := ?_); exact Kd.R_mono HO_249000.out (fun _ hk => trivial)⟩, ⟨by refine rC (a := ?_); exact Kd.R_mono HO_249001.out (fun _ hk => ⟨hk.2, hk.1⟩)⟩, ⟨by refine rC (a := ?_); exact Kd.R_mono HO_249002.out (fun _ hk => ⟨hk.2, hk.1⟩)⟩, ⟨by refine bC (a := ?_); exact BK239.out⟩, ⟨by refine bC (a := ?_); exact BK240.out⟩, ⟨by refine bC (a := ?_); exact BK248.out⟩, ⟨hA HB.out⟩⟩
        ·rw [if_neg c29] at H
         exact absurd H (by simp)
       ·rw [if_neg c28] at H
        have c28b0 : (((rd_T50 lp x22_1).f0) == ((rd_T50 lp x22_1).f1)) = false := beq_eq_false_iff_ne.mpr c28
        have c28b1 : (((rd_T50 lp x22_1).f0) != ((rd_T50 lp x22_1).f1)) = true := bne_iff_ne.mpr c28
        replace H := Option.bind_eq_some_iff.mp H
        obtain ⟨t254, A360, H⟩ := H
        replace H : (if t254 = true then (if x5_1.length < 17592186044416 then (impl_MendBook.l0 k1 (x5_1 ++ [x22_1]) lp (lp.length : Int) (wrap64 (x22_1 + 1)) x249000_1 t242 t245) else (none)) else (if x249000_1.length < 5864062014805 then (impl_MendBook.l0 k1 x5_1 lp (lp.length : Int) (wrap64 (x22_1 + 1)) (x249000_1 ++ [(⟨(rd_T50 lp x22_1).f0, (rd_T50 lp x22_1).f1, (rd_T50 lp x22_1).f2⟩ : S50)]) t242 t245) else (none))) = some (r1, r2, r3, r4) := H
        have A36 := mk0 A360
        clear A360
        by_cases c37 : t254 = true
        ·subst c37
         have H1 : (if x5_1.length < 17592186044416 then (impl_MendBook.l0 k1 (x5_1 ++ [x22_1]) lp (lp.length : Int) (wrap64 (x22_1 + 1)) x249000_1 t242 t245) else (none)) = some (r1, r2, r3, r4) := by rw [if_pos rfl] at H; exact H
         clear H
         have H := H1
         clear H1
         by_cases c38 : x5_1.length < 17592186044416
         ·rw [if_pos c38] at H
          have LMc38 := mk0 c38
          clear c38
          obtain ⟨y255, hy255⟩ : ∃ y_ : List Int, y_ = (x5_1 ++ [x22_1]) := ⟨_, rfl⟩
          replace H : (impl_MendBook.l0 k1 y255 lp (lp.length : Int) (wrap64 (x22_1 + 1)) x249000_1 t242 t245) = some (r1, r2, r3, r4) := by first | (rw [hy255]; with_reducible exact H) | (have H2_ := (Option.bind_some _ _).symm.trans H; rw [hy255]; with_reducible exact H2_) | (have H2_ := (Option.bind_some _ _).symm.trans H; with_reducible exact H2_) | with_reducible exact H | (rw [hy255]; exact H) | exact H
          have Ny255 := mk0 hy255
          clear hy255
          have H' := mk0 H
          clear H
          have p249 : 0 ≤ (x22_1 : Int) := of_decide_eq_true sm
          have q249 : x22_1 < (lp.length : Int) := of_decide_eq_true sm
          obtain ⟨ad249, e249, hx249_0, hx249_1, hx249_2⟩ := at_T50 HR0_0.out x22_1 p249 q249
          cases e249
          try (replace hx249_0 := (HB.out.cell (World.block_lt_of_cell? w _ hx249_0)).trans hx249_0)
          try (replace hx249_1 := (HB.out.cell (World.block_lt_of_cell? w _ hx249_1)).trans hx249_1)
          try (replace hx249_2 := (HB.out.cell (World.block_lt_of_cell? w _ hx249_2)).trans hx249_2)
          replace p249 := eq_true p249
          replace q249 := eq_true q249
          go_wp2_with (first | ((with_reducible refine gate_dst (N := 7) rfl ?_); refine box_event ?hg (N := 7) ?hd (cs := #[.int .i64 0, .int .i64 0, .int .i64 0]) (t := 50) ?hr ?_; (case hd | hg => rfl); (case hr => first | (go_simp; done) | (go_simp; rfl)); intro gb250 hg w39 hbox hb; have n0_ := mk0 (Kd.R_below (rA HO_5.out) hb); have n1_ := mk0 (Kd.R_below (Kd.R_elderB (rA HO_249000.out) gb250 (Nat.le_of_eq hg.symm)) hb); have n2_ := mk0 (Kd.R_below (rA HO_249001.out) hb); have n3_ := mk0 (Kd.R_below (rA HO_249002.out) hb); have n4_ := mk0 (bB BK239.out hb); have n5_ := mk0 (bB BK240.out hb); have n6_ := mk0 (bB BK248.out hb); have n7_ := mk0 (below_step (hA HB.out) hb); have n8_ := mk0 (hbox); have n9_ := mk0 ((by rw [hg]; exact (below_size (hA HB.out)) : w.heap.size ≤ gb250)); have n10_ := mk0 ((by rw [hg]; exact (below_size (hA HB.out)) : w.heap.size ≤ gb250)); have n11_ := mk0 ((by rw [hg]; exact Nat.ne_of_lt (blk_lt (g := gb239) (o := .cells #[.slice (some ad249) lp.length cp, .slice Aq lq.length cq, .slice Ar lr.length cr] 29 (0, 0)) (bA BK239.out)) : gb239 ≠ gb250)); have n12_ := mk0 ((by rw [hg]; exact Nat.ne_of_gt (blk_lt (g := gb239) (o := .cells #[.slice (some ad249) lp.length cp, .slice Aq lq.length cq, .slice Ar lr.length cr] 29 (0, 0)) (bA BK239.out)) : gb250 ≠ gb239)); have n13_ := mk0 ((by rw [hg]; exact Nat.ne_of_lt (blk_lt (g := gb240) (o := .cells #[.slice none 0 0, .slice none 0 0, .slice none 0 0] 29 (0, 0)) (bA BK240.out)) : gb240 ≠ gb250)); have n14_ := mk0 ((by rw [hg]; exact Nat.ne_of_gt (blk_lt (g := gb240) (o := .cells #[.slice none 0 0, .slice none 0 0, .slice none 0 0] 29 (0, 0)) (bA BK240.out)) : gb250 ≠ gb240)); have n15_ := mk0 ((by rw [hg]; exact Nat.ne_of_lt (blk_lt (g := gb248) (o := .cells #[u249000, .slice Ao19 t242.length co19, .slice Ao18 t245.length co18] 29 (0, 0)) (bA BK248.out)) : gb248 ≠ gb250)); have n16_ := mk0 ((by rw [hg]; exact Nat.ne_of_gt (blk_lt (g := gb248) (o := .cells #[u249000, .slice Ao19 t242.length co19, .slice Ao18 t245.length co18] 29 (0, 0)) (bA BK248.out)) : gb250 ≠ gb248)); clear HO_5; clear HO_249000; clear HO_249001; clear HO_249002; clear BK239; clear BK240; clear BK248; clear HB; have HO_5 := n0_; have HO_249000 := n1_; have HO_249001 := n2_; have HO_249002 := n3_; have BK239 := n4_; have BK240 := n5_; have BK248 := n6_; have HB := n7_; have BK250 := n8_; have GW250 := n9_; have GE250 := n10_; have NB239_250 := n11_; have NB250_239 := n12_; have NB240_250 := n13_; have NB250_240 := n14_; have NB248_250 := n15_; have NB250_248 := n16_; clear n0_ n1_ n2_ n3_ n4_ n5_ n6_ n7_ n8_ n9_ n10_ n11_ n12_ n13_ n14_ n15_ n16_; clear hb hbox hg; have hnb40 := NB250_239.out; have hnc40 := NB239_250.out; have hnb41 := NB250_240.out; have hnc41 := NB240_250.out; have hnb42 := NB250_248.out; have hnc42 := NB248_250.out; have hcz43_0 : w39.cell? ⟨gb250, 0, none⟩ = some (.int .i64 0) := (blk_cell BK250.out 0).trans rfl; have hcz43_1 : w39.cell? ⟨gb250, 1, none⟩ = some (.int .i64 0) := (blk_cell BK250.out 1).trans rfl; have hcz43_2 : w39.cell? ⟨gb250, 2, none⟩ = some (.int .i64 0) := (blk_cell BK250.out 2).trans rfl; have hfz43_0 := blk_frozen BK250.out 0; have hfz43_1 := blk_frozen BK250.out 1; have hfz43_2 := blk_frozen BK250.out 2; have hnb44 := NB248_239.out; have hnc44 := NB239_248.out; have hnb45 := NB248_240.out; have hnc45 := NB240_248.out; have hcz46_0 : w39.cell? ⟨gb248, 0, none⟩ = some (u249000) := (blk_cell BK248.out 0).trans rfl; have hcz46_1 : w39.cell? ⟨gb248, 1, none⟩ = some (.slice Ao19 t242.length co19) := (blk_cell BK248.out 1).trans rfl; have hcz46_2 : w39.cell? ⟨gb248, 2, none⟩ = some (.slice Ao18 t245.length co18) := (blk_cell BK248.out 2).trans rfl; have hfz46_0 := blk_frozen BK248.out 0; have hfz46_1 := blk_frozen BK248.out 1; have hfz46_2 := blk_frozen BK248.out 2; obtain ⟨Ao47, co47, eo47⟩ := Kd.R_slice HO_249000.out; subst eo47) | (go_at_call 42; (with_reducible refine (impl_Talk_42.calls k1 _ _ x249000_1 ((rd_T50 lp x22_1).f0) ((rd_T50 lp x22_1).f1) ((rd_T50 lp x22_1).f2) true _ ?side1 ?side2 A36.out).mono ?_); (case side1 => refine (Kd.R_reads' (e := 50) (base := w.heap.size) (ok := fun k_ => (True ∧ k_ ≠ gb250)) (n := x249000_1.length) (c := co47) ?_).2.2; exact (rC (a := by exact (Kd.R_mono (Kd.R_far (p := ⟨gb250, 2, none⟩) (Kd.R_far (p := ⟨gb250, 1, none⟩) (Kd.R_far (p := ⟨gb250, 0, none⟩) (Kd.R_mono HO_249000.out (fun k_ hk => (⟨hk, hk.2⟩ : _ ∧ k_ ≠ gb250))) (fun _ hk => hk.2) (.int .i64 ((rd_T50 lp x22_1).f0))) (fun _ hk => hk.2) (.int .i64 ((rd_T50 lp x22_1).f1))) (fun _ hk => hk.2) (.int .i64 ((rd_T50 lp x22_1).f2))) (fun _ h_ => h_.1))))); (case side2 => exact (Kd.R_reads' HO_249000.out).2.1); rintro e w48 ⟨rfl, hb⟩; have n0_ := mk0 (Kd.R_below (rC (a := by exact (Kd.R_mono (Kd.R_far (p := ⟨gb250, 2, none⟩) (Kd.R_far (p := ⟨gb250, 1, none⟩) (Kd.R_far (p := ⟨gb250, 0, none⟩) (Kd.R_types HO_5.out BK250.out (by decide)) (fun _ hk => hk.2) (.int .i64 ((rd_T50 lp x22_1).f0))) (fun _ hk => hk.2) (.int .i64 ((rd_T50 lp x22_1).f1))) (fun _ hk => hk.2) (.int .i64 ((rd_T50 lp x22_1).f2))) (fun _ h_ => h_.1)))) hb); have n1_ := mk0 (Kd.R_below (rC (a := by exact (Kd.R_mono (Kd.R_far (p := ⟨gb250, 2, none⟩) (Kd.R_far (p := ⟨gb250, 1, none⟩) (Kd.R_far (p := ⟨gb250, 0, none⟩) (Kd.R_mono HO_249000.out (fun k_ hk => (⟨hk, hk.2⟩ : _ ∧ k_ ≠ gb250))) (fun _ hk => hk.2) (.int .i64 ((rd_T50 lp x22_1).f0))) (fun _ hk => hk.2) (.int .i64 ((rd_T50 lp x22_1).f1))) (fun _ hk => hk.2) (.int .i64 ((rd_T50 lp x22_1).f2))) (fun _ h_ => h_.1)))) hb); have n2_ := mk0 (Kd.R_below (rC (a := by exact (Kd.R_mono (Kd.R_far (p := ⟨gb250, 2, none⟩) (Kd.R_far (p := ⟨gb250, 1, none⟩) (Kd.R_far (p := ⟨gb250, 0, none⟩) (Kd.R_types HO_249001.out BK250.out (by decide)) (fun _ hk => hk.2) (.int .i64 ((rd_T50 lp x22_1).f0))) (fun _ hk => hk.2) (.int .i64 ((rd_T50 lp x22_1).f1))) (fun _ hk => hk.2) (.int .i64 ((rd_T50 lp x22_1).f2))) (fun _ h_ => h_.1)))) hb); have n3_ := mk0 (Kd.R_below (rC (a := by exact (Kd.R_mono (Kd.R_far (p := ⟨gb250, 2, none⟩) (Kd.R_far (p := ⟨gb250, 1, none⟩) (Kd.R_far (p := ⟨gb250, 0, none⟩) (Kd.R_types HO_249002.out BK250.out (by decide)) (fun _ hk => hk.2) (.int .i64 ((rd_T50 lp x22_1).f0))) (fun _ hk => hk.2) (.int .i64 ((rd_T50 lp x22_1).f1))) (fun _ hk => hk.2) (.int .i64 ((rd_T50 lp x22_1).f2))) (fun _ h_ => h_.1)))) hb); have n4_ := mk0 (blk_below (g := gb239) (o := .cells #[.slice (some ad249) lp.length cp, .slice Aq lq.length cq, .slice Ar lr.length cr] 29 (0, 0)) (by refine bC (a := ?_); refine blk_far ?_ NB239_250.out _; refine bC (a := ?_); refine blk_far ?_ NB239_250.out _; refine bC (a := ?_); refine blk_far ?_ NB239_250.out _; refine bC (a := ?_); exact BK239.out) hb); have n5_ := mk0 (blk_below (g := gb240) (o := .cells #[.slice none 0 0, .slice none 0 0, .slice none 0 0] 29 (0, 0)) (by refine bC (a := ?_); refine blk_far ?_ NB240_250.out _; refine bC (a := ?_); refine blk_far ?_ NB240_250.out _; refine bC (a := ?_); refine blk_far ?_ NB240_250.out _; refine bC (a := ?_); exact BK240.out) hb); have n6_ := mk0 (blk_below (g := gb248) (o := .cells #[.slice Ao47 x249000_1.length co47, .slice Ao19 t242.length co19, .slice Ao18 t245.length co18] 29 (0, 0)) (by refine bC (a := ?_); refine blk_far ?_ NB248_250.out _; refine bC (a := ?_); refine blk_far ?_ NB248_250.out _; refine bC (a := ?_); refine blk_far ?_ NB248_250.out _; refine bC (a := ?_); exact BK248.out) hb); have n7_ := mk0 (blk_below (g := gb250) (o := .cells #[.int .i64 ((rd_T50 lp x22_1).f0), .int .i64 ((rd_T50 lp x22_1).f1), .int .i64 ((rd_T50 lp x22_1).f2)] 50 (0, 0)) (by refine bC (a := ?_); refine blk_put (cs := #[.int .i64 ((rd_T50 lp x22_1).f0), .int .i64 ((rd_T50 lp x22_1).f1), .int .i64 0]) ?_ 2 _ rfl; refine bC (a := ?_); refine blk_put (cs := #[.int .i64 ((rd_T50 lp x22_1).f0), .int .i64 0, .int .i64 0]) ?_ 1 _ rfl; refine bC (a := ?_); refine blk_put (cs := #[.int .i64 0, .int .i64 0, .int .i64 0]) ?_ 0 _ rfl; refine bC (a := ?_); exact BK250.out) hb); have n8_ := mk0 (below_step (hA HB.out) hb); clear HO_5; clear HO_249000; clear HO_249001; clear HO_249002; clear BK239; clear BK240; clear BK248; clear BK250; clear HB; have HO_5 := n0_; have HO_249000 := n1_; have HO_249001 := n2_; have HO_249002 := n3_; have BK239 := n4_; have BK240 := n5_; have BK248 := n6_; have BK250 := n7_; have HB := n8_; clear n0_ n1_ n2_ n3_ n4_ n5_ n6_ n7_ n8_; (try clear hb); (try clear hb2); (try clear hk); (try clear hi)) | ((with_reducible refine gate_builtin (b := .append) (xs := #[.tmp 39, .tmp 41]) rfl ?_); at_builtin; refine Kd.R_append (Kd.int .i64) (w0 := w) w.heap.size rfl (.tmp 39) (.tmp 41) 23 3 (.int .i64 0) 8 rfl Try.underlying23 info3 rfl (by decide) (by omega) u5 x5_1 x22_1 [.int .i64 x22_1] (fun k_ => some k_ ≠ (.slice Ao19 t242.length co19 : Value).ownBlock ∧ some k_ ≠ (.slice Ao18 t245.length co18 : Value).ownBlock) (fun _ => False) rfl rfl ?aP (fun _ hk => hk.elim) ?aF ?aO ?aB ?aS ?aL ?_; (case aP => exact rfl); (case aB => exact (hA HB.out)); (case aF => exact (fun k_ hk => ⟨Kd.fresh' (Kd.R_lt (rA HO_249001.out)) k_ hk, Kd.fresh' (Kd.R_lt (rA HO_249002.out)) k_ hk⟩)); (case aO => exact (rA HO_5.out)); (case aS => exact (below_size (hA HB.out))); (case aL => have := LMc38.out; omega); intro v256 w49 ho hb hg hat; rw [← Ny255.out] at ho; have n0_ := mk0 (Kd.R_over' (rA HO_249000.out) (Kd.R_typed (rA HO_5.out)) (by decide) hg); have n1_ := mk0 (Kd.R_after (ok := (fun k_ => some k_ ≠ (.slice Ao18 t245.length co18 : Value).ownBlock)) (rC (a := by exact Kd.R_mono HO_249001.out (fun _ hk => ⟨hk.2, hk.1⟩))) hg hat); have n2_ := mk0 (Kd.R_after (ok := (fun k_ => some k_ ≠ (.slice Ao19 t242.length co19 : Value).ownBlock)) (rC (a := by exact Kd.R_mono HO_249002.out (fun _ hk => ⟨hk.2, hk.1⟩))) hg hat); have n3_ := mk0 (blk_grown (g := gb239) (o := .cells #[.slice (some ad249) lp.length cp, .slice Aq lq.length cq, .slice Ar lr.length cr] 29 (0, 0)) (bA BK239.out) hg (Kd.R_ne HO_5.out BK239.out (by decide))); have n4_ := mk0 (blk_grown (g := gb240) (o := .cells #[.slice none 0 0, .slice none 0 0, .slice none 0 0] 29 (0, 0)) (bA BK240.out) hg (Kd.R_ne HO_5.out BK240.out (by decide))); have n5_ := mk0 (blk_grown (g := gb248) (o := .cells #[.slice Ao47 x249000_1.length co47, .slice Ao19 t242.length co19, .slice Ao18 t245.length co18] 29 (0, 0)) (bA BK248.out) hg (Kd.R_ne HO_5.out BK248.out (by decide))); have n6_ := mk0 (blk_grown (g := gb250) (o := .cells #[.int .i64 ((rd_T50 lp x22_1).f0), .int .i64 ((rd_T50 lp x22_1).f1), .int .i64 ((rd_T50 lp x22_1).f2)] 50 (0, 0)) (bA BK250.out) hg (Kd.R_ne HO_5.out BK250.out (by decide))); have n7_ := mk0 (hb); have n8_ := mk0 (ho); clear HO_249000; clear HO_249001; clear HO_249002; clear BK239; clear BK240; clear BK248; clear BK250; clear HB; clear HO_5; have HO_249000 := n0_; have HO_249001 := n1_; have HO_249002 := n2_; have BK239 := n3_; have BK240 := n4_; have BK248 := n5_; have BK250 := n6_; have HB := n7_; have HO257 := n8_; clear n0_ n1_ n2_ n3_ n4_ n5_ n6_ n7_ n8_; clear ho hb hg hat))
          go_roundg k1
          case measure => have := HK1.out; omega
          case rel => exact ⟨(y255), (wrap64 (x22_1 + 1)), (x249000_1), (.slice Ao47 x249000_1.length co47), rs, H', ⟨by have := HK1.out; omega⟩, ⟨by refine rC (a := ?_); exact HO257.out⟩, ⟨by refine rC (a := ?_); exact Kd.R_mono HO_249000.out (fun _ hk => trivial)⟩, ⟨by refine rC (a := ?_); exact Kd.R_mono HO_249001.out (fun _ hk => ⟨hk.2, hk.1⟩)⟩, ⟨by refine rC (a := ?_); exact Kd.R_mono HO_249002.out (fun _ hk => ⟨hk.2, hk.1⟩)⟩, ⟨by refine bC (a := ?_); exact BK239.out⟩, ⟨by refine bC (a := ?_); exact BK240.out⟩, ⟨by refine bC (a := ?_); exact BK248.out⟩, ⟨hA HB.out⟩⟩
         ·rw [if_neg c38] at H
          exact absurd H (by simp)
        ·replace c37 := Bool.eq_false_iff.mpr c37
         subst c37
         have H1 : (if x249000_1.length < 5864062014805 then (impl_MendBook.l0 k1 x5_1 lp (lp.length : Int) (wrap64 (x22_1 + 1)) (x249000_1 ++ [(⟨(rd_T50 lp x22_1).f0, (rd_T50 lp x22_1).f1, (rd_T50 lp x22_1).f2⟩ : S50)]) t242 t245) else (none)) = some (r1, r2, r3, r4) := by rw [if_neg (show ¬ (false = true) by decide)] at H; exact H
         clear H
         have H := H1
         clear H1
         by_cases c50 : x249000_1.length < 5864062014805
         ·rw [if_pos c50] at H
          have LMc50 := mk0 c50
          clear c50
          obtain ⟨y258, hy258⟩ : ∃ y_ : List (S50), y_ = (x249000_1 ++ [(⟨(rd_T50 lp x22_1).f0, (rd_T50 lp x22_1).f1, (rd_T50 lp x22_1).f2⟩ : S50)]) := ⟨_, rfl⟩
          replace H : (impl_MendBook.l0 k1 x5_1 lp (lp.length : Int) (wrap64 (x22_1 + 1)) y258 t242 t245) = some (r1, r2, r3, r4) := by first | (rw [hy258]; with_reducible exact H) | (have H2_ := (Option.bind_some _ _).symm.trans H; rw [hy258]; with_reducible exact H2_) | (have H2_ := (Option.bind_some _ _).symm.trans H; with_reducible exact H2_) | with_reducible exact H | (rw [hy258]; exact H) | exact H
          have Ny258 := mk0 hy258
          clear hy258
          have H' := mk0 H
          clear H
          have p249 : 0 ≤ (x22_1 : Int) := of_decide_eq_true sm
          have q249 : x22_1 < (lp.length : Int) := of_decide_eq_true sm
          obtain ⟨ad249, e249, hx249_0, hx249_1, hx249_2⟩ := at_T50 HR0_0.out x22_1 p249 q249
          cases e249
          try (replace hx249_0 := (HB.out.cell (World.block_lt_of_cell? w _ hx249_0)).trans hx249_0)
          try (replace hx249_1 := (HB.out.cell (World.block_lt_of_cell? w _ hx249_1)).trans hx249_1)
          try (replace hx249_2 := (HB.out.cell (World.block_lt_of_cell? w _ hx249_2)).trans hx249_2)
          replace p249 := eq_true p249
          replace q249 := eq_true q249
          go_wp2_with (first | ((with_reducible refine gate_dst (N := 7) rfl ?_); refine box_event ?hg (N := 7) ?hd (cs := #[.int .i64 0, .int .i64 0, .int .i64 0]) (t := 50) ?hr ?_; (case hd | hg => rfl); (case hr => first | (go_simp; done) | (go_simp; rfl)); intro gb250 hg w51 hbox hb; have n0_ := mk0 (Kd.R_below (rA HO_5.out) hb); have n1_ := mk0 (Kd.R_below (Kd.R_elderB (rA HO_249000.out) gb250 (Nat.le_of_eq hg.symm)) hb); have n2_ := mk0 (Kd.R_below (rA HO_249001.out) hb); have n3_ := mk0 (Kd.R_below (rA HO_249002.out) hb); have n4_ := mk0 (bB BK239.out hb); have n5_ := mk0 (bB BK240.out hb); have n6_ := mk0 (bB BK248.out hb); have n7_ := mk0 (below_step (hA HB.out) hb); have n8_ := mk0 (hbox); have n9_ := mk0 ((by rw [hg]; exact (below_size (hA HB.out)) : w.heap.size ≤ gb250)); have n10_ := mk0 ((by rw [hg]; exact (below_size (hA HB.out)) : w.heap.size ≤ gb250)); have n11_ := mk0 ((by rw [hg]; exact Nat.ne_of_lt (blk_lt (g := gb239) (o := .cells #[.slice (some ad249) lp.length cp, .slice Aq lq.length cq, .slice Ar lr.length cr] 29 (0, 0)) (bA BK239.out)) : gb239 ≠ gb250)); have n12_ := mk0 ((by rw [hg]; exact Nat.ne_of_gt (blk_lt (g := gb239) (o := .cells #[.slice (some ad249) lp.length cp, .slice Aq lq.length cq, .slice Ar lr.length cr] 29 (0, 0)) (bA BK239.out)) : gb250 ≠ gb239)); have n13_ := mk0 ((by rw [hg]; exact Nat.ne_of_lt (blk_lt (g := gb240) (o := .cells #[.slice none 0 0, .slice none 0 0, .slice none 0 0] 29 (0, 0)) (bA BK240.out)) : gb240 ≠ gb250)); have n14_ := mk0 ((by rw [hg]; exact Nat.ne_of_gt (blk_lt (g := gb240) (o := .cells #[.slice none 0 0, .slice none 0 0, .slice none 0 0] 29 (0, 0)) (bA BK240.out)) : gb250 ≠ gb240)); have n15_ := mk0 ((by rw [hg]; exact Nat.ne_of_lt (blk_lt (g := gb248) (o := .cells #[u249000, .slice Ao19 t242.length co19, .slice Ao18 t245.length co18] 29 (0, 0)) (bA BK248.out)) : gb248 ≠ gb250)); have n16_ := mk0 ((by rw [hg]; exact Nat.ne_of_gt (blk_lt (g := gb248) (o := .cells #[u249000, .slice Ao19 t242.length co19, .slice Ao18 t245.length co18] 29 (0, 0)) (bA BK248.out)) : gb250 ≠ gb248)); clear HO_5; clear HO_249000; clear HO_249001; clear HO_249002; clear BK239; clear BK240; clear BK248; clear HB; have HO_5 := n0_; have HO_249000 := n1_; have HO_249001 := n2_; have HO_249002 := n3_; have BK239 := n4_; have BK240 := n5_; have BK248 := n6_; have HB := n7_; have BK250 := n8_; have GW250 := n9_; have GE250 := n10_; have NB239_250 := n11_; have NB250_239 := n12_; have NB240_250 := n13_; have NB250_240 := n14_; have NB248_250 := n15_; have NB250_248 := n16_; clear n0_ n1_ n2_ n3_ n4_ n5_ n6_ n7_ n8_ n9_ n10_ n11_ n12_ n13_ n14_ n15_ n16_; clear hb hbox hg; have hnb52 := NB250_239.out; have hnc52 := NB239_250.out; have hnb53 := NB250_240.out; have hnc53 := NB240_250.out; have hnb54 := NB250_248.out; have hnc54 := NB248_250.out; have hcz55_0 : w51.cell? ⟨gb250, 0, none⟩ = some (.int .i64 0) := (blk_cell BK250.out 0).trans rfl; have hcz55_1 : w51.cell? ⟨gb250, 1, none⟩ = some (.int .i64 0) := (blk_cell BK250.out 1).trans rfl; have hcz55_2 : w51.cell? ⟨gb250, 2, none⟩ = some (.int .i64 0) := (blk_cell BK250.out 2).trans rfl; have hfz55_0 := blk_frozen BK250.out 0; have hfz55_1 := blk_frozen BK250.out 1; have hfz55_2 := blk_frozen BK250.out 2; have hnb56 := NB248_239.out; have hnc56 := NB239_248.out; have hnb57 := NB248_240.out; have hnc57 := NB240_248.out; have hcz58_0 : w51.cell? ⟨gb248, 0, none⟩ = some (u249000) := (blk_cell BK248.out 0).trans rfl; have hcz58_1 : w51.cell? ⟨gb248, 1, none⟩ = some (.slice Ao19 t242.length co19) := (blk_cell BK248.out 1).trans rfl; have hcz58_2 : w51.cell? ⟨gb248, 2, none⟩ = some (.slice Ao18 t245.length co18) := (blk_cell BK248.out 2).trans rfl; have hfz58_0 := blk_frozen BK248.out 0; have hfz58_1 := blk_frozen BK248.out 1; have hfz58_2 := blk_frozen BK248.out 2; obtain ⟨Ao59, co59, eo59⟩ := Kd.R_slice HO_249000.out; subst eo59) | (go_at_call 42; (with_reducible refine (impl_Talk_42.calls k1 _ _ x249000_1 ((rd_T50 lp x22_1).f0) ((rd_T50 lp x22_1).f1) ((rd_T50 lp x22_1).f2) false _ ?side1 ?side2 A36.out).mono ?_); (case side1 => refine (Kd.R_reads' (e := 50) (base := w.heap.size) (ok := fun k_ => (True ∧ k_ ≠ gb250)) (n := x249000_1.length) (c := co59) ?_).2.2; exact (rC (a := by exact (Kd.R_mono (Kd.R_far (p := ⟨gb250, 2, none⟩) (Kd.R_far (p := ⟨gb250, 1, none⟩) (Kd.R_far (p := ⟨gb250, 0, none⟩) (Kd.R_mono HO_249000.out (fun k_ hk => (⟨hk, hk.2⟩ : _ ∧ k_ ≠ gb250))) (fun _ hk => hk.2) (.int .i64 ((rd_T50 lp x22_1).f0))) (fun _ hk => hk.2) (.int .i64 ((rd_T50 lp x22_1).f1))) (fun _ hk => hk.2) (.int .i64 ((rd_T50 lp x22_1).f2))) (fun _ h_ => h_.1))))); (case side2 => exact (Kd.R_reads' HO_249000.out).2.1); rintro e w60 ⟨rfl, hb⟩; have n0_ := mk0 (Kd.R_below (rC (a := by exact (Kd.R_mono (Kd.R_far (p := ⟨gb250, 2, none⟩) (Kd.R_far (p := ⟨gb250, 1, none⟩) (Kd.R_far (p := ⟨gb250, 0, none⟩) (Kd.R_types HO_5.out BK250.out (by decide)) (fun _ hk => hk.2) (.int .i64 ((rd_T50 lp x22_1).f0))) (fun _ hk => hk.2) (.int .i64 ((rd_T50 lp x22_1).f1))) (fun _ hk => hk.2) (.int .i64 ((rd_T50 lp x22_1).f2))) (fun _ h_ => h_.1)))) hb); have n1_ := mk0 (Kd.R_below (rC (a := by exact (Kd.R_mono (Kd.R_far (p := ⟨gb250, 2, none⟩) (Kd.R_far (p := ⟨gb250, 1, none⟩) (Kd.R_far (p := ⟨gb250, 0, none⟩) (Kd.R_mono HO_249000.out (fun k_ hk => (⟨hk, hk.2⟩ : _ ∧ k_ ≠ gb250))) (fun _ hk => hk.2) (.int .i64 ((rd_T50 lp x22_1).f0))) (fun _ hk => hk.2) (.int .i64 ((rd_T50 lp x22_1).f1))) (fun _ hk => hk.2) (.int .i64 ((rd_T50 lp x22_1).f2))) (fun _ h_ => h_.1)))) hb); have n2_ := mk0 (Kd.R_below (rC (a := by exact (Kd.R_mono (Kd.R_far (p := ⟨gb250, 2, none⟩) (Kd.R_far (p := ⟨gb250, 1, none⟩) (Kd.R_far (p := ⟨gb250, 0, none⟩) (Kd.R_types HO_249001.out BK250.out (by decide)) (fun _ hk => hk.2) (.int .i64 ((rd_T50 lp x22_1).f0))) (fun _ hk => hk.2) (.int .i64 ((rd_T50 lp x22_1).f1))) (fun _ hk => hk.2) (.int .i64 ((rd_T50 lp x22_1).f2))) (fun _ h_ => h_.1)))) hb); have n3_ := mk0 (Kd.R_below (rC (a := by exact (Kd.R_mono (Kd.R_far (p := ⟨gb250, 2, none⟩) (Kd.R_far (p := ⟨gb250, 1, none⟩) (Kd.R_far (p := ⟨gb250, 0, none⟩) (Kd.R_types HO_249002.out BK250.out (by decide)) (fun _ hk => hk.2) (.int .i64 ((rd_T50 lp x22_1).f0))) (fun _ hk => hk.2) (.int .i64 ((rd_T50 lp x22_1).f1))) (fun _ hk => hk.2) (.int .i64 ((rd_T50 lp x22_1).f2))) (fun _ h_ => h_.1)))) hb); have n4_ := mk0 (blk_below (g := gb239) (o := .cells #[.slice (some ad249) lp.length cp, .slice Aq lq.length cq, .slice Ar lr.length cr] 29 (0, 0)) (by refine bC (a := ?_); refine blk_far ?_ NB239_250.out _; refine bC (a := ?_); refine blk_far ?_ NB239_250.out _; refine bC (a := ?_); refine blk_far ?_ NB239_250.out _; refine bC (a := ?_); exact BK239.out) hb); have n5_ := mk0 (blk_below (g := gb240) (o := .cells #[.slice none 0 0, .slice none 0 0, .slice none 0 0] 29 (0, 0)) (by refine bC (a := ?_); refine blk_far ?_ NB240_250.out _; refine bC (a := ?_); refine blk_far ?_ NB240_250.out _; refine bC (a := ?_); refine blk_far ?_ NB240_250.out _; refine bC (a := ?_); exact BK240.out) hb); have n6_ := mk0 (blk_below (g := gb248) (o := .cells #[.slice Ao59 x249000_1.length co59, .slice Ao19 t242.length co19, .slice Ao18 t245.length co18] 29 (0, 0)) (by refine bC (a := ?_); refine blk_far ?_ NB248_250.out _; refine bC (a := ?_); refine blk_far ?_ NB248_250.out _; refine bC (a := ?_); refine blk_far ?_ NB248_250.out _; refine bC (a := ?_); exact BK248.out) hb); have n7_ := mk0 (blk_below (g := gb250) (o := .cells #[.int .i64 ((rd_T50 lp x22_1).f0), .int .i64 ((rd_T50 lp x22_1).f1), .int .i64 ((rd_T50 lp x22_1).f2)] 50 (0, 0)) (by refine bC (a := ?_); refine blk_put (cs := #[.int .i64 ((rd_T50 lp x22_1).f0), .int .i64 ((rd_T50 lp x22_1).f1), .int .i64 0]) ?_ 2 _ rfl; refine bC (a := ?_); refine blk_put (cs := #[.int .i64 ((rd_T50 lp x22_1).f0), .int .i64 0, .int .i64 0]) ?_ 1 _ rfl; refine bC (a := ?_); refine blk_put (cs := #[.int .i64 0, .int .i64 0, .int .i64 0]) ?_ 0 _ rfl; refine bC (a := ?_); exact BK250.out) hb); have n8_ := mk0 (below_step (hA HB.out) hb); clear HO_5; clear HO_249000; clear HO_249001; clear HO_249002; clear BK239; clear BK240; clear BK248; clear BK250; clear HB; have HO_5 := n0_; have HO_249000 := n1_; have HO_249001 := n2_; have HO_249002 := n3_; have BK239 := n4_; have BK240 := n5_; have BK248 := n6_; have BK250 := n7_; have HB := n8_; clear n0_ n1_ n2_ n3_ n4_ n5_ n6_ n7_ n8_; (try clear hb); (try clear hb2); (try clear hk); (try clear hi); have hcz61_0 : w60.cell? ⟨gb248, 0, none⟩ = some (.slice Ao59 x249000_1.length co59) := (blk_cell BK248.out 0).trans rfl; have hcz61_1 : w60.cell? ⟨gb248, 1, none⟩ = some (.slice Ao19 t242.length co19) := (blk_cell BK248.out 1).trans rfl; have hcz61_2 : w60.cell? ⟨gb248, 2, none⟩ = some (.slice Ao18 t245.length co18) := (blk_cell BK248.out 2).trans rfl; have hfz61_0 := blk_frozen BK248.out 0; have hfz61_1 := blk_frozen BK248.out 1; have hfz61_2 := blk_frozen BK248.out 2; have hcz62_0 : w60.cell? ⟨gb250, 0, none⟩ = some (.int .i64 ((rd_T50 lp x22_1).f0)) := (blk_cell BK250.out 0).trans rfl; have hcz62_1 : w60.cell? ⟨gb250, 1, none⟩ = some (.int .i64 ((rd_T50 lp x22_1).f1)) := (blk_cell BK250.out 1).trans rfl; have hcz62_2 : w60.cell? ⟨gb250, 2, none⟩ = some (.int .i64 ((rd_T50 lp x22_1).f2)) := (blk_cell BK250.out 2).trans rfl; have hfz62_0 := blk_frozen BK250.out 0; have hfz62_1 := blk_frozen BK250.out 1; have hfz62_2 := blk_frozen BK250.out 2) | ((with_reducible refine gate_builtin (b := .append) (xs := #[.tmp 44, .tmp 46]) rfl ?_); at_builtin; refine Kd.R_append k50 (w0 := w) w.heap.size rfl (.tmp 44) (.tmp 46) 27 50 (.agg #[(.int .i64 0), (.int .i64 0), (.int .i64 0)]) 24 rfl Try.underlying27 info50 rfl (by decide) (by omega) (.slice Ao59 x249000_1.length co59) x249000_1 (⟨(rd_T50 lp x22_1).f0, (rd_T50 lp x22_1).f1, (rd_T50 lp x22_1).f2⟩ : S50) [.int .i64 ((rd_T50 lp x22_1).f0), .int .i64 ((rd_T50 lp x22_1).f1), .int .i64 ((rd_T50 lp x22_1).f2)] (fun k_ => k_ ≠ gb250) (fun _ => False) rfl rfl ?aP (fun _ hk => hk.elim) ?aF ?aO ?aB ?aS ?aL ?_; (case aP => exact k50_mkM _ _ _ (⟨(rd_T50 lp x22_1).f0, (rd_T50 lp x22_1).f1, (rd_T50 lp x22_1).f2⟩ : S50)); (case aB => exact (hA HB.out)); (case aF => exact (fun k_ hk => Kd.freshB (g := gb250) (o := .cells #[.int .i64 ((rd_T50 lp x22_1).f0), .int .i64 ((rd_T50 lp x22_1).f1), .int .i64 ((rd_T50 lp x22_1).f2)] 50 (0, 0)) (bA BK250.out) k_ hk)); (case aO => exact (rC (a := by exact Kd.R_mono HO_249000.out (fun _ hk => hk.2)))); (case aS => exact (below_size (hA HB.out))); (case aL => have := LMc50.out; omega); intro v259 w63 ho hb hg hat; rw [← Ny258.out] at ho; have n0_ := mk0 (Kd.R_over' (rA HO_5.out) (Kd.R_typed (rA HO_249000.out)) (by decide) hg); have n1_ := mk0 (Kd.R_over' (rA HO_249001.out) (Kd.R_typed (rA HO_249000.out)) (by decide) hg); have n2_ := mk0 (Kd.R_over' (rA HO_249002.out) (Kd.R_typed (rA HO_249000.out)) (by decide) hg); have n3_ := mk0 (blk_grown (g := gb239) (o := .cells #[.slice (some ad249) lp.length cp, .slice Aq lq.length cq, .slice Ar lr.length cr] 29 (0, 0)) (bA BK239.out) hg (Kd.R_ne HO_249000.out BK239.out (by decide))); have n4_ := mk0 (blk_grown (g := gb240) (o := .cells #[.slice none 0 0, .slice none 0 0, .slice none 0 0] 29 (0, 0)) (bA BK240.out) hg (Kd.R_ne HO_249000.out BK240.out (by decide))); have n5_ := mk0 (blk_grown (g := gb248) (o := .cells #[.slice Ao59 x249000_1.length co59, .slice Ao19 t242.length co19, .slice Ao18 t245.length co18] 29 (0, 0)) (bA BK248.out) hg (Kd.R_ne HO_249000.out BK248.out (by decide))); have n6_ := mk0 (blk_grown (g := gb250) (o := .cells #[.int .i64 ((rd_T50 lp x22_1).f0), .int .i64 ((rd_T50 lp x22_1).f1), .int .i64 ((rd_T50 lp x22_1).f2)] 50 (0, 0)) (bA BK250.out) hg (Kd.R_away HO_249000.out (fun _ hk => hk.2))); have n7_ := mk0 (hb); have n8_ := mk0 (ho); clear HO_5; clear HO_249001; clear HO_249002; clear BK239; clear BK240; clear BK248; clear BK250; clear HB; clear HO_249000; have HO_5 := n0_; have HO_249001 := n1_; have HO_249002 := n2_; have BK239 := n3_; have BK240 := n4_; have BK248 := n5_; have BK250 := n6_; have HB := n7_; have HO260 := n8_; clear n0_ n1_ n2_ n3_ n4_ n5_ n6_ n7_ n8_; clear ho hb hg hat; obtain ⟨Ao64, co64, eo64⟩ := Kd.R_slice HO260.out; subst eo64; have hcz65_0 : w63.cell? ⟨gb248, 0, none⟩ = some (.slice Ao59 x249000_1.length co59) := (blk_cell BK248.out 0).trans rfl; have hcz65_1 : w63.cell? ⟨gb248, 1, none⟩ = some (.slice Ao19 t242.length co19) := (blk_cell BK248.out 1).trans rfl; have hcz65_2 : w63.cell? ⟨gb248, 2, none⟩ = some (.slice Ao18 t245.length co18) := (blk_cell BK248.out 2).trans rfl; have hfz65_0 := blk_frozen BK248.out 0; have hfz65_1 := blk_frozen BK248.out 1; have hfz65_2 := blk_frozen BK248.out 2))
          go_roundg k1
          case measure => have := HK1.out; omega
          case rel => exact ⟨(x5_1), (wrap64 (x22_1 + 1)), (y258), (.slice Ao64 y258.length co64), rs, H', ⟨by have := HK1.out; omega⟩, ⟨by refine rC (a := ?_); exact Kd.R_mono (Kd.R_far (p := ⟨gb248, 0, none⟩) (Kd.R_types HO_5.out BK248.out (by decide)) (fun _ hk => hk.2) (.slice Ao64 y258.length co64)) (fun _ hk => ⟨hk.1.1, hk.1.2⟩)⟩, ⟨by refine rC (a := ?_); exact Kd.R_mono (Kd.R_far (p := ⟨gb248, 0, none⟩) (Kd.R_types HO260.out BK248.out (by decide)) (fun _ hk => hk.2) (.slice Ao64 y258.length co64)) (fun _ hk => trivial)⟩, ⟨by refine rC (a := ?_); exact Kd.R_mono (Kd.R_far (p := ⟨gb248, 0, none⟩) (Kd.R_types HO_249001.out BK248.out (by decide)) (fun _ hk => hk.2) (.slice Ao64 y258.length co64)) (fun _ hk => ⟨hk.1.1, hk.1.2⟩)⟩, ⟨by refine rC (a := ?_); exact Kd.R_mono (Kd.R_far (p := ⟨gb248, 0, none⟩) (Kd.R_types HO_249002.out BK248.out (by decide)) (fun _ hk => hk.2) (.slice Ao64 y258.length co64)) (fun _ hk => ⟨hk.1.1, hk.1.2⟩)⟩, ⟨by refine bC (a := ?_); refine blk_far ?_ NB239_248.out _; refine bC (a := ?_); exact BK239.out⟩, ⟨by refine bC (a := ?_); refine blk_far ?_ NB240_248.out _; refine bC (a := ?_); exact BK240.out⟩, ⟨by refine bC (a := ?_); refine blk_put (cs := #[.slice Ao59 x249000_1.length co59, .slice Ao19 t242.length co19, .slice Ao18 t245.length co18]) ?_ 0 _ rfl; refine bC (a := ?_); exact BK248.out⟩, ⟨hA HB.out⟩⟩
         ·rw [if_neg c50] at H
          exact absurd H (by simp)
      ·rw [if_neg c27] at H
       exact absurd H (by simp)
     ·rw [if_neg c26] at H
      exact absurd H (by simp)
    ·rw [if_neg c25] at H
     have c25b0 : decide (x22_1 < (lp.length : Int)) = false := decide_eq_false c25
     clear c25
     replace H := Option.bind_eq_some_iff.mp H
     obtain ⟨⟨t261, t264⟩, A660, H⟩ := H
     replace H : (some (x249000_1, t261, t264, x5_1)) = some (r1, r2, r3, r4) := H
     have A66 := mk0 A660
     clear A660
     simp only [Option.some.injEq, Prod.mk.injEq] at H
     obtain ⟨rfl, rfl, rfl, rfl⟩ := H
     have hnb67 := NB248_239.out
     have hnc67 := NB239_248.out
     have hnb68 := NB248_240.out
     have hnc68 := NB240_248.out
     have hcz69_0 : wr.cell? ⟨gb248, 0, none⟩ = some (u249000) := (blk_cell BK248.out 0).trans rfl
     have hcz69_1 : wr.cell? ⟨gb248, 1, none⟩ = some (.slice Ao19 t242.length co19) := (blk_cell BK248.out 1).trans rfl
     have hcz69_2 : wr.cell? ⟨gb248, 2, none⟩ = some (.slice Ao18 t245.length co18) := (blk_cell BK248.out 2).trans rfl
     have hfz69_0 := blk_frozen BK248.out 0
     have hfz69_1 := blk_frozen BK248.out 1
     have hfz69_2 := blk_frozen BK248.out 2
     obtain ⟨Ao70, co70, eo70⟩ := Kd.R_slice HO_249000.out
     subst eo70
     go_wp2_with (first | ((with_reducible refine gate_callee (f := 44) rfl ?_); refine goesL_ (some 52) rfl rfl Try.func44 (by kernel_rfl) rfl #[.agg #[.slice Ao70 x249000_1.length co70, .slice Ao19 t242.length co19, .slice Ao18 t245.length co18]] rfl ar ?_; (with_reducible refine (impl_said.calls k1 _ _ x249000_1 _ _ t242 _ _ t245 t261 t264 _ ?side1 ?side2 ?side3 ?side4 ?side5 ?side6 A66.out).mono ?_); (case side1 => exact cA (Kd.R_reads' HO_249000.out).2.2); (case side2 => exact (Kd.R_reads' HO_249000.out).2.1); (case side3 => exact cA (Kd.R_reads' HO_249001.out).2.2); (case side4 => exact (Kd.R_reads' HO_249001.out).2.1); (case side5 => exact cA (Kd.R_reads' HO_249002.out).2.2); (case side6 => exact (Kd.R_reads' HO_249002.out).2.1); rintro e w71 ⟨v262, v265, rfl, ho0, ho1, hb⟩; refine ⟨_, rfl, ?_⟩; have n0_ := mk0 (Kd.R_mono (Kd.R_told (Kd.R_told (Kd.R_old (rA HO_5.out) hb) (Kd.R_base ho0)) (Kd.R_base ho1)) (fun _ h_ => h_.1)); have n1_ := mk0 (Kd.R_below (rA HO_249000.out) hb); have n2_ := mk0 (Kd.R_mono (Kd.R_told (Kd.R_told (Kd.R_old (rA HO_249001.out) hb) (Kd.R_base ho0)) (Kd.R_base ho1)) (fun _ h_ => h_.1)); have n3_ := mk0 (Kd.R_mono (Kd.R_told (Kd.R_told (Kd.R_old (rA HO_249002.out) hb) (Kd.R_base ho0)) (Kd.R_base ho1)) (fun _ h_ => h_.1)); have n4_ := mk0 (Kd.R_lower (Kd.R_new' (Kd.R_new' (Kd.R_new' ho0 (Kd.R_lt (rA HO_5.out))) (Kd.R_lt (rA HO_249001.out))) (Kd.R_lt (rA HO_249002.out))) (below_size (hA HB.out))); have n5_ := mk0 (Kd.R_lower (Kd.R_new' (Kd.R_new' (Kd.R_new' ho1 (Kd.R_lt (rA HO_5.out))) (Kd.R_lt (rA HO_249001.out))) (Kd.R_lt (rA HO_249002.out))) (below_size (hA HB.out))); have n6_ := mk0 (bB BK239.out hb); have n7_ := mk0 (bB BK240.out hb); have n8_ := mk0 (bB BK248.out hb); have n9_ := mk0 (below_step (hA HB.out) hb); clear HO_5; clear HO_249000; clear HO_249001; clear HO_249002; clear BK239; clear BK240; clear BK248; clear HB; have HO_5 := n0_; have HO_249000 := n1_; have HO_249001 := n2_; have HO_249002 := n3_; have HO263 := n4_; have HO266 := n5_; have BK239 := n6_; have BK240 := n7_; have BK248 := n8_; have HB := n9_; clear n0_ n1_ n2_ n3_ n4_ n5_ n6_ n7_ n8_ n9_; (try clear hb); (try clear hb2); (try clear hk); (try clear hi); (try clear ho0); (try clear ho1); obtain ⟨Ao72, co72, eo72⟩ := Kd.R_slice HO263.out; subst eo72; have hcz73_0 : w71.cell? ⟨gb248, 0, none⟩ = some (.slice Ao70 x249000_1.length co70) := (blk_cell BK248.out 0).trans rfl; have hcz73_1 : w71.cell? ⟨gb248, 1, none⟩ = some (.slice Ao19 t242.length co19) := (blk_cell BK248.out 1).trans rfl; have hcz73_2 : w71.cell? ⟨gb248, 2, none⟩ = some (.slice Ao18 t245.length co18) := (blk_cell BK248.out 2).trans rfl; have hfz73_0 := blk_frozen BK248.out 0; have hfz73_1 := blk_frozen BK248.out 1; have hfz73_2 := blk_frozen BK248.out 2; obtain ⟨Ao74, co74, eo74⟩ := Kd.R_slice HO266.out; subst eo74; have hnb75 := NB240_239.out; have hnc75 := NB239_240.out; have hcz76_0 : w71.cell? ⟨gb240, 0, none⟩ = some (.slice none 0 0) := (blk_cell BK240.out 0).trans rfl; have hcz76_1 : w71.cell? ⟨gb240, 1, none⟩ = some (.slice none 0 0) := (blk_cell BK240.out 1).trans rfl; have hcz76_2 : w71.cell? ⟨gb240, 2, none⟩ = some (.slice none 0 0) := (blk_cell BK240.out 2).trans rfl; have hfz76_0 := blk_frozen BK240.out 0; have hfz76_1 := blk_frozen BK240.out 1; have hfz76_2 := blk_frozen BK240.out 2))
     refine bodyPost_ret (results_ct rfl _ _ gb240 29 #[.slice Ao70 x249000_1.length co70, .slice Ao72 t261.length co72, .slice Ao74 t264.length co74] (0, 0) _ rfl (by refine bC (a := ?_); refine blk_put (cs := #[.slice Ao70 x249000_1.length co70, .slice Ao72 t261.length co72, .slice none 0 0]) ?_ 2 _ rfl; refine bC (a := ?_); refine blk_put (cs := #[.slice Ao70 x249000_1.length co70, .slice none 0 0, .slice none 0 0]) ?_ 1 _ rfl; refine bC (a := ?_); refine blk_put (cs := #[.slice none 0 0, .slice none 0 0, .slice none 0 0]) ?_ 0 _ rfl; refine bC (a := ?_); refine blk_far ?_ NB240_248.out _; refine bC (a := ?_); refine blk_far ?_ NB240_248.out _; refine bC (a := ?_); exact BK240.out) Try.underlying29 rfl (by kernel_rfl)) rfl ?_
     exact ⟨_, _, _, _, er, by refine rC (a := ?_); exact Kd.R_mono (Kd.R_far (p := ⟨gb240, 2, none⟩) (Kd.R_far (p := ⟨gb240, 1, none⟩) (Kd.R_far (p := ⟨gb240, 0, none⟩) (Kd.R_far (p := ⟨gb248, 2, none⟩) (Kd.R_far (p := ⟨gb248, 1, none⟩) (Kd.R_types (Kd.R_types HO_249000.out BK248.out (by decide)) BK240.out (by decide)) (fun _ hk => hk.1.2) (.slice Ao72 t261.length co72)) (fun _ hk => hk.1.2) (.slice Ao74 t264.length co74)) (fun _ hk => hk.2) (.slice Ao70 x249000_1.length co70)) (fun _ hk => hk.2) (.slice Ao72 t261.length co72)) (fun _ hk => hk.2) (.slice Ao74 t264.length co74)) (fun _ hk => trivial), by refine rC (a := ?_); exact Kd.R_mono (Kd.R_far (p := ⟨gb240, 2, none⟩) (Kd.R_far (p := ⟨gb240, 1, none⟩) (Kd.R_far (p := ⟨gb240, 0, none⟩) (Kd.R_far (p := ⟨gb248, 2, none⟩) (Kd.R_far (p := ⟨gb248, 1, none⟩) (Kd.R_types (Kd.R_types HO263.out BK248.out (by decide)) BK240.out (by decide)) (fun _ hk => hk.1.2) (.slice Ao72 t261.length co72)) (fun _ hk => hk.1.2) (.slice Ao74 t264.length co74)) (fun _ hk => hk.2) (.slice Ao70 x249000_1.length co70)) (fun _ hk => hk.2) (.slice Ao72 t261.length co72)) (fun _ hk => hk.2) (.slice Ao74 t264.length co74)) (fun _ hk => ⟨hk.1.1.1.1.1, hk.1.1.1.1.2⟩), by refine rC (a := ?_); exact Kd.R_mono (Kd.R_far (p := ⟨gb240, 2, none⟩) (Kd.R_far (p := ⟨gb240, 1, none⟩) (Kd.R_far (p := ⟨gb240, 0, none⟩) (Kd.R_far (p := ⟨gb248, 2, none⟩) (Kd.R_far (p := ⟨gb248, 1, none⟩) (Kd.R_types (Kd.R_types HO266.out BK248.out (by decide)) BK240.out (by decide)) (fun _ hk => hk.1.2) (.slice Ao72 t261.length co72)) (fun _ hk => hk.1.2) (.slice Ao74 t264.length co74)) (fun _ hk => hk.2) (.slice Ao70 x249000_1.length co70)) (fun _ hk => hk.2) (.slice Ao72 t261.length co72)) (fun _ hk => hk.2) (.slice Ao74 t264.length co74)) (fun _ hk => ⟨hk.1.1.1.1.1, hk.1.1.1.1.2⟩), by refine rC (a := ?_); exact Kd.R_mono (Kd.R_far (p := ⟨gb240, 2, none⟩) (Kd.R_far (p := ⟨gb240, 1, none⟩) (Kd.R_far (p := ⟨gb240, 0, none⟩) (Kd.R_far (p := ⟨gb248, 2, none⟩) (Kd.R_far (p := ⟨gb248, 1, none⟩) (Kd.R_types (Kd.R_types HO_5.out BK248.out (by decide)) BK240.out (by decide)) (fun _ hk => hk.1.2) (.slice Ao72 t261.length co72)) (fun _ hk => hk.1.2) (.slice Ao74 t264.length co74)) (fun _ hk => hk.2) (.slice Ao70 x249000_1.length co70)) (fun _ hk => hk.2) (.slice Ao72 t261.length co72)) (fun _ hk => hk.2) (.slice Ao74 t264.length co74)) (fun _ hk => ⟨hk.1.1.1.2, hk.1.1.2⟩), hA HB.out⟩
 ·replace c3 := Bool.eq_false_iff.mpr c3
  subst c3
  have H1 : (some (([] : List (S50)), ([] : List Int), ([] : List Int), ([] : List Int))) = some (r1, r2, r3, r4) := by rw [if_neg (show ¬ (false = true) by decide)] at H; exact H
  clear H
  have H := H1
  clear H1
  simp only [Option.some.injEq, Prod.mk.injEq] at H
  obtain ⟨rfl, rfl, rfl, rfl⟩ := H
  go_enter Try.func12, Try.ntmps12
  go_wp2_with (first | ((with_reducible refine gate_dst (N := 1) rfl ?_); refine box_event ?hg (N := 1) ?hd (cs := #[.slice Ap lp.length cp, .slice Aq lq.length cq, .slice Ar lr.length cr]) (t := 29) ?hr ?_; (case hd | hg => rfl); (case hr => first | (go_simp; done) | (go_simp; rfl)); intro gb239 hg w77 hbox hb; have n0_ := mk0 (below_step (hA HB.out) hb); have n1_ := mk0 (hbox); have n2_ := mk0 ((by rw [hg]; exact (below_size (hA HB.out)) : w.heap.size ≤ gb239)); have n3_ := mk0 ((by rw [hg]; exact (below_size (hA HB.out)) : w.heap.size ≤ gb239)); clear HB; have HB := n0_; have BK239 := n1_; have GW239 := n2_; have GE239 := n3_; clear n0_ n1_ n2_ n3_; clear hb hbox hg) | ((with_reducible refine gate_dst (N := 2) rfl ?_); refine box_event ?hg (N := 2) ?hd (cs := #[.slice none 0 0, .slice none 0 0, .slice none 0 0]) (t := 29) ?hr ?_; (case hd | hg => rfl); (case hr => first | (go_simp; done) | (go_simp; rfl)); intro gb240 hg w78 hbox hb; have n0_ := mk0 (bB BK239.out hb); have n1_ := mk0 (below_step (hA HB.out) hb); have n2_ := mk0 (hbox); have n3_ := mk0 ((by rw [hg]; exact (below_size (hA HB.out)) : w.heap.size ≤ gb240)); have n4_ := mk0 ((by rw [hg]; exact (below_size (hA HB.out)) : w.heap.size ≤ gb240)); have n5_ := mk0 ((by rw [hg]; exact Nat.ne_of_lt (blk_lt (g := gb239) (o := .cells #[.slice Ap lp.length cp, .slice Aq lq.length cq, .slice Ar lr.length cr] 29 (0, 0)) (bA BK239.out)) : gb239 ≠ gb240)); have n6_ := mk0 ((by rw [hg]; exact Nat.ne_of_gt (blk_lt (g := gb239) (o := .cells #[.slice Ap lp.length cp, .slice Aq lq.length cq, .slice Ar lr.length cr] 29 (0, 0)) (bA BK239.out)) : gb240 ≠ gb239)); clear BK239; clear HB; have BK239 := n0_; have HB := n1_; have BK240 := n2_; have GW240 := n3_; have GE240 := n4_; have NB239_240 := n5_; have NB240_239 := n6_; clear n0_ n1_ n2_ n3_ n4_ n5_ n6_; clear hb hbox hg; have hnb79 := NB239_240.out; have hnc79 := NB240_239.out; have hcz80_0 : w78.cell? ⟨gb239, 0, none⟩ = some (.slice Ap lp.length cp) := (blk_cell BK239.out 0).trans rfl; have hcz80_1 : w78.cell? ⟨gb239, 1, none⟩ = some (.slice Aq lq.length cq) := (blk_cell BK239.out 1).trans rfl; have hcz80_2 : w78.cell? ⟨gb239, 2, none⟩ = some (.slice Ar lr.length cr) := (blk_cell BK239.out 2).trans rfl; have hfz80_0 := blk_frozen BK239.out 0; have hfz80_1 := blk_frozen BK239.out 1; have hfz80_2 := blk_frozen BK239.out 2) | ((with_reducible refine gate_callee (f := 40) rfl ?_); refine goesL_ (some 9) rfl rfl Try.func40 (by kernel_rfl) rfl #[.agg #[.slice Ap lp.length cp, .slice Aq lq.length cq, .slice Ar lr.length cr]] rfl ar ?_; (with_reducible refine (impl_BookOk.calls k _ _ lp (fun k_ => k_ < w.heap.size) _ _ lq (fun k_ => k_ < w.heap.size) _ _ lr false _ ?side1 ?side2 ?side3 ?side4 A2.out).mono ?_); (case side1 => exact cA (Kd.C_below HR0_0.out HB.out)); (case side2 => exact HC0_0.out); (case side3 => exact Kd.V_mk HC0_1.out (Kd.F_below (Kd.C_F (Kd.heap_int .i64) HR0_1.out) (hA HB.out))); (case side4 => exact Kd.V_mk HC0_2.out (Kd.F_below (Kd.C_F (Kd.heap_int .i64) HR0_2.out) (hA HB.out))); rintro e w81 ⟨rfl, hb⟩; refine ⟨_, rfl, ?_⟩; have n0_ := mk0 (bB BK239.out hb); have n1_ := mk0 (bB BK240.out hb); have n2_ := mk0 (below_step (hA HB.out) hb); clear BK239; clear BK240; clear HB; have BK239 := n0_; have BK240 := n1_; have HB := n2_; clear n0_ n1_ n2_; (try clear hb); (try clear hb2); (try clear hk); (try clear hi); have hcz82_0 : w81.cell? ⟨gb240, 0, none⟩ = some (.slice none 0 0) := (blk_cell BK240.out 0).trans rfl; have hcz82_1 : w81.cell? ⟨gb240, 1, none⟩ = some (.slice none 0 0) := (blk_cell BK240.out 1).trans rfl; have hcz82_2 : w81.cell? ⟨gb240, 2, none⟩ = some (.slice none 0 0) := (blk_cell BK240.out 2).trans rfl; have hfz82_0 := blk_frozen BK240.out 0; have hfz82_1 := blk_frozen BK240.out 1; have hfz82_2 := blk_frozen BK240.out 2))
  refine bodyPost_ret (results_ct rfl _ _ gb240 29 #[.slice none 0 0, .slice none 0 0, .slice none 0 0] (0, 0) _ rfl (by refine bC (a := ?_); refine blk_put (cs := #[.slice none 0 0, .slice none 0 0, .slice none 0 0]) ?_ 2 _ rfl; refine bC (a := ?_); refine blk_put (cs := #[.slice none 0 0, .slice none 0 0, .slice none 0 0]) ?_ 1 _ rfl; refine bC (a := ?_); refine blk_put (cs := #[.slice none 0 0, .slice none 0 0, .slice none 0 0]) ?_ 0 _ rfl; refine bC (a := ?_); exact BK240.out) Try.underlying29 rfl (by kernel_rfl)) rfl ?_
  exact ⟨_, _, _, _, er, by first | exact Kd.R_nil _ _ _ _ _ | exact Kd.N_nil _ _ _ _ _ | exact Kd.V_nil _ _ _ _ _ | exact Kd.Q_nil _ _ _ _ _ | exact Kd.S_nil _ _ _ _ _, by first | exact Kd.R_nil _ _ _ _ _ | exact Kd.N_nil _ _ _ _ _ | exact Kd.V_nil _ _ _ _ _ | exact Kd.Q_nil _ _ _ _ _ | exact Kd.S_nil _ _ _ _ _, by first | exact Kd.R_nil _ _ _ _ _ | exact Kd.N_nil _ _ _ _ _ | exact Kd.V_nil _ _ _ _ _ | exact Kd.Q_nil _ _ _ _ _ | exact Kd.S_nil _ _ _ _ _, by first | exact Kd.R_nil _ _ _ _ _ | exact Kd.N_nil _ _ _ _ _ | exact Kd.V_nil _ _ _ _ _ | exact Kd.Q_nil _ _ _ _ _ | exact Kd.S_nil _ _ _ _ _, hA HB.out⟩
def impl_Talk_66.f (l0 : List (S50)) : Option (List (S50)) := if l0.length ≤ 1048576 then some l0 else none
theorem impl_Talk_66.calls (A0 : Option Addr) (c0 : Nat) (l0 : List (S50)) (r : List (S50)) (w : World) (hr0 : Kd.C k50 w A0 l0.length l0) (hc0 : l0.length ≤ c0) (h : impl_Talk_66.f l0 = some r) :
  Calls Try.prog 66 #[.slice A0 l0.length c0] w fun e w' => ∃ v0_ : Value, e = .returned (v0_) ∧ Kd.R k50 50 w' w.heap.size (fun _ => True) v0_ r ∧ Below w.heap.size w w' := by
 unfold impl_Talk_66.f at h
 split at h
 ·obtain rfl := Option.some.inj h
  exact cloneT_calls A0 c0 _ w hr0 hc0 (by assumption)
 ·cases h
end Go.Proofs.Ytngnkfpciloamaa.MFnBooked
