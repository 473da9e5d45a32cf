/- What the code of the law FnBooked answers. -/
import Derived.Test.YtngnkfpciloamaaShortFnBooked
import Derived.Test.YtngnkfpciloamaaHandBookFnBooked
import Derived.Test.YtngnkfpciloamaaMFnBookedx0
import Derived.Test.YtngnkfpciloamaaMFnBookedx6
namespace Go.Proofs.Ytngnkfpciloamaa.MFnBooked
open Go.RowKit Go.Proofs.YtngnkfpciloamaaW.PrintWords Go.Proofs.YtngnkfpciloamaaW.PrintLast Go.Proofs.YtngnkfpciloamaaW.PrintMore
attribute [local go_sem] max2_int min2_int max_two min_two max_three min_three max_four min_four
set_option linter.unusedVariables false
set_option linter.unusedSimpArgs false
def impl_said.l0 : Nat → List Int → List Int → Int → List (S50) → List Int → List Int → Option (List Int × List Int)
 | 0, _, _, _, _, _, _ => none
 | k + 1, x4, x5, x6, x220000, x220001, x220002 => if x6 ≥ 0 then (if 0 ≤ x6 then (if x6 < (x220000.length : Int) then (if 0 ≤ ((rd_T50 x220000 x6).f0) then (if ((rd_T50 x220000 x6).f0) < (x4.length : Int) then (if 0 ≤ ((rd_T50 x220000 x6).f1) then (if ((rd_T50 x220000 x6).f1) < (x4.length : Int) then ((some ((x4.set (((rd_T50 x220000 x6).f0) : Int).toNat x6).set (((rd_T50 x220000 x6).f1) : Int).toNat x6 : List Int)).bind fun y235 => (if ((rd_T50 x220000 x6).f2) ≥ 0 then (if 0 ≤ ((rd_T50 x220000 x6).f2) then (if ((rd_T50 x220000 x6).f2) < (x5.length : Int) then (impl_said.l0 k y235 (x5.set (((rd_T50 x220000 x6).f2) : Int).toNat x6) (wrap64 (x6 - 1)) x220000 x220001 x220002) else (none)) else (none)) else (impl_said.l0 k y235 x5 (wrap64 (x6 - 1)) x220000 x220001 x220002))) else (none)) else (none)) else (none)) else (none)) else (none)) else (none)) else (some (x4, x5))
def impl_said.f (k : Nat) (lp : List (S50)) (lq : List Int) (lr : List Int) : Option (List Int × List Int) := (slices_Repeat_int_int.f k (([(-1)] : List Int)) (lq.length : Int)).bind fun t223 => ((slices_Repeat_int_int.f k (([(-1)] : List Int)) (lr.length : Int)).bind fun t229 => (impl_said.l0 k t223 t229 (wrap64 ((lp.length : Int) - 1)) lp lq lr))
theorem impl_said.mono_l : ∀ k, (∀ y0 y1 y2 y3 y4 y5, LeO (impl_said.l0 k y0 y1 y2 y3 y4 y5) (impl_said.l0 (k + 1) y0 y1 y2 y3 y4 y5))
 | 0 => fun _ _ _ _ _ _ r h => by simp [impl_said.l0] at h
 | k + 1 => by
  have ih0 := impl_said.mono_l k
  ·intro y0 y1 y2 y3 y4 y5
   unfold impl_said.l0
   repeat' first
   | (with_reducible exact ih0 _ _ _ _ _ _)
   | (with_reducible exact slices_Repeat_int_int.mono _ _ _)
   | (with_reducible exact LeO.refl _)
   | (with_reducible exact LeO.none _)
   | (with_reducible refine LeO.ite ?_ ?_)
   | (with_reducible refine LeO.bind ?_ (fun _ => ?_))
   | exact ih0 _ _ _ _ _ _
   | exact slices_Repeat_int_int.mono _ _ _
   | exact LeO.none _
   | refine LeO.ite ?_ ?_
   | refine LeO.bind ?_ (fun _ => ?_)
theorem impl_said.mono : ∀ a0 a1 a2 k, LeO (impl_said.f k a0 a1 a2) (impl_said.f (k + 1) a0 a1 a2) := by
 intro a0 a1 a2 k
 have ih0 := impl_said.mono_l k
 unfold impl_said.f
 repeat' first
   | (with_reducible exact ih0 _ _ _ _ _ _)
   | (with_reducible exact slices_Repeat_int_int.mono _ _ _)
   | (with_reducible exact LeO.refl _)
   | (with_reducible exact LeO.none _)
   | (with_reducible refine LeO.ite ?_ ?_)
   | (with_reducible refine LeO.bind ?_ (fun _ => ?_))
   | exact ih0 _ _ _ _ _ _
   | exact slices_Repeat_int_int.mono _ _ _
   | exact LeO.none _
   | refine LeO.ite ?_ ?_
   | refine LeO.bind ?_ (fun _ => ?_)
def impl_said.T1 : Bool × List (List Nat × List Nat) := (true, [([], []), ([], []), ([1], [1]), ([2], [2]), ([0, 3], [0, 3]), ([], []), ([], []), ([6], [6]), ([7], [7]), ([5, 8, 4], [5, 8]), ([4, 9, 0, 1, 2, 3, 4], [4]), ([9, 10, 0, 1, 2, 3, 4, 5, 6, 7, 8, 9, 10], [9])])
def impl_said.B1 : List Nat := [0, 0, 2, 6, 15, 0, 0, 64, 192, 511, 1023, 2047]
theorem impl_said.tab1 : rtab .any (opsOf Try.f44 1) = impl_said.T1 := by kernel_rfl
theorem impl_said.bits1 : waitsOk impl_said.T1.2 impl_said.B1 = true := by kernel_rfl
set_option maxHeartbeats 8000000 in
set_option maxRecDepth 100000 in
theorem impl_said.calls (k : Nat) (Ap : Option Addr) (cp : Nat) (lp : List (S50)) (Aq : Option Addr) (cq : Nat) (lq : List Int) (Ar : Option Addr) (cr : Nat) (lr : List Int) (r1 : List Int) (r2 : List Int) (w : World) (hr0_0 : Kd.C k50 w Ap lp.length lp) (hc0_0 : lp.length ≤ cp) (hr0_1 : Kd.C (Kd.int .i64) w Aq lq.length lq) (hc0_1 : lq.length ≤ cq) (hr0_2 : Kd.C (Kd.int .i64) w Ar lr.length lr) (hc0_2 : lr.length ≤ cr) (h : impl_said.f k lp lq lr = some (r1, r2)) :
  Calls Try.prog 44 #[.agg #[.slice Ap lp.length cp, .slice Aq lq.length cq, .slice Ar lr.length cr]] w fun e w' => ∃ v0_ v1_ : Value, e = .returned (.tuple #[v0_, v1_]) ∧ Kd.R (Kd.int .i64) 3 w' w.heap.size (fun k_ => some k_ ≠ (v1_ : Value).ownBlock) v0_ r1 ∧ Kd.R (Kd.int .i64) 3 w' w.heap.size (fun k_ => some k_ ≠ (v0_ : Value).ownBlock) v1_ r2 ∧ Below w.heap.size w w' := by
 have hu29 := Try.underlying29
 have hu50 := Try.underlying50
 have HR0_0 := mk0 hr0_0
 have HC0_0 := mk0 hc0_0
 clear hr0_0 hc0_0
 have HR0_1 := mk0 hr0_1
 have HC0_1 := mk0 hc0_1
 clear hr0_1 hc0_1
 have HR0_2 := mk0 hr0_2
 have HC0_2 := mk0 hc0_2
 clear hr0_2 hc0_2
 have HB := mk0 (Below.refl w.heap.size w)
 have H : ((slices_Repeat_int_int.f k (([(-1)] : List Int)) (lq.length : Int)).bind fun t223 => ((slices_Repeat_int_int.f k (([(-1)] : List Int)) (lr.length : Int)).bind fun t229 => (impl_said.l0 k t223 t229 (wrap64 ((lp.length : Int) - 1)) lp lq lr))) = some (r1, r2) := h
 clear h
 obtain ⟨y220, hy220⟩ : ∃ y_ : List Int, y_ = (([(-1)] : List Int)) := ⟨_, rfl⟩
 replace H : ((slices_Repeat_int_int.f k y220 (lq.length : Int)).bind fun t223 => ((slices_Repeat_int_int.f k (([(-1)] : List Int)) (lr.length : Int)).bind fun t229 => (impl_said.l0 k t223 t229 (wrap64 ((lp.length : Int) - 1)) lp lq lr))) = some (r1, r2) := by first | (rw [hy220]; with_reducible exact H) | (have H2_ := (Option.bind_some _ _).symm.trans H; rw [hy220]; with_reducible exact H2_) | (have H2_ := (Option.bind_some _ _).symm.trans H; with_reducible exact H2_) | with_reducible exact H | (rw [hy220]; exact H) | exact H
 have Ny220 := mk0 hy220
 clear hy220
 replace H := Option.bind_eq_some_iff.mp H
 obtain ⟨t223, A20, H⟩ := H
 replace H : ((slices_Repeat_int_int.f k (([(-1)] : List Int)) (lr.length : Int)).bind fun t229 => (impl_said.l0 k t223 t229 (wrap64 ((lp.length : Int) - 1)) lp lq lr)) = some (r1, r2) := H
 have A2 := mk0 A20
 clear A20
 obtain ⟨y226, hy226⟩ : ∃ y_ : List Int, y_ = (([(-1)] : List Int)) := ⟨_, rfl⟩
 replace H : ((slices_Repeat_int_int.f k y226 (lr.length : Int)).bind fun t229 => (impl_said.l0 k t223 t229 (wrap64 ((lp.length : Int) - 1)) lp lq lr)) = some (r1, r2) := by first | (rw [hy226]; with_reducible exact H) | (have H2_ := (Option.bind_some _ _).symm.trans H; rw [hy226]; with_reducible exact H2_) | (have H2_ := (Option.bind_some _ _).symm.trans H; with_reducible exact H2_) | with_reducible exact H | (rw [hy226]; exact H) | exact H
 have Ny226 := mk0 hy226
 clear hy226
 replace H := Option.bind_eq_some_iff.mp H
 obtain ⟨t229, A30, H⟩ := H
 replace H : (impl_said.l0 k t223 t229 (wrap64 ((lp.length : Int) - 1)) lp lq lr) = some (r1, r2) := H
 have A3 := mk0 A30
 clear A30
 have H' := mk0 H
 clear H
 go_enter Try.func44, Try.ntmps44
 try go_wp2_with (first | ((with_reducible refine gate_dst (N := 1) rfl ?_); refine box_event ?hg (N := 1) ?hd (cs := #[.slice Ap lp.length cp, .slice Aq lq.length cq, .slice Ar lr.length cr]) (t := 29) ?hr ?_; (case hd | hg => rfl); (case hr => first | (go_simp; done) | (go_simp; rfl)); intro gb219 hg w4 hbox hb; have n0_ := mk0 (below_step (hA HB.out) hb); have n1_ := mk0 (hbox); have n2_ := mk0 ((by rw [hg]; exact (below_size (hA HB.out)) : w.heap.size ≤ gb219)); have n3_ := mk0 ((by rw [hg]; exact (below_size (hA HB.out)) : w.heap.size ≤ gb219)); clear HB; have HB := n0_; have BK219 := n1_; have GW219 := n2_; have GE219 := n3_; clear n0_ n1_ n2_ n3_; clear hb hbox hg))
 have n0_ := mk0 (blk_drew BK219.out)
 have n1_ := mk0 (below_drew1 HB.out)
 clear BK219
 clear HB
 have BK219 := n0_
 have HB := n1_
 clear n0_ n1_
 refine start_ (n := 12) (S := fun w' => True) (ds := []) #[O,O,O,O,O,O,O,O,O,O,O,O] (by kernel_rfl) rfl rfl trivial (fun hHeld => ?_); refine with_tabW impl_said.tab1 impl_said.bits1 (fun HT_ HW_ => ?_)
 generalize w4.drew = w5 at BK219 HB hHeld ⊢
 refine pure_ (i := 1) (N := some 9) (v := ?_) (a' := ?_) #[O,I,O,O,O,O,O,O,O,O,O,O] rfl rfl (any_of HT_.out (by kernel_rfl)) (fun _ _ _ h => h) (Or.inl ⟨by rfl, ?_⟩) ?_ ?_
 rotate_left
 ·intro w'
  go_simp
  with_reducible rfl
 rotate_left
 ·simp only [Act.put, s1, s2, s3, i64_w]
  rfl
 refine pure_ (i := 6) (N := some 14) (v := ?_) (a' := ?_) #[O,I,O,O,O,O,I,O,O,O,O,O] rfl rfl (any_of HT_.out (by kernel_rfl)) (fun _ _ _ h => h) (Or.inl ⟨by rfl, ?_⟩) ?_ ?_
 rotate_left
 ·intro w'
  go_simp
  with_reducible rfl
 rotate_left
 ·simp only [Act.put, s1, s2, s3, i64_w]
  rfl
 refine inv_at [0, 2, 3, 4, 5, 7, 8, 9, 10, 11] (fun a0_ b a w' => ∃ (v221 : Value) (v224 : Value) (v227 : Value) (v230 : Value) (m10_ : Value) (m11_ : Value), a = putSel a0_ b [(0, 8, v221), (2, 10, .slice Aq lq.length cq), (3, 11, .int .i64 (lq.length : Int)), (4, 12, v224), (5, 13, v227), (7, 15, .slice Ar lr.length cr), (8, 16, .int .i64 (lr.length : Int)), (9, 17, v230), (10, 4, m10_), (11, 5, m11_)] ∧ (w'.heap[gb219]? = some (.cells #[.slice Ap lp.length cp, .slice Aq lq.length cq, .slice Ar lr.length cr] 29 (0, 0))) ∧ (Below w.heap.size w w') ∧ (b 0 = true → Kd.R (Kd.int .i64) 3 w' w.heap.size (fun _ => True) v221 y220) ∧ (b 4 = true → Kd.R (Kd.int .i64) 3 w' w.heap.size (fun _ => True) v224 t223) ∧ (b 5 = true → Kd.R (Kd.int .i64) 3 w' w.heap.size (fun _ => True) v227 y226) ∧ (b 9 = true → Kd.R (Kd.int .i64) 3 w' w.heap.size (fun _ => True) v230 t229) ∧ (b 10 = true → (m10_ : Value) = v224) ∧ (b 11 = true → (m11_ : Value) = v230) ∧ (b 4 = true → b 9 = true → ∀ k_, (v224 : Value).ownBlock = some k_ → (v230 : Value).ownBlock ≠ some k_)) HT_.out HW_.out (by kernel_rfl) (by kernel_rfl) ?_ ?_ ?_
 ·exact ⟨.bool false, .bool false, .bool false, .bool false, .bool false, .bool false, by simp only [putSel, Bool.false_eq_true, if_false], BK219.out, HB.out, fun h_ => absurd h_ (by decide), fun h_ => absurd h_ (by decide), fun h_ => absurd h_ (by decide), fun h_ => absurd h_ (by decide), fun h_ => absurd h_ (by decide), fun h_ => absurd h_ (by decide), fun h_ => absurd h_ (by decide)⟩
 ·skip
  clear BK219 HB
  refine steps_cons ?_ ?_
  ·rintro b a w' ⟨v221, v224, v227, v230, m10_, m11_, ha, Q_BK219, Q_HB, Q_HO222, Q_HO225, Q_HO228, Q_HO231, Q_X10_, Q_X11_, Q_AP⟩ hb_ hon hoff
   refine ⟨_, rfl, fun K hK => ?_⟩
   replace ha := mk0 ha
   have BK219 := mk0 Q_BK219
   have HB := mk0 Q_HB
   refine Kd.R_lit_step (Kd.int .i64) _ 3 ?hg (N := 8) ?hd (xs := ([(-1)] : List Int)) (inner := [.int .i64 (-1)]) (ok := fun _ => True) (okp := fun _ => True) ?hr ?hp (fun _ hk => hk) trivial (Below.refl _ _) (Nat.le_refl _) (by simp) ?_; (case hd | hg => rfl); (case hr => first | (go_simp; done) | (go_simp; rfl)); (case hp => exact (Reps.one (show Kd.M (Kd.int .i64) _ _ _ (-1) [.int .i64 (-1)] from rfl) (Reps.none _ _)))
   intro v221 w6 ho7 hb hg_ hnew_
   clear hg_ hnew_
   (first | rw [← Ny220.out] at ho7 | (simp only [Int.reduceToNat] at ho7; rw [← Ny220.out] at ho7))
   have n0_ := mk0 (Kd.R_lower ho7 (below_size (hA HB.out)))
   have n1_ := mk0 (bB BK219.out hb)
   have n2_ := mk0 (below_step (hA HB.out) hb)
   have z_HO228 := fun (h0_ : b 5 = true) => (show Kd.R (Kd.int .i64) 3 w6 w.heap.size (fun _ => True) v227 y226 from by first | exact (Kd.R_elder' (rC (a := by exact (Q_HO228 h0_))) (Kd.R_base ho7) hb) | exact Kd.R_mono (Kd.R_elder' (rC (a := by exact (Q_HO228 h0_))) (Kd.R_base ho7) hb) (fun _ h_ => by first | trivial | exact h_ | exact h_.1))
   clear BK219
   clear HB
   have HO222 := n0_
   have BK219 := n1_
   have HB := n2_
   clear n0_ n1_ n2_
   clear hb ho7
   refine hK.out _ _ ⟨v221, v224, v227, v230, m10_, m11_, (by rw [ha.out]; exact putSel_upk 0 hb_ rfl rfl rfl), (bA BK219.out), (hA HB.out), fun _ => (rA HO222.out), fun h0_ => absurd ((hoff 4 (by kernel_rfl)).symm.trans h0_) (by decide), z_HO228, fun h0_ => absurd ((hoff 9 (by kernel_rfl)).symm.trans h0_) (by decide), fun h0_ => absurd ((hoff 10 (by kernel_rfl)).symm.trans h0_) (by decide), fun h0_ => absurd ((hoff 11 (by kernel_rfl)).symm.trans h0_) (by decide), Q_AP⟩
  refine steps_cons ?_ ?_
  ·rintro b a w' ⟨v221, v224, v227, v230, m10_, m11_, ha, Q_BK219, Q_HB, Q_HO222, Q_HO225, Q_HO228, Q_HO231, Q_X10_, Q_X11_, Q_AP⟩ hb_ hon hoff
   refine ⟨_, rfl, fun K hK => ?_⟩
   have e9 : a.tmps[9]? = some (.pointer (some ⟨gb219, 1, none⟩)) := by rw [ha]; exact (putSel_off rfl).trans rfl
   replace ha := mk0 ha
   have BK219 := mk0 Q_BK219
   have HB := mk0 Q_HB
   have hc0_ : w'.cell? ⟨gb219, 0, none⟩ = some (.slice Ap lp.length cp) := (blk_cell BK219.out 0).trans rfl
   have hc1_ : w'.cell? ⟨gb219, 1, none⟩ = some (.slice Aq lq.length cq) := (blk_cell BK219.out 1).trans rfl
   have hc2_ : w'.cell? ⟨gb219, 2, none⟩ = some (.slice Ar lr.length cr) := (blk_cell BK219.out 2).trans rfl
   refine value_ (w1 := w') (v := .slice Aq lq.length cq) (by rfl) rfl ?_ ?_
   ·go_simp
    (try simp only [i64_w])
    try rfl
   refine hK.out _ _ ⟨v221, v224, v227, v230, m10_, m11_, (by rw [ha.out]; exact putSel_upk 1 hb_ rfl rfl rfl), Q_BK219, Q_HB, Q_HO222, fun h0_ => absurd ((hoff 4 (by kernel_rfl)).symm.trans h0_) (by decide), Q_HO228, fun h0_ => absurd ((hoff 9 (by kernel_rfl)).symm.trans h0_) (by decide), fun h0_ => absurd ((hoff 10 (by kernel_rfl)).symm.trans h0_) (by decide), fun h0_ => absurd ((hoff 11 (by kernel_rfl)).symm.trans h0_) (by decide), Q_AP⟩
  refine steps_cons ?_ ?_
  ·rintro b a w' ⟨v221, v224, v227, v230, m10_, m11_, ha, Q_BK219, Q_HB, Q_HO222, Q_HO225, Q_HO228, Q_HO231, Q_X10_, Q_X11_, Q_AP⟩ hb_ hon hoff
   refine ⟨_, rfl, fun K hK => ?_⟩
   have e10 : a.tmps[10]? = some (.slice Aq lq.length cq) := by rw [ha]; exact putSel_on (e := (2, 10, .slice Aq lq.length cq)) 1 rfl rfl (hon 2 (by kernel_rfl)) rfl
   replace ha := mk0 ha
   have BK219 := mk0 Q_BK219
   have HB := mk0 Q_HB
   refine value_ (w1 := w') (v := .int .i64 (lq.length : Int)) (by rfl) rfl ?_ ?_
   ·go_simp
    (try simp only [i64_w])
    try rfl
   refine hK.out _ _ ⟨v221, v224, v227, v230, m10_, m11_, (by rw [ha.out]; exact putSel_upk 2 hb_ rfl rfl rfl), Q_BK219, Q_HB, Q_HO222, fun h0_ => absurd ((hoff 4 (by kernel_rfl)).symm.trans h0_) (by decide), Q_HO228, fun h0_ => absurd ((hoff 9 (by kernel_rfl)).symm.trans h0_) (by decide), fun h0_ => absurd ((hoff 10 (by kernel_rfl)).symm.trans h0_) (by decide), fun h0_ => absurd ((hoff 11 (by kernel_rfl)).symm.trans h0_) (by decide), Q_AP⟩
  refine steps_cons ?_ ?_
  ·rintro b a w' ⟨v221, v224, v227, v230, m10_, m11_, ha, Q_BK219, Q_HB, Q_HO222, Q_HO225, Q_HO228, Q_HO231, Q_X10_, Q_X11_, Q_AP⟩ hb_ hon hoff
   refine ⟨_, rfl, fun K hK => ?_⟩
   have e8 : a.tmps[8]? = some (v221) := by rw [ha]; exact putSel_on (e := (0, 8, v221)) 0 rfl rfl (hon 0 (by kernel_rfl)) rfl
   have e11 : a.tmps[11]? = some (.int .i64 (lq.length : Int)) := by rw [ha]; exact putSel_on (e := (3, 11, .int .i64 (lq.length : Int))) 2 rfl rfl (hon 3 (by kernel_rfl)) rfl
   replace ha := mk0 ha
   have BK219 := mk0 Q_BK219
   have HB := mk0 Q_HB
   have HO222 := mk0 (Q_HO222 (hon 0 (by kernel_rfl)))
   obtain ⟨Ao9, co9, eo9⟩ := Kd.R_slice HO222.out
   (first | subst eo9 | (injection eo9 with f1_ f2_ f3_; have f4_ := f1_.symm; have f5_ := f3_.symm; clear f1_ f2_ f3_; subst f4_; subst f5_))
   refine goes_ Try.func62 (by kernel_rfl) rfl #[.slice Ao9 y220.length co9, .int .i64 (lq.length : Int)] (by rfl) rfl rfl (by first | (simp only [List.map_toArray, List.map_cons, List.map_nil, Act.eval, Array.getD_eq_getD_getElem?, Option.getD_some, e8, e11]; done) | (simp only [List.map_toArray, List.map_cons, List.map_nil, Act.eval, Array.getD_eq_getD_getElem?, Option.getD_some, e8, e11]; rfl)) ?_
   with_reducible refine (slices_Repeat_int_int.calls k _ _ y220 (lq.length : Int) t223 _ ?side1 ?side2 A2.out).mono ?_
   (case side1 => exact cA (Kd.R_reads' HO222.out).2.2)
   (case side2 => exact (Kd.R_reads' HO222.out).2.1)
   rintro e w10 ⟨v224, rfl, ho0, hb⟩
   refine ⟨_, rfl, ?_⟩
   have n0_ := mk0 (Kd.R_elder' (rA HO222.out) (Kd.R_base ho0) hb)
   have n1_ := mk0 (Kd.R_lower (Kd.R_new' ho0 (Kd.R_lt (rA HO222.out))) (below_size (hA HB.out)))
   have n2_ := mk0 (bB BK219.out hb)
   have n3_ := mk0 (below_step (hA HB.out) hb)
   have z_HO228 := fun (h0_ : b 5 = true) => (show Kd.R (Kd.int .i64) 3 w10 w.heap.size (fun _ => True) v227 y226 from by first | exact (Kd.R_elder' (rC (a := by exact (Q_HO228 h0_))) (Kd.R_base ho0) hb) | exact Kd.R_mono (Kd.R_elder' (rC (a := by exact (Q_HO228 h0_))) (Kd.R_base ho0) hb) (fun _ h_ => by first | trivial | exact h_ | exact h_.1))
   clear HO222
   clear BK219
   clear HB
   have HO222 := n0_
   have HO225 := n1_
   have BK219 := n2_
   have HB := n3_
   clear n0_ n1_ n2_ n3_
   (try clear hb); (try clear hb2); (try clear hk); (try clear hi); (try clear ho0)
   refine hK.out _ _ ⟨.slice Ao9 y220.length co9, v224, v227, v230, m10_, m11_, (by rw [ha.out]; exact putSel_upk 3 hb_ rfl rfl rfl), (bA BK219.out), (hA HB.out), fun _ => (rC (a := by exact Kd.R_mono HO222.out (fun _ _ => trivial))), fun _ => (rC (a := by exact Kd.R_mono HO225.out (fun _ _ => trivial))), z_HO228, fun h0_ => absurd ((hoff 9 (by kernel_rfl)).symm.trans h0_) (by decide), fun h0_ => absurd ((hoff 10 (by kernel_rfl)).symm.trans h0_) (by decide), fun h0_ => absurd ((hoff 11 (by kernel_rfl)).symm.trans h0_) (by decide), fun _ h0_ => absurd ((hoff 9 (by kernel_rfl)).symm.trans h0_) (by decide)⟩
  refine steps_cons ?_ ?_
  ·rintro b a w' ⟨v221, v224, v227, v230, m10_, m11_, ha, Q_BK219, Q_HB, Q_HO222, Q_HO225, Q_HO228, Q_HO231, Q_X10_, Q_X11_, Q_AP⟩ hb_ hon hoff
   refine ⟨_, rfl, fun K hK => ?_⟩
   replace ha := mk0 ha
   have BK219 := mk0 Q_BK219
   have HB := mk0 Q_HB
   refine Kd.R_lit_step (Kd.int .i64) _ 3 ?hg (N := 13) ?hd (xs := ([(-1)] : List Int)) (inner := [.int .i64 (-1)]) (ok := fun _ => True) (okp := fun _ => True) ?hr ?hp (fun _ hk => hk) trivial (Below.refl _ _) (Nat.le_refl _) (by simp) ?_; (case hd | hg => rfl); (case hr => first | (go_simp; done) | (go_simp; rfl)); (case hp => exact (Reps.one (show Kd.M (Kd.int .i64) _ _ _ (-1) [.int .i64 (-1)] from rfl) (Reps.none _ _)))
   intro v227 w6 ho7 hb hg_ hnew_
   clear hg_ hnew_
   (first | rw [← Ny226.out] at ho7 | (simp only [Int.reduceToNat] at ho7; rw [← Ny226.out] at ho7))
   have n0_ := mk0 (Kd.R_lower ho7 (below_size (hA HB.out)))
   have n1_ := mk0 (bB BK219.out hb)
   have n2_ := mk0 (below_step (hA HB.out) hb)
   have z_HO222 := fun (h0_ : b 0 = true) => (show Kd.R (Kd.int .i64) 3 w6 w.heap.size (fun _ => True) v221 y220 from by first | exact (Kd.R_elder' (rC (a := by exact (Q_HO222 h0_))) (Kd.R_base ho7) hb) | exact Kd.R_mono (Kd.R_elder' (rC (a := by exact (Q_HO222 h0_))) (Kd.R_base ho7) hb) (fun _ h_ => by first | trivial | exact h_ | exact h_.1))
   have z_HO225 := fun (h0_ : b 4 = true) => (show Kd.R (Kd.int .i64) 3 w6 w.heap.size (fun _ => True) v224 t223 from by first | exact (Kd.R_elder' (rC (a := by exact (Q_HO225 h0_))) (Kd.R_base ho7) hb) | exact Kd.R_mono (Kd.R_elder' (rC (a := by exact (Q_HO225 h0_))) (Kd.R_base ho7) hb) (fun _ h_ => by first | trivial | exact h_ | exact h_.1))
   clear BK219
   clear HB
   have HO228 := n0_
   have BK219 := n1_
   have HB := n2_
   clear n0_ n1_ n2_
   clear hb ho7
   refine hK.out _ _ ⟨v221, v224, v227, v230, m10_, m11_, (by rw [ha.out]; exact putSel_upk 4 hb_ rfl rfl rfl), (bA BK219.out), (hA HB.out), z_HO222, z_HO225, fun _ => (rA HO228.out), fun h0_ => absurd ((hoff 9 (by kernel_rfl)).symm.trans h0_) (by decide), fun h0_ => absurd ((hoff 10 (by kernel_rfl)).symm.trans h0_) (by decide), fun h0_ => absurd ((hoff 11 (by kernel_rfl)).symm.trans h0_) (by decide), Q_AP⟩
  refine steps_cons ?_ ?_
  ·rintro b a w' ⟨v221, v224, v227, v230, m10_, m11_, ha, Q_BK219, Q_HB, Q_HO222, Q_HO225, Q_HO228, Q_HO231, Q_X10_, Q_X11_, Q_AP⟩ hb_ hon hoff
   refine ⟨_, rfl, fun K hK => ?_⟩
   have e14 : a.tmps[14]? = some (.pointer (some ⟨gb219, 2, none⟩)) := by rw [ha]; exact (putSel_off rfl).trans rfl
   replace ha := mk0 ha
   have BK219 := mk0 Q_BK219
   have HB := mk0 Q_HB
   have hc0_ : w'.cell? ⟨gb219, 0, none⟩ = some (.slice Ap lp.length cp) := (blk_cell BK219.out 0).trans rfl
   have hc1_ : w'.cell? ⟨gb219, 1, none⟩ = some (.slice Aq lq.length cq) := (blk_cell BK219.out 1).trans rfl
   have hc2_ : w'.cell? ⟨gb219, 2, none⟩ = some (.slice Ar lr.length cr) := (blk_cell BK219.out 2).trans rfl
   refine value_ (w1 := w') (v := .slice Ar lr.length cr) (by rfl) rfl ?_ ?_
   ·go_simp
    (try simp only [i64_w])
    try rfl
   refine hK.out _ _ ⟨v221, v224, v227, v230, m10_, m11_, (by rw [ha.out]; exact putSel_upk 5 hb_ rfl rfl rfl), Q_BK219, Q_HB, Q_HO222, Q_HO225, Q_HO228, fun h0_ => absurd ((hoff 9 (by kernel_rfl)).symm.trans h0_) (by decide), fun h0_ => absurd ((hoff 10 (by kernel_rfl)).symm.trans h0_) (by decide), fun h0_ => absurd ((hoff 11 (by kernel_rfl)).symm.trans h0_) (by decide), Q_AP⟩
  refine steps_cons ?_ ?_
  ·rintro b a w' ⟨v221, v224, v227, v230, m10_, m11_, ha, Q_BK219, Q_HB, Q_HO222, Q_HO225, Q_HO228, Q_HO231, Q_X10_, Q_X11_, Q_AP⟩ hb_ hon hoff
   refine ⟨_, rfl, fun K hK => ?_⟩
   have e15 : a.tmps[15]? = some (.slice Ar lr.length cr) := by rw [ha]; exact putSel_on (e := (7, 15, .slice Ar lr.length cr)) 5 rfl rfl (hon 7 (by kernel_rfl)) rfl
   replace ha := mk0 ha
   have BK219 := mk0 Q_BK219
   have HB := mk0 Q_HB
   refine value_ (w1 := w') (v := .int .i64 (lr.length : Int)) (by rfl) rfl ?_ ?_
   ·go_simp
    (try simp only [i64_w])
    try rfl
   refine hK.out _ _ ⟨v221, v224, v227, v230, m10_, m11_, (by rw [ha.out]; exact putSel_upk 6 hb_ rfl rfl rfl), Q_BK219, Q_HB, Q_HO222, Q_HO225, Q_HO228, fun h0_ => absurd ((hoff 9 (by kernel_rfl)).symm.trans h0_) (by decide), fun h0_ => absurd ((hoff 10 (by kernel_rfl)).symm.trans h0_) (by decide), fun h0_ => absurd ((hoff 11 (by kernel_rfl)).symm.trans h0_) (by decide), Q_AP⟩
  refine steps_cons ?_ ?_
  ·rintro b a w' ⟨v221, v224, v227, v230, m10_, m11_, ha, Q_BK219, Q_HB, Q_HO222, Q_HO225, Q_HO228, Q_HO231, Q_X10_, Q_X11_, Q_AP⟩ hb_ hon hoff
   refine ⟨_, rfl, fun K hK => ?_⟩
   have e13 : a.tmps[13]? = some (v227) := by rw [ha]; exact putSel_on (e := (5, 13, v227)) 4 rfl rfl (hon 5 (by kernel_rfl)) rfl
   have e16 : a.tmps[16]? = some (.int .i64 (lr.length : Int)) := by rw [ha]; exact putSel_on (e := (8, 16, .int .i64 (lr.length : Int))) 6 rfl rfl (hon 8 (by kernel_rfl)) rfl
   replace ha := mk0 ha
   have BK219 := mk0 Q_BK219
   have HB := mk0 Q_HB
   have HO222 := mk0 (Q_HO222 (hon 0 (by kernel_rfl)))
   have HO225 := mk0 (Q_HO225 (hon 4 (by kernel_rfl)))
   have HO228 := mk0 (Q_HO228 (hon 5 (by kernel_rfl)))
   obtain ⟨Ao13, co13, eo13⟩ := Kd.R_slice HO228.out
   (first | subst eo13 | (injection eo13 with f1_ f2_ f3_; have f4_ := f1_.symm; have f5_ := f3_.symm; clear f1_ f2_ f3_; subst f4_; subst f5_))
   refine goes_ Try.func62 (by kernel_rfl) rfl #[.slice Ao13 y226.length co13, .int .i64 (lr.length : Int)] (by rfl) rfl rfl (by first | (simp only [List.map_toArray, List.map_cons, List.map_nil, Act.eval, Array.getD_eq_getD_getElem?, Option.getD_some, e13, e16]; done) | (simp only [List.map_toArray, List.map_cons, List.map_nil, Act.eval, Array.getD_eq_getD_getElem?, Option.getD_some, e13, e16]; rfl)) ?_
   with_reducible refine (slices_Repeat_int_int.calls k _ _ y226 (lr.length : Int) t229 _ ?side1 ?side2 A3.out).mono ?_
   (case side1 => exact cA (Kd.R_reads' HO228.out).2.2)
   (case side2 => exact (Kd.R_reads' HO228.out).2.1)
   rintro e w14 ⟨v230, rfl, ho0, hb⟩
   have AP_ : ∀ k_, (v224 : Value).ownBlock = some k_ → (v230 : Value).ownBlock ≠ some k_ := fun k_ h1_ h2_ => by
    have q_ := Kd.R_lt HO225.out k_ h1_
    rcases Kd.R_base2 ho0 with h_ | ⟨z_, h_, hz_⟩
    ·rw [h_] at h2_; cases h2_
    ·rw [h_] at h2_; injection h2_ with h2_; omega
   refine ⟨_, rfl, ?_⟩
   have n0_ := mk0 (Kd.R_elder' (rA HO222.out) (Kd.R_base ho0) hb)
   have n1_ := mk0 (Kd.R_elder' (rA HO225.out) (Kd.R_base ho0) hb)
   have n2_ := mk0 (Kd.R_elder' (rA HO228.out) (Kd.R_base ho0) hb)
   have n3_ := mk0 (Kd.R_lower (Kd.R_new' (Kd.R_new' (Kd.R_new' ho0 (Kd.R_lt (rA HO222.out))) (Kd.R_lt (rA HO225.out))) (Kd.R_lt (rA HO228.out))) (below_size (hA HB.out)))
   have n4_ := mk0 (bB BK219.out hb)
   have n5_ := mk0 (below_step (hA HB.out) hb)
   clear HO222
   clear HO225
   clear HO228
   clear BK219
   clear HB
   have HO222 := n0_
   have HO225 := n1_
   have HO228 := n2_
   have HO231 := n3_
   have BK219 := n4_
   have HB := n5_
   clear n0_ n1_ n2_ n3_ n4_ n5_
   (try clear hb); (try clear hb2); (try clear hk); (try clear hi); (try clear ho0)
   refine hK.out _ _ ⟨v221, v224, .slice Ao13 y226.length co13, v230, m10_, m11_, (by rw [ha.out]; exact putSel_upk 7 hb_ rfl rfl rfl), (bA BK219.out), (hA HB.out), fun _ => (rC (a := by exact Kd.R_mono HO222.out (fun _ _ => trivial))), fun _ => (rC (a := by exact Kd.R_mono HO225.out (fun _ _ => trivial))), fun _ => (rC (a := by exact Kd.R_mono HO228.out (fun _ _ => trivial))), fun _ => (rC (a := by exact Kd.R_mono HO231.out (fun _ _ => trivial))), fun h0_ => absurd ((hoff 10 (by kernel_rfl)).symm.trans h0_) (by decide), fun h0_ => absurd ((hoff 11 (by kernel_rfl)).symm.trans h0_) (by decide), fun _ _ => AP_⟩
  refine steps_cons ?_ ?_
  ·rintro b a w' ⟨v221, v224, v227, v230, m10_, m11_, ha, Q_BK219, Q_HB, Q_HO222, Q_HO225, Q_HO228, Q_HO231, Q_X10_, Q_X11_, Q_AP⟩ hb_ hon hoff
   refine ⟨_, rfl, fun K hK => ?_⟩
   have e12 : a.tmps[12]? = some (v224) := by rw [ha]; exact putSel_on (e := (4, 12, v224)) 3 rfl rfl (hon 4 (by kernel_rfl)) rfl
   replace ha := mk0 ha
   have BK219 := mk0 Q_BK219
   have HB := mk0 Q_HB
   have HO222 := mk0 (Q_HO222 (hon 0 (by kernel_rfl)))
   have HO225 := mk0 (Q_HO225 (hon 4 (by kernel_rfl)))
   have HO228 := mk0 (Q_HO228 (hon 5 (by kernel_rfl)))
   have HO231 := mk0 (Q_HO231 (hon 9 (by kernel_rfl)))
   refine value_ (w1 := w') (v := v224) (by rfl) rfl ?_ ?_
   ·go_simp
    (try simp only [i64_w])
    try rfl
   refine hK.out _ _ ⟨v221, v224, v227, v230, (v224), m11_, (by rw [ha.out]; exact putSel_upk 8 hb_ rfl rfl rfl), Q_BK219, Q_HB, Q_HO222, Q_HO225, Q_HO228, Q_HO231, fun _ => rfl, fun h0_ => absurd ((hoff 11 (by kernel_rfl)).symm.trans h0_) (by decide), Q_AP⟩
  refine steps_cons ?_ ?_
  ·rintro b a w' ⟨v221, v224, v227, v230, m10_, m11_, ha, Q_BK219, Q_HB, Q_HO222, Q_HO225, Q_HO228, Q_HO231, Q_X10_, Q_X11_, Q_AP⟩ hb_ hon hoff
   refine ⟨_, rfl, fun K hK => ?_⟩
   have e17 : a.tmps[17]? = some (v230) := by rw [ha]; exact putSel_on (e := (9, 17, v230)) 7 rfl rfl (hon 9 (by kernel_rfl)) rfl
   replace ha := mk0 ha
   have BK219 := mk0 Q_BK219
   have HB := mk0 Q_HB
   have HO222 := mk0 (Q_HO222 (hon 0 (by kernel_rfl)))
   have HO225 := mk0 (Q_HO225 (hon 4 (by kernel_rfl)))
   have HO228 := mk0 (Q_HO228 (hon 5 (by kernel_rfl)))
   have HO231 := mk0 (Q_HO231 (hon 9 (by kernel_rfl)))
   refine value_ (w1 := w') (v := v230) (by rfl) rfl ?_ ?_
   ·go_simp
    (try simp only [i64_w])
    try rfl
   refine hK.out _ _ ⟨v221, v224, v227, v230, m10_, (v230), (by rw [ha.out]; exact putSel_upk 9 hb_ rfl rfl rfl), Q_BK219, Q_HB, Q_HO222, Q_HO225, Q_HO228, Q_HO231, Q_X10_, fun _ => rfl, Q_AP⟩
  exact steps_nil
 rintro b a w14 hall ⟨v221, v224, v227, v230, m10_, m11_, ha, Q_BK219, Q_HB, Q_HO222, Q_HO225, Q_HO228, Q_HO231, Q_X10_, Q_X11_, Q_AP⟩
 clear BK219 HB
 have hb0_ := hall 0 (by kernel_rfl)
 have hb2_ := hall 2 (by kernel_rfl)
 have hb3_ := hall 3 (by kernel_rfl)
 have hb4_ := hall 4 (by kernel_rfl)
 have hb5_ := hall 5 (by kernel_rfl)
 have hb7_ := hall 7 (by kernel_rfl)
 have hb8_ := hall 8 (by kernel_rfl)
 have hb9_ := hall 9 (by kernel_rfl)
 have hb10_ := hall 10 (by kernel_rfl)
 have hb11_ := hall 11 (by kernel_rfl)
 subst ha
 obtain rfl := (Q_X10_ hb10_).symm
 obtain rfl := (Q_X11_ hb11_).symm
 simp only [putSel, hb0_, hb2_, hb3_, hb4_, hb5_, hb7_, hb8_, hb9_, hb10_, hb11_, if_true, Act.put, s1, s2, s3]
 have BK219 := mk0 Q_BK219
 clear Q_BK219
 have HB := mk0 Q_HB
 clear Q_HB
 have HO222 := mk0 (Q_HO222 hb0_)
 clear Q_HO222
 have HO225 := mk0 (Q_HO225 hb4_)
 clear Q_HO225
 have HO228 := mk0 (Q_HO228 hb5_)
 clear Q_HO228
 have HO231 := mk0 (Q_HO231 hb9_)
 clear Q_HO231
 have AP := mk0 (Q_AP hb4_ hb9_)
 clear Q_AP
 clear hall hb0_ hb2_ hb3_ hb4_ hb5_ hb7_ hb8_ hb9_ hb10_ hb11_
 have hcz15_0 : w14.cell? ⟨gb219, 0, none⟩ = some (.slice Ap lp.length cp) := (blk_cell BK219.out 0).trans rfl
 have hcz15_1 : w14.cell? ⟨gb219, 1, none⟩ = some (.slice Aq lq.length cq) := (blk_cell BK219.out 1).trans rfl
 have hcz15_2 : w14.cell? ⟨gb219, 2, none⟩ = some (.slice Ar lr.length cr) := (blk_cell BK219.out 2).trans rfl
 have hfz15_0 := blk_frozen BK219.out 0
 have hfz15_1 := blk_frozen BK219.out 1
 have hfz15_2 := blk_frozen BK219.out 2
 try go_wp2
 go_loopg [6] k (fun kq v6 w' => ∃ (x4_1 : List Int) (x5_1 : List Int) (x6_1 : Int), v6 = .int .i64 x6_1 ∧ Aside0 (impl_said.l0 kq x4_1 x5_1 x6_1 lp lq lr = some (r1, r2)) ∧ Aside0 (kq ≤ k) ∧ Aside0 (Kd.R (Kd.int .i64) 3 w' w.heap.size (fun k_ => some k_ ≠ (v230 : Value).ownBlock) v224 x4_1) ∧ Aside0 (Kd.R (Kd.int .i64) 3 w' w.heap.size (fun k_ => some k_ ≠ (v224 : Value).ownBlock) v230 x5_1) ∧ Aside0 (w'.heap[gb219]? = some (.cells #[(.slice Ap lp.length cp), (.slice Aq lq.length cq), (.slice Ar lr.length cr)] 29 (0, 0))) ∧ Aside0 (Below w.heap.size w w'))
 case atStart => exact ⟨(t223), (t229), (wrap64 ((lp.length : Int) - 1)), rs, H', ⟨Nat.le_refl _⟩, ⟨by refine rC (a := ?_); exact Kd.R_reok rfl HO225.out (fun k_ h_ e_ => AP.out k_ h_ e_.symm)⟩, ⟨by refine rC (a := ?_); exact Kd.R_reok rfl HO231.out (fun k_ h_ e_ => AP.out k_ e_.symm h_)⟩, ⟨by refine bC (a := ?_); exact BK219.out⟩, ⟨hA HB.out⟩⟩
 case round =>
  clear H'
  (try clear hcz15_0); (try clear hcz15_1); (try clear hcz15_2); (try clear hfz15_0); (try clear hfz15_1); (try clear hfz15_2)
  obtain ⟨x4, x5, x6, rfl, HA, HK1, HO4, HO5, BK, HB⟩ := hrel
  cases gk with
  | zero => exact absurd HA.out (by simp [impl_said.l0])
  | succ k1 =>
   have H := HA.out
   clear HA
   simp only [impl_said.l0] at H
   have hcz_0 : wr.cell? ⟨gb219, 0, none⟩ = some (.slice Ap lp.length cp) := (blk_cell BK.out 0).trans rfl
   have hfz_0 := blk_frozen BK.out 0
   by_cases h6 : x6 ≥ 0
   ·rw [if_pos h6, if_pos (show 0 ≤ x6 from h6)] at H
    by_cases h7 : x6 < (lp.length : Int)
    ·rw [if_pos h7] at H
     obtain ⟨ad, e0, hx0, hx1, hx2⟩ := at_T50 HR0_0.out x6 h6 h7
     obtain ⟨X, hX⟩ : ∃ X, rd_T50 lp x6 = X := ⟨_, rfl⟩
     rw [hX] at hx0 hx1 hx2 H
     clear hX
     subst e0
     try (replace hx0 := (HB.out.cell (World.block_lt_of_cell? w _ hx0)).trans hx0)
     try (replace hx1 := (HB.out.cell (World.block_lt_of_cell? w _ hx1)).trans hx1)
     try (replace hx2 := (HB.out.cell (World.block_lt_of_cell? w _ hx2)).trans hx2)
     by_cases hA0 : 0 ≤ X.f0
     ·rw [if_pos hA0] at H
      by_cases hA1 : X.f0 < (x4.length : Int)
      ·rw [if_pos hA1] at H
       by_cases hB0 : 0 ≤ X.f1
       ·rw [if_pos hB0] at H
        by_cases hB1 : X.f1 < (x4.length : Int)
        ·rw [if_pos hB1, Option.bind_some] at H
         obtain ⟨g4, c4, hv4⟩ := R_there HO4.out (by omega)
         have hb4 := R_blk_lt HO4.out hv4
         subst hv4
         have hneb : g4 ≠ wr.heap.size := by omega
         have fA0 := eq_true hA0
         have fA1 := eq_true hA1
         have fB0 := eq_true hB0
         have fB1 := eq_true hB1
         have f6 := eq_true h6
         have f7 := eq_true h7
         have d6 : decide (0 ≤ x6) = true := decide_eq_true h6
         clear hA0 hA1 hB0 hB1 h6 h7
         go_wp2_with fail
         have q0 := heap_alloc_new wr (.cells #[.int .i64 X.f0, .int .i64 X.f1, .int .i64 X.f2] 50)
         have HO4a := mk0 (Kd.R_alloc HO4.out (.cells #[.int .i64 X.f0, .int .i64 X.f1, .int .i64 X.f2] 50))
         have HO5a := mk0 (Kd.R_alloc HO5.out (.cells #[.int .i64 X.f0, .int .i64 X.f1, .int .i64 X.f2] 50))
         have BKa := mk0 (blk_alloc BK.out (.cells #[.int .i64 X.f0, .int .i64 X.f1, .int .i64 X.f2] 50))
         have HBa := mk0 (below_alloc HB.out (.cells #[.int .i64 X.f0, .int .i64 X.f1, .int .i64 X.f2] 50))
         have nb219 := blk_lt BK.out
         obtain ⟨n, hn⟩ : ∃ n, wr.heap.size = n := ⟨_, rfl⟩
         rw [hn] at q0 hneb hb4 nb219
         simp only [hn]
         generalize wr.alloc (.cells #[.int .i64 X.f0, .int .i64 X.f1, .int .i64 X.f2] 50) = W at q0 HO4a HO5a BKa HBa ⊢
         have q0A := mk0 q0
         clear HO4 HO5 BK HB hx0 hx1 hx2 hcz_0 hfz_0 hn
         have kb0 : W.cell? ⟨n, 0, none⟩ = some (.int .i64 X.f0) := (blk_cell q0 0).trans rfl
         have kb1 : W.cell? ⟨n, 1, none⟩ = some (.int .i64 X.f1) := (blk_cell q0 1).trans rfl
         obtain ⟨k4a, k4f⟩ := Kd.R_celln (0 : Int) HO4a.out X.f0 (of_eq_true fA0) (of_eq_true fA1)
         obtain ⟨k4b, k4g⟩ := Kd.R_celln (0 : Int) HO4a.out X.f1 (of_eq_true fB0) (of_eq_true fB1)
         obtain ⟨k4c, k4h⟩ := Kd.R_celln (0 : Int) (Kd.R_putn HO4a.out X.f0 x6) X.f1 (of_eq_true fB0) (of_eq_true fB1)
         clear q0
         go_region
         have ge4 : w.heap.size ≤ g4 := by
          rcases Kd.R_base2 HO4a.out with h_ | ⟨z_, h_, hz_⟩
          ·simp [Value.ownBlock] at h_
          ·simp only [Value.ownBlock, Option.some.injEq] at h_; omega
         have ne4 : gb219 ≠ g4 := fun e_ => Kd.R_ne HO4a.out BKa.out (by decide) (by rw [e_]; rfl)
         have HO4b := mk0 (Kd.R_drew (Kd.R_putn (Kd.R_putn HO4a.out X.f0 x6) X.f1 x6))
         have HO5b := mk0 (Kd.R_drew (Kd.R_far (p := ⟨g4, X.f1.toNat, none⟩) (Kd.R_far (p := ⟨g4, X.f0.toNat, none⟩) HO5a.out (fun k_ hk e_ => hk (by rw [e_]; rfl)) (.int .i64 x6)) (fun k_ hk e_ => hk (by rw [e_]; rfl)) (.int .i64 x6)))
         have BKb := mk0 (blk_drew (blk_far (p := ⟨g4, X.f1.toNat, none⟩) (blk_far (p := ⟨g4, X.f0.toNat, none⟩) BKa.out ne4 (.int .i64 x6)) ne4 (.int .i64 x6)))
         have q0b := mk0 (blk_drew (blk_far (p := ⟨g4, X.f1.toNat, none⟩) (blk_far (p := ⟨g4, X.f0.toNat, none⟩) q0A.out (Ne.symm hneb) (.int .i64 x6)) (Ne.symm hneb) (.int .i64 x6)))
         have HBb := mk0 (below_drew1 (below_set (j := X.f1.toNat) (v := .int .i64 x6) (below_set (j := X.f0.toNat) (v := .int .i64 x6) HBa.out ge4) ge4))
         clear HO4a HO5a BKa q0A HBa kb0 kb1 k4a k4b k4f k4g k4c k4h
         generalize ((W.setCell ⟨g4, X.f0.toNat, none⟩ (.int .i64 x6)).setCell ⟨g4, X.f1.toNat, none⟩ (.int .i64 x6)).drew = W2 at HO4b HO5b BKb q0b HBb ⊢
         have kb2 : W2.cell? ⟨n, 2, none⟩ = some (.int .i64 X.f2) := (blk_cell q0b.out 2).trans rfl
         by_cases hC : X.f2 ≥ 0
         ·rw [if_pos hC, if_pos (show 0 ≤ X.f2 from hC)] at H
          by_cases hC1 : X.f2 < (x5.length : Int)
          ·rw [if_pos hC1] at H
           obtain ⟨g5, c5, hv5⟩ := R_there HO5b.out (by omega)
           subst hv5
           have ge5 : w.heap.size ≤ g5 := by
            rcases Kd.R_base2 HO5b.out with h_ | ⟨z_, h_, hz_⟩
            ·simp [Value.ownBlock] at h_
            ·simp only [Value.ownBlock, Option.some.injEq] at h_; omega
           have ne5 : gb219 ≠ g5 := fun e_ => Kd.R_ne HO5b.out BKb.out (by decide) (by rw [e_]; rfl)
           obtain ⟨k5a, k5f⟩ := Kd.R_celln (0 : Int) HO5b.out X.f2 hC hC1
           have dC : decide (0 ≤ X.f2) = true := decide_eq_true hC
           have fC := eq_true (show 0 ≤ X.f2 from hC)
           have fC1 := eq_true hC1
           have H' := mk0 H
           clear H hC hC1
           go_wp2
           have HO5c := mk0 (Kd.R_putn HO5b.out X.f2 x6)
           have HO4c := mk0 (Kd.R_far (p := ⟨g5, X.f2.toNat, none⟩) HO4b.out (fun k_ hk e_ => hk (by rw [e_]; rfl)) (.int .i64 x6))
           have BKc := mk0 (blk_far (p := ⟨g5, X.f2.toNat, none⟩) BKb.out ne5 (.int .i64 x6))
           have HBc := mk0 (below_set (j := X.f2.toNat) (v := .int .i64 x6) HBb.out ge5)
           go_roundg k1
           case measure => have := HK1.out; omega
           case rel => exact ⟨_, _, (wrap64 (x6 - 1)), rs, H', ⟨by have := HK1.out; omega⟩, HO4c, HO5c, BKc, HBc⟩
          ·rw [if_neg hC1] at H; cases H
         ·rw [if_neg hC] at H
          have dC : decide (0 ≤ X.f2) = false := decide_eq_false hC
          have H' := mk0 H
          clear H hC
          go_wp2
          go_roundg k1
          case measure => have := HK1.out; omega
          case rel => exact ⟨_, _, (wrap64 (x6 - 1)), rs, H', ⟨by have := HK1.out; omega⟩, HO4b, HO5b, BKb, HBb⟩
        ·rw [if_neg hB1] at H; cases H
       ·rw [if_neg hB0] at H; cases H
      ·rw [if_neg hA1] at H; cases H
     ·rw [if_neg hA0] at H; cases H
    ·rw [if_neg h7] at H; cases H
   ·rw [if_neg h6] at H
    have d6 : decide (0 ≤ x6) = false := decide_eq_false h6
    simp only [Option.some.injEq, Prod.mk.injEq] at H
    obtain ⟨rfl, rfl⟩ := H
    go_wp2
    go_ret2
    exact ⟨_, _, rfl, HO4.out, HO5.out, HB.out⟩
end Go.Proofs.Ytngnkfpciloamaa.MFnBooked
