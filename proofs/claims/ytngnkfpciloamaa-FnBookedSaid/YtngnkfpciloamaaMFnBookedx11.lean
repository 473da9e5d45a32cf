/- What the code of the law FnBooked answers. -/
import Derived.Test.YtngnkfpciloamaaShortFnBooked
import Derived.Test.YtngnkfpciloamaaMFnBookedx0
import Derived.Test.YtngnkfpciloamaaMFnBookedx6
import Derived.Test.YtngnkfpciloamaaMFnBookedx7
import Derived.Test.YtngnkfpciloamaaMFnBookedx9
import Derived.Test.YtngnkfpciloamaaMFnBookedx10
namespace Go.Proofs.Ytngnkfpciloamaa.MFnBooked
open Go.RowKit Go.Proofs.YtngnkfpciloamaaW.PrintWords Go.Proofs.YtngnkfpciloamaaW.PrintLast Go.Proofs.YtngnkfpciloamaaW.PrintMore
attribute [local go_sem] max2_int min2_int max_two min_two max_three min_three max_four min_four
set_option linter.unusedVariables false
set_option linter.unusedSimpArgs false
def impl_ownBook.f (k : Nat) (lp : List (S50)) (lq : List Int) (lr : List Int) : Option ((List (S50)) × List Int × List Int) := (impl_Talk_66.f lp).bind fun t275 => ((slices_Clone_int_int.f k lq).bind fun t278 => ((slices_Clone_int_int.f k lr).bind fun t281 => (some (t275, t278, t281))))
theorem impl_ownBook.mono : ∀ a0 a1 a2 k, LeO (impl_ownBook.f k a0 a1 a2) (impl_ownBook.f (k + 1) a0 a1 a2) := by
 intro a0 a1 a2 k
 unfold impl_ownBook.f
 repeat' first
   | (with_reducible exact slices_Clone_int_int.mono _ _)
   | (with_reducible exact LeO.refl _)
   | (with_reducible exact LeO.none _)
   | (with_reducible refine LeO.ite ?_ ?_)
   | (with_reducible refine LeO.bind ?_ (fun _ => ?_))
   | exact slices_Clone_int_int.mono _ _
   | exact LeO.none _
   | refine LeO.ite ?_ ?_
   | refine LeO.bind ?_ (fun _ => ?_)
def impl_ownBook.T1 : Bool × List (List Nat × List Nat) := (true, [([], []), ([0], [0]), ([1], [1]), ([], []), ([3], [3]), ([4, 2], [4]), ([], []), ([6], [6]), ([7, 5], [7]), ([2, 5, 8], [2, 5, 8]), ([9, 8, 0, 1, 2, 3, 4, 5, 6, 7, 8, 9], [9])])
def impl_ownBook.B1 : List Nat := [0, 1, 3, 0, 8, 31, 0, 64, 255, 511, 1023]
theorem impl_ownBook.tab1 : rtab .any (opsOf Try.f55 1) = impl_ownBook.T1 := by kernel_rfl
theorem impl_ownBook.bits1 : waitsOk impl_ownBook.T1.2 impl_ownBook.B1 = true := by kernel_rfl
set_option maxHeartbeats 8000000 in
set_option maxRecDepth 100000 in
theorem impl_ownBook.calls (k : Nat) (Ap : Option Addr) (cp : Nat) (lp : List (S50)) (Aq : Option Addr) (cq : Nat) (lq : List Int) (Ar : Option Addr) (cr : Nat) (lr : List Int) (r1 : List (S50)) (r2 : List Int) (r3 : List Int) (w : World) (hr0_0 : Kd.C k50 w Ap lp.length lp) (hc0_0 : lp.length ≤ cp) (hr0_1 : Kd.C (Kd.int .i64) w Aq lq.length lq) (hc0_1 : lq.length ≤ cq) (hr0_2 : Kd.C (Kd.int .i64) w Ar lr.length lr) (hc0_2 : lr.length ≤ cr) (h : impl_ownBook.f k lp lq lr = some (r1, r2, r3)) :
  Calls Try.prog 55 #[.agg #[.slice Ap lp.length cp, .slice Aq lq.length cq, .slice Ar lr.length cr]] w fun e w' => ∃ v0_ v1_ v2_ : Value, e = .returned (.agg #[v0_, v1_, v2_]) ∧ Kd.R k50 50 w' w.heap.size (fun _ => True) v0_ r1 ∧ Kd.R (Kd.int .i64) 3 w' w.heap.size (fun k_ => some k_ ≠ (v2_ : Value).ownBlock) v1_ r2 ∧ Kd.R (Kd.int .i64) 3 w' w.heap.size (fun k_ => some k_ ≠ (v1_ : Value).ownBlock) v2_ r3 ∧ Below w.heap.size w w' := by
 have hu29 := Try.underlying29
 have HR0_0 := mk0 hr0_0
 have HC0_0 := mk0 hc0_0
 clear hr0_0 hc0_0
 have HR0_1 := mk0 hr0_1
 have HC0_1 := mk0 hc0_1
 clear hr0_1 hc0_1
 have HR0_2 := mk0 hr0_2
 have HC0_2 := mk0 hc0_2
 clear hr0_2 hc0_2
 have HB := mk0 (Below.refl w.heap.size w)
 have H : ((impl_Talk_66.f lp).bind fun t275 => ((slices_Clone_int_int.f k lq).bind fun t278 => ((slices_Clone_int_int.f k lr).bind fun t281 => (some (t275, t278, t281))))) = some (r1, r2, r3) := h
 clear h
 replace H := Option.bind_eq_some_iff.mp H
 obtain ⟨t275, A20, H⟩ := H
 replace H : ((slices_Clone_int_int.f k lq).bind fun t278 => ((slices_Clone_int_int.f k lr).bind fun t281 => (some (t275, t278, t281)))) = some (r1, r2, r3) := H
 have A2 := mk0 A20
 clear A20
 replace H := Option.bind_eq_some_iff.mp H
 obtain ⟨t278, A30, H⟩ := H
 replace H : ((slices_Clone_int_int.f k lr).bind fun t281 => (some (t275, t278, t281))) = some (r1, r2, r3) := H
 have A3 := mk0 A30
 clear A30
 replace H := Option.bind_eq_some_iff.mp H
 obtain ⟨t281, A40, H⟩ := H
 replace H : (some (t275, t278, t281)) = some (r1, r2, r3) := H
 have A4 := mk0 A40
 clear A40
 simp only [Option.some.injEq, Prod.mk.injEq] at H
 obtain ⟨rfl, rfl, rfl⟩ := H
 go_enter Try.func55, Try.ntmps55
 try go_wp2_with (first | ((with_reducible refine gate_dst (N := 1) rfl ?_); refine box_event ?hg (N := 1) ?hd (cs := #[.slice Ap lp.length cp, .slice Aq lq.length cq, .slice Ar lr.length cr]) (t := 29) ?hr ?_; (case hd | hg => rfl); (case hr => first | (go_simp; done) | (go_simp; rfl)); intro gb273 hg w5 hbox hb; have n0_ := mk0 (below_step (hA HB.out) hb); have n1_ := mk0 (hbox); have n2_ := mk0 ((by rw [hg]; exact (below_size (hA HB.out)) : w.heap.size ≤ gb273)); have n3_ := mk0 ((by rw [hg]; exact (below_size (hA HB.out)) : w.heap.size ≤ gb273)); clear HB; have HB := n0_; have BK273 := n1_; have GW273 := n2_; have GE273 := n3_; clear n0_ n1_ n2_ n3_; clear hb hbox hg) | ((with_reducible refine gate_dst (N := 2) rfl ?_); refine box_event ?hg (N := 2) ?hd (cs := #[.slice none 0 0, .slice none 0 0, .slice none 0 0]) (t := 29) ?hr ?_; (case hd | hg => rfl); (case hr => first | (go_simp; done) | (go_simp; rfl)); intro gb274 hg w6 hbox hb; have n0_ := mk0 (bB BK273.out hb); have n1_ := mk0 (below_step (hA HB.out) hb); have n2_ := mk0 (hbox); have n3_ := mk0 ((by rw [hg]; exact (below_size (hA HB.out)) : w.heap.size ≤ gb274)); have n4_ := mk0 ((by rw [hg]; exact (below_size (hA HB.out)) : w.heap.size ≤ gb274)); have n5_ := mk0 ((by rw [hg]; exact Nat.ne_of_lt (blk_lt (g := gb273) (o := .cells #[.slice Ap lp.length cp, .slice Aq lq.length cq, .slice Ar lr.length cr] 29 (0, 0)) (bA BK273.out)) : gb273 ≠ gb274)); have n6_ := mk0 ((by rw [hg]; exact Nat.ne_of_gt (blk_lt (g := gb273) (o := .cells #[.slice Ap lp.length cp, .slice Aq lq.length cq, .slice Ar lr.length cr] 29 (0, 0)) (bA BK273.out)) : gb274 ≠ gb273)); clear BK273; clear HB; have BK273 := n0_; have HB := n1_; have BK274 := n2_; have GW274 := n3_; have GE274 := n4_; have NB273_274 := n5_; have NB274_273 := n6_; clear n0_ n1_ n2_ n3_ n4_ n5_ n6_; clear hb hbox hg))
 have n0_ := mk0 (blk_drew BK273.out)
 have n1_ := mk0 (blk_drew BK274.out)
 have n2_ := mk0 (below_drew1 HB.out)
 clear BK273
 clear BK274
 clear HB
 have BK273 := n0_
 have BK274 := n1_
 have HB := n2_
 clear n0_ n1_ n2_
 refine start_ (n := 11) (S := fun w' => w'.cell? ⟨gb273, 0, none⟩ = some (.slice Ap lp.length cp) ∧ w'.cell? ⟨gb273, 1, none⟩ = some (.slice Aq lq.length cq) ∧ w'.cell? ⟨gb273, 2, none⟩ = some (.slice Ar lr.length cr)) (ds := []) #[O,O,O,O,O,O,O,O,O,O,O] (by kernel_rfl) rfl rfl ⟨(blk_cell BK273.out 0).trans rfl, (blk_cell BK273.out 1).trans rfl, (blk_cell BK273.out 2).trans rfl⟩ (fun hHeld => ?_); refine with_tabW impl_ownBook.tab1 impl_ownBook.bits1 (fun HT_ HW_ => ?_)
 generalize w6.drew = w7 at BK273 BK274 HB hHeld ⊢
 refine pure_ (i := 0) (N := some 3) (v := ?_) (a' := ?_) #[I,O,O,O,O,O,O,O,O,O,O] rfl rfl (any_of HT_.out (by kernel_rfl)) (fun _ _ _ h => h) (Or.inl ⟨by rfl, ?_⟩) ?_ ?_
 rotate_left
 ·intro w'
  go_simp
  with_reducible rfl
 rotate_left
 ·simp only [Act.put, s1, s2, s3, i64_w]
  rfl
 refine pure_ (i := 3) (N := some 6) (v := ?_) (a' := ?_) #[I,O,O,I,O,O,O,O,O,O,O] rfl rfl (any_of HT_.out (by kernel_rfl)) (fun _ _ _ h => h) (Or.inl ⟨by rfl, ?_⟩) ?_ ?_
 rotate_left
 ·intro w'
  go_simp
  with_reducible rfl
 rotate_left
 ·simp only [Act.put, s1, s2, s3, i64_w]
  rfl
 refine pure_ (i := 6) (N := some 9) (v := ?_) (a' := ?_) #[I,O,O,I,O,O,I,O,O,O,O] rfl rfl (any_of HT_.out (by kernel_rfl)) (fun _ _ _ h => h) (Or.inl ⟨by rfl, ?_⟩) ?_ ?_
 rotate_left
 ·intro w'
  go_simp
  with_reducible rfl
 rotate_left
 ·simp only [Act.put, s1, s2, s3, i64_w]
  rfl
 refine take_ (i := 1) (N := some 4) (v := ?_) (a' := ?_) #[I,I,O,I,O,O,I,O,O,O,O] rfl rfl (take_ofW HT_.out HW_.out (by kernel_rfl)) (fun _ _ _ h => h) (Or.inl ⟨by rfl, ?_⟩) hHeld ?_ ?_
 rotate_left
 ·rintro w' ⟨s0, s1, s2⟩
  go_simp
  with_reducible rfl
 rotate_left
 ·simp only [Act.put, s1, s2, s3, i64_w]
  rfl
 refine take_ (i := 4) (N := some 7) (v := ?_) (a' := ?_) #[I,I,O,I,I,O,I,O,O,O,O] rfl rfl (take_ofW HT_.out HW_.out (by kernel_rfl)) (fun _ _ _ h => h) (Or.inl ⟨by rfl, ?_⟩) hHeld ?_ ?_
 rotate_left
 ·rintro w' ⟨s0, s1, s2⟩
  go_simp
  with_reducible rfl
 rotate_left
 ·simp only [Act.put, s1, s2, s3, i64_w]
  rfl
 refine take_ (i := 7) (N := some 10) (v := ?_) (a' := ?_) #[I,I,O,I,I,O,I,I,O,O,O] rfl rfl (take_ofW HT_.out HW_.out (by kernel_rfl)) (fun _ _ _ h => h) (Or.inl ⟨by rfl, ?_⟩) hHeld ?_ ?_
 rotate_left
 ·rintro w' ⟨s0, s1, s2⟩
  go_simp
  with_reducible rfl
 rotate_left
 ·simp only [Act.put, s1, s2, s3, i64_w]
  rfl
 refine one_ (i := 2) (N := some 5) #[I,I,I,I,I,O,I,I,O,O,O] rfl rfl (one_of HT_.out (by kernel_rfl)) (by decide) (fun K hK => ?_)
 refine goes_ Try.func66 (by kernel_rfl) rfl #[.slice Ap lp.length cp] (by rfl) rfl rfl ar ?_
 with_reducible refine (impl_Talk_66.calls _ _ lp t275 _ ?side1 ?side2 A2.out).mono ?_
 (case side1 => exact cA (Kd.C_below HR0_0.out HB.out))
 (case side2 => exact HC0_0.out)
 rintro e w8 ⟨v276, rfl, ho0, hb⟩
 refine ⟨_, rfl, ?_⟩
 have n0_ := mk0 (Kd.R_lower ho0 (below_size (hA HB.out)))
 have n1_ := mk0 (bB BK273.out hb)
 have n2_ := mk0 (bB BK274.out hb)
 have n3_ := mk0 (below_step (hA HB.out) hb)
 clear BK273
 clear BK274
 clear HB
 have HO277 := n0_
 have BK273 := n1_
 have BK274 := n2_
 have HB := n3_
 clear n0_ n1_ n2_ n3_
 (try clear hb); (try clear hb2); (try clear hk); (try clear hi); (try clear ho0)
 refine hK.out _ _ ⟨(blk_cell BK273.out 0).trans rfl, (blk_cell BK273.out 1).trans rfl, (blk_cell BK273.out 2).trans rfl⟩ (fun hHeld => ?_)
 clear hK K
 refine norm_ (a' := ?_) ?_ ?_
 rotate_left
 ·show Act.put _ (some 5) _ = _
  simp only [Act.put, s1, s2, s3, i64_w]
  rfl
 refine one_ (i := 5) (N := some 8) #[I,I,I,I,I,I,I,I,O,O,O] rfl rfl (one_of HT_.out (by kernel_rfl)) (by decide) (fun K hK => ?_)
 refine goes_ Try.func41 (by kernel_rfl) rfl #[.slice Aq lq.length cq] (by rfl) rfl rfl ar ?_
 with_reducible refine (slices_Clone_int_int.calls k _ _ lq t278 _ ?side1 ?side2 A3.out).mono ?_
 (case side1 => exact cA (Kd.C_below HR0_1.out HB.out))
 (case side2 => exact HC0_1.out)
 rintro e w9 ⟨v279, rfl, ho0, hb⟩
 refine ⟨_, rfl, ?_⟩
 have n0_ := mk0 (Kd.R_below (rA HO277.out) hb)
 have n1_ := mk0 (Kd.R_lower ho0 (below_size (hA HB.out)))
 have n2_ := mk0 (bB BK273.out hb)
 have n3_ := mk0 (bB BK274.out hb)
 have n4_ := mk0 (below_step (hA HB.out) hb)
 clear HO277
 clear BK273
 clear BK274
 clear HB
 have HO277 := n0_
 have HO280 := n1_
 have BK273 := n2_
 have BK274 := n3_
 have HB := n4_
 clear n0_ n1_ n2_ n3_ n4_
 (try clear hb); (try clear hb2); (try clear hk); (try clear hi); (try clear ho0)
 refine hK.out _ _ ⟨(blk_cell BK273.out 0).trans rfl, (blk_cell BK273.out 1).trans rfl, (blk_cell BK273.out 2).trans rfl⟩ (fun hHeld => ?_)
 clear hK K
 refine norm_ (a' := ?_) ?_ ?_
 rotate_left
 ·show Act.put _ (some 8) _ = _
  simp only [Act.put, s1, s2, s3, i64_w]
  rfl
 refine one_ (i := 8) (N := some 11) #[I,I,I,I,I,I,I,I,I,O,O] rfl rfl (one_of HT_.out (by kernel_rfl)) (by decide) (fun K hK => ?_)
 refine goes_ Try.func41 (by kernel_rfl) rfl #[.slice Ar lr.length cr] (by rfl) rfl rfl ar ?_
 with_reducible refine (slices_Clone_int_int.calls k _ _ lr t281 _ ?side1 ?side2 A4.out).mono ?_
 (case side1 => exact cA (Kd.C_below HR0_2.out HB.out))
 (case side2 => exact HC0_2.out)
 rintro e w10 ⟨v282, rfl, ho0, hb⟩
 refine ⟨_, rfl, ?_⟩
 have n0_ := mk0 (Kd.R_below (rA HO277.out) hb)
 have n1_ := mk0 (Kd.R_elder' (rA HO280.out) (Kd.R_base ho0) hb)
 have n2_ := mk0 (Kd.R_lower (Kd.R_new' ho0 (Kd.R_lt (rA HO280.out))) (below_size (hA HB.out)))
 have n3_ := mk0 (bB BK273.out hb)
 have n4_ := mk0 (bB BK274.out hb)
 have n5_ := mk0 (below_step (hA HB.out) hb)
 clear HO277
 clear HO280
 clear BK273
 clear BK274
 clear HB
 have HO277 := n0_
 have HO280 := n1_
 have HO283 := n2_
 have BK273 := n3_
 have BK274 := n4_
 have HB := n5_
 clear n0_ n1_ n2_ n3_ n4_ n5_
 (try clear hb); (try clear hb2); (try clear hk); (try clear hi); (try clear ho0)
 obtain ⟨Ao11, co11, eo11⟩ := Kd.R_slice HO283.out
 (first | subst eo11 | (injection eo11 with f1_ f2_ f3_; have f4_ := f1_.symm; have f5_ := f3_.symm; clear f1_ f2_ f3_; subst f4_; subst f5_))
 obtain ⟨Ao12, co12, eo12⟩ := Kd.R_slice HO280.out
 (first | subst eo12 | (injection eo12 with f1_ f2_ f3_; have f4_ := f1_.symm; have f5_ := f3_.symm; clear f1_ f2_ f3_; subst f4_; subst f5_))
 obtain ⟨Ao13, co13, eo13⟩ := Kd.R_slice HO277.out
 (first | subst eo13 | (injection eo13 with f1_ f2_ f3_; have f4_ := f1_.symm; have f5_ := f3_.symm; clear f1_ f2_ f3_; subst f4_; subst f5_))
 refine hK.out _ _ ⟨(blk_cell BK273.out 0).trans rfl, (blk_cell BK273.out 1).trans rfl, (blk_cell BK273.out 2).trans rfl⟩ (fun hHeld => ?_)
 clear hK K
 refine norm_ (a' := ?_) ?_ ?_
 rotate_left
 ·show Act.put _ (some 11) _ = _
  simp only [Act.put, s1, s2, s3, i64_w]
  rfl
 refine pure_ (i := 9) (N := some 12) (v := ?_) (a' := ?_) #[I,I,I,I,I,I,I,I,I,I,O] rfl rfl (any_of HT_.out (by kernel_rfl)) (fun _ _ _ h => h) (Or.inl ⟨by rfl, ?_⟩) ?_ ?_
 rotate_left
 ·intro w'
  go_simp
  with_reducible rfl
 rotate_left
 ·simp only [Act.put, s1, s2, s3, i64_w]
  rfl
 refine one_ (i := 10) (N := none) #[I,I,I,I,I,I,I,I,I,I,I] rfl rfl (one_of HT_.out (by kernel_rfl)) (by decide) (fun K hK => ?_)
 have hs14 : w10.cell? ⟨gb274, 0, none⟩ = some (.slice none 0 0) := (blk_cell BK274.out 0).trans rfl
 have hfs14 := blk_frozen BK274.out 0
 have hns14_0 := NB273_274.out
 have hms14_0 := NB274_273.out
 have hs15 : w10.cell? ⟨gb274, 1, none⟩ = some (.slice none 0 0) := (blk_cell BK274.out 1).trans rfl
 have hfs15 := blk_frozen BK274.out 1
 have hns15_0 := NB273_274.out
 have hms15_0 := NB274_273.out
 have hs16 : w10.cell? ⟨gb274, 2, none⟩ = some (.slice none 0 0) := (blk_cell BK274.out 2).trans rfl
 have hfs16 := blk_frozen BK274.out 2
 have hns16_0 := NB273_274.out
 have hms16_0 := NB274_273.out
 refine skip_ (w1 := ?_) (by rfl) rfl ?_ ?_
 rotate_left
 ·go_simp
  rfl
 refine hK.out _ _ ⟨((cell_far (p := ⟨gb274, _, none⟩) NB273_274.out _).trans (((cell_far (p := ⟨gb274, _, none⟩) NB273_274.out _).trans (((cell_far (p := ⟨gb274, _, none⟩) NB273_274.out _).trans (hHeld.1)))))), ((cell_far (p := ⟨gb274, _, none⟩) NB273_274.out _).trans (((cell_far (p := ⟨gb274, _, none⟩) NB273_274.out _).trans (((cell_far (p := ⟨gb274, _, none⟩) NB273_274.out _).trans (hHeld.2.1)))))), ((cell_far (p := ⟨gb274, _, none⟩) NB273_274.out _).trans (((cell_far (p := ⟨gb274, _, none⟩) NB273_274.out _).trans (((cell_far (p := ⟨gb274, _, none⟩) NB273_274.out _).trans (hHeld.2.2))))))⟩ (fun hHeld => ?_)
 clear hK K
 refine done_ (done_of HT_.out (by kernel_rfl)) ?_
 try go_wp2
 refine bodyPost_ret (results_cell_row rfl _ _ gb274 29 #[.slice Ao13 t275.length co13, .slice Ao12 t278.length co12, .slice Ao11 t281.length co11] (0, 0) _ rfl (by refine bC (a := ?_); refine blk_put (cs := #[.slice Ao13 t275.length co13, .slice Ao12 t278.length co12, .slice none 0 0]) ?_ 2 _ rfl; refine bC (a := ?_); refine blk_put (cs := #[.slice Ao13 t275.length co13, .slice none 0 0, .slice none 0 0]) ?_ 1 _ rfl; refine bC (a := ?_); refine blk_put (cs := #[.slice none 0 0, .slice none 0 0, .slice none 0 0]) ?_ 0 _ rfl; refine bC (a := ?_); exact BK274.out) Try.underlying29 rfl (by kernel_rfl)) rfl ?_
 exact ⟨_, _, _, er, by refine rC (a := ?_); exact Kd.R_mono (Kd.R_far (p := ⟨gb274, 2, none⟩) (Kd.R_far (p := ⟨gb274, 1, none⟩) (Kd.R_far (p := ⟨gb274, 0, none⟩) (Kd.R_types HO277.out BK274.out (by decide)) (fun _ hk => hk.2) (.slice Ao13 t275.length co13)) (fun _ hk => hk.2) (.slice Ao12 t278.length co12)) (fun _ hk => hk.2) (.slice Ao11 t281.length co11)) (fun _ hk => trivial), by refine rC (a := ?_); exact Kd.R_mono (Kd.R_far (p := ⟨gb274, 2, none⟩) (Kd.R_far (p := ⟨gb274, 1, none⟩) (Kd.R_far (p := ⟨gb274, 0, none⟩) (Kd.R_types HO280.out BK274.out (by decide)) (fun _ hk => hk.2) (.slice Ao13 t275.length co13)) (fun _ hk => hk.2) (.slice Ao12 t278.length co12)) (fun _ hk => hk.2) (.slice Ao11 t281.length co11)) (fun _ hk => hk.1.2), by refine rC (a := ?_); exact Kd.R_mono (Kd.R_far (p := ⟨gb274, 2, none⟩) (Kd.R_far (p := ⟨gb274, 1, none⟩) (Kd.R_far (p := ⟨gb274, 0, none⟩) (Kd.R_types HO283.out BK274.out (by decide)) (fun _ hk => hk.2) (.slice Ao13 t275.length co13)) (fun _ hk => hk.2) (.slice Ao12 t278.length co12)) (fun _ hk => hk.2) (.slice Ao11 t281.length co11)) (fun _ hk => hk.1.2), hA HB.out⟩
def impl_Restart.j0 : Nat → Int → Bool → List (S50) → List Int → List Int → Option ((List (S50)) × List Int × List Int × Bool)
 | 0, _, _, _, _, _ => none
 | k + 1, x1, x13, x285000, x285001, x285002 => if x13 = true then (some (([] : List (S50)), ([] : List Int), ([] : List Int), false)) else ((impl_ownBook.f k x285000 x285001 x285002).bind fun bt288 => (if x1 = 2 then ((impl_MendBook.f k bt288.1 bt288.2.1 bt288.2.2).bind fun bt297 => (some (bt297.1, bt297.2.1, bt297.2.2.1, true))) else (if x1 = 3 then ((impl_said.f k ([] : List (S50)) bt288.2.1 bt288.2.2).bind fun bt309 => (some (([] : List (S50)), bt309.1, bt309.2, true))) else (some (bt288.1, bt288.2.1, bt288.2.2, true)))))
def impl_Restart.f (k : Nat) (lp : List (S50)) (lq : List Int) (lr : List Int) (a1 : Int) : Option ((List (S50)) × List Int × List Int × Bool) := (impl_BookOk.f k lp lq lr).bind fun t286 => (if t286 = true then ((impl_in.f a1 1 3).bind fun t287 => (impl_Restart.j0 k a1 (!t287) lp lq lr)) else (impl_Restart.j0 k a1 true lp lq lr))
theorem impl_Restart.mono_l : ∀ k, (∀ y0 y1 y2 y3 y4, LeO (impl_Restart.j0 k y0 y1 y2 y3 y4) (impl_Restart.j0 (k + 1) y0 y1 y2 y3 y4))
 | 0 => fun _ _ _ _ _ r h => by simp [impl_Restart.j0] at h
 | k + 1 => by
  have ih0 := impl_Restart.mono_l k
  ·intro y0 y1 y2 y3 y4
   unfold impl_Restart.j0
   repeat' first
   | (with_reducible exact ih0 _ _ _ _ _)
   | (with_reducible exact impl_BookOk.mono _ _ _ _)
   | (with_reducible exact impl_MendBook.mono _ _ _ _)
   | (with_reducible exact impl_ownBook.mono _ _ _ _)
   | (with_reducible exact impl_said.mono _ _ _ _)
   | (with_reducible exact LeO.refl _)
   | (with_reducible exact LeO.none _)
   | (with_reducible refine LeO.ite ?_ ?_)
   | (with_reducible refine LeO.bind ?_ (fun _ => ?_))
   | exact ih0 _ _ _ _ _
   | exact impl_BookOk.mono _ _ _ _
   | exact impl_MendBook.mono _ _ _ _
   | exact impl_ownBook.mono _ _ _ _
   | exact impl_said.mono _ _ _ _
   | exact LeO.none _
   | refine LeO.ite ?_ ?_
   | refine LeO.bind ?_ (fun _ => ?_)
theorem impl_Restart.mono : ∀ a0 a1 a2 a3 k, LeO (impl_Restart.f k a0 a1 a2 a3) (impl_Restart.f (k + 1) a0 a1 a2 a3) := by
 intro a0 a1 a2 a3 k
 have ih0 := impl_Restart.mono_l k
 unfold impl_Restart.f
 repeat' first
   | (with_reducible exact ih0 _ _ _ _ _)
   | (with_reducible exact impl_BookOk.mono _ _ _ _)
   | (with_reducible exact impl_MendBook.mono _ _ _ _)
   | (with_reducible exact impl_ownBook.mono _ _ _ _)
   | (with_reducible exact impl_said.mono _ _ _ _)
   | (with_reducible exact LeO.refl _)
   | (with_reducible exact LeO.none _)
   | (with_reducible refine LeO.ite ?_ ?_)
   | (with_reducible refine LeO.bind ?_ (fun _ => ?_))
   | exact ih0 _ _ _ _ _
   | exact impl_BookOk.mono _ _ _ _
   | exact impl_MendBook.mono _ _ _ _
   | exact impl_ownBook.mono _ _ _ _
   | exact impl_said.mono _ _ _ _
   | exact LeO.none _
   | refine LeO.ite ?_ ?_
   | refine LeO.bind ?_ (fun _ => ?_)
set_option maxHeartbeats 8000000 in
set_option maxRecDepth 100000 in
theorem impl_Restart.calls (k : Nat) (Ap : Option Addr) (cp : Nat) (lp : List (S50)) (Aq : Option Addr) (cq : Nat) (lq : List Int) (Ar : Option Addr) (cr : Nat) (lr : List Int) (a1 : Int) (r1 : List (S50)) (r2 : List Int) (r3 : List Int) (r4 : Bool) (w : World) (hr0_0 : Kd.C k50 w Ap lp.length lp) (hc0_0 : lp.length ≤ cp) (hr0_1 : Kd.C (Kd.int .i64) w Aq lq.length lq) (hc0_1 : lq.length ≤ cq) (hr0_2 : Kd.C (Kd.int .i64) w Ar lr.length lr) (hc0_2 : lr.length ≤ cr) (h : impl_Restart.f k lp lq lr a1 = some (r1, r2, r3, r4)) :
  Calls Try.prog 28 #[.agg #[.slice Ap lp.length cp, .slice Aq lq.length cq, .slice Ar lr.length cr], .int .i64 a1] w fun e w' => ∃ v0_ v1_ v2_ : Value, e = .returned (.tuple #[.agg #[v0_, v1_, v2_], .bool r4]) ∧ Kd.R k50 50 w' w.heap.size (fun _ => True) v0_ r1 ∧ Kd.R (Kd.int .i64) 3 w' w.heap.size (fun k_ => some k_ ≠ (v2_ : Value).ownBlock) v1_ r2 ∧ Kd.R (Kd.int .i64) 3 w' w.heap.size (fun k_ => some k_ ≠ (v1_ : Value).ownBlock) v2_ r3 ∧ Below w.heap.size w w' := by
 have hu29 := Try.underlying29
 have HR0_0 := mk0 hr0_0
 have HC0_0 := mk0 hc0_0
 clear hr0_0 hc0_0
 have HR0_1 := mk0 hr0_1
 have HC0_1 := mk0 hc0_1
 clear hr0_1 hc0_1
 have HR0_2 := mk0 hr0_2
 have HC0_2 := mk0 hc0_2
 clear hr0_2 hc0_2
 have HB := mk0 (Below.refl w.heap.size w)
 have H : ((impl_BookOk.f k lp lq lr).bind fun t286 => (if t286 = true then ((impl_in.f a1 1 3).bind fun t287 => (impl_Restart.j0 k a1 (!t287) lp lq lr)) else (impl_Restart.j0 k a1 true lp lq lr))) = some (r1, r2, r3, r4) := h
 clear h
 have HC3 := mk0 H
 clear H
 go_enter Try.func28, Try.ntmps28
 go_upto_region 1 with (first | ((with_reducible refine gate_dst (N := 2) rfl ?_); refine box_event ?hg (N := 2) ?hd (cs := #[.slice Ap lp.length cp, .slice Aq lq.length cq, .slice Ar lr.length cr]) (t := 29) ?hr ?_; (case hd | hg => rfl); (case hr => first | (go_simp; done) | (go_simp; rfl)); intro gb284 hg w4 hbox hb; have n0_ := mk0 (below_step (hA HB.out) hb); have n1_ := mk0 (hbox); have n2_ := mk0 ((by rw [hg]; exact (below_size (hA HB.out)) : w.heap.size ≤ gb284)); have n3_ := mk0 ((by rw [hg]; exact (below_size (hA HB.out)) : w.heap.size ≤ gb284)); clear HB; have HB := n0_; have BK284 := n1_; have GW284 := n2_; have GE284 := n3_; clear n0_ n1_ n2_ n3_; clear hb hbox hg) | ((with_reducible refine gate_dst (N := 4) rfl ?_); refine box_event ?hg (N := 4) ?hd (cs := #[.slice none 0 0, .slice none 0 0, .slice none 0 0]) (t := 29) ?hr ?_; (case hd | hg => rfl); (case hr => first | (go_simp; done) | (go_simp; rfl)); intro gb285 hg w5 hbox hb; have n0_ := mk0 (bB BK284.out hb); have n1_ := mk0 (below_step (hA HB.out) hb); have n2_ := mk0 (hbox); have n3_ := mk0 ((by rw [hg]; exact (below_size (hA HB.out)) : w.heap.size ≤ gb285)); have n4_ := mk0 ((by rw [hg]; exact (below_size (hA HB.out)) : w.heap.size ≤ gb285)); have n5_ := mk0 ((by rw [hg]; exact Nat.ne_of_lt (blk_lt (g := gb284) (o := .cells #[.slice Ap lp.length cp, .slice Aq lq.length cq, .slice Ar lr.length cr] 29 (0, 0)) (bA BK284.out)) : gb284 ≠ gb285)); have n6_ := mk0 ((by rw [hg]; exact Nat.ne_of_gt (blk_lt (g := gb284) (o := .cells #[.slice Ap lp.length cp, .slice Aq lq.length cq, .slice Ar lr.length cr] 29 (0, 0)) (bA BK284.out)) : gb285 ≠ gb284)); clear BK284; clear HB; have BK284 := n0_; have HB := n1_; have BK285 := n2_; have GW285 := n3_; have GE285 := n4_; have NB284_285 := n5_; have NB285_284 := n6_; clear n0_ n1_ n2_ n3_ n4_ n5_ n6_; clear hb hbox hg))
 (try simp only [Act.put, s1, s2, s3])
 go_cut [13] (fun v13 wc => ∃ (kq : Nat) (x13_2 : Bool), v13 = .bool x13_2 ∧ Aside0 (impl_Restart.j0 kq a1 x13_2 lp lq lr = some (r1, r2, r3, r4)) ∧ Aside0 (kq ≤ k) ∧ Aside0 (wc.heap[gb284]? = some (.cells #[(.slice Ap lp.length cp), (.slice Aq lq.length cq), (.slice Ar lr.length cr)] 29 (0, 0))) ∧ Aside0 (wc.heap[gb285]? = some (.cells #[(.slice none 0 0), (.slice none 0 0), (.slice none 0 0)] 29 (0, 0))) ∧ Aside0 (Below w.heap.size w wc))
 case first =>
  have H := HC3.out
  clear HC3
  replace H := Option.bind_eq_some_iff.mp H
  obtain ⟨t286, A60, H⟩ := H
  replace H : (if t286 = true then ((impl_in.f a1 1 3).bind fun t287 => (impl_Restart.j0 k a1 (!t287) lp lq lr)) else (impl_Restart.j0 k a1 true lp lq lr)) = some (r1, r2, r3, r4) := H
  have A6 := mk0 A60
  clear A60
  by_cases c7 : t286 = true
  ·subst c7
   have H1 : ((impl_in.f a1 1 3).bind fun t287 => (impl_Restart.j0 k a1 (!t287) lp lq lr)) = some (r1, r2, r3, r4) := by rw [if_pos rfl] at H; exact H
   clear H
   have H := H1
   clear H1
   replace H := Option.bind_eq_some_iff.mp H
   obtain ⟨t287, A80, H⟩ := H
   replace H : (impl_Restart.j0 k a1 (!t287) lp lq lr) = some (r1, r2, r3, r4) := H
   have A8 := mk0 A80
   clear A80
   have H' := mk0 H
   clear H
   have hnb9 := NB284_285.out
   have hnc9 := NB285_284.out
   have hcz10_0 : w5.cell? ⟨gb284, 0, none⟩ = some (.slice Ap lp.length cp) := (blk_cell BK284.out 0).trans rfl
   have hcz10_1 : w5.cell? ⟨gb284, 1, none⟩ = some (.slice Aq lq.length cq) := (blk_cell BK284.out 1).trans rfl
   have hcz10_2 : w5.cell? ⟨gb284, 2, none⟩ = some (.slice Ar lr.length cr) := (blk_cell BK284.out 2).trans rfl
   have hfz10_0 := blk_frozen BK284.out 0
   have hfz10_1 := blk_frozen BK284.out 1
   have hfz10_2 := blk_frozen BK284.out 2
   go_wp2_with (first | ((with_reducible refine gate_callee (f := 40) rfl ?_); refine goesL_ (some 7) rfl rfl Try.func40 (by kernel_rfl) rfl #[.agg #[.slice Ap lp.length cp, .slice Aq lq.length cq, .slice Ar lr.length cr]] rfl ar ?_; (with_reducible refine (impl_BookOk.calls k _ _ lp (fun k_ => k_ < w.heap.size) _ _ lq (fun k_ => k_ < w.heap.size) _ _ lr true _ ?side1 ?side2 ?side3 ?side4 A6.out).mono ?_); (case side1 => exact cA (Kd.C_below HR0_0.out HB.out)); (case side2 => exact HC0_0.out); (case side3 => exact Kd.V_mk HC0_1.out (Kd.F_below (Kd.C_F (Kd.heap_int .i64) HR0_1.out) (hA HB.out))); (case side4 => exact Kd.V_mk HC0_2.out (Kd.F_below (Kd.C_F (Kd.heap_int .i64) HR0_2.out) (hA HB.out))); rintro e w11 ⟨rfl, hb⟩; refine ⟨_, rfl, ?_⟩; have n0_ := mk0 (bB BK284.out hb); have n1_ := mk0 (bB BK285.out hb); have n2_ := mk0 (below_step (hA HB.out) hb); clear BK284; clear BK285; clear HB; have BK284 := n0_; have BK285 := n1_; have HB := n2_; clear n0_ n1_ n2_; (try clear hb); (try clear hb2); (try clear hk); (try clear hi)) | (go_at_call 54; (with_reducible refine (impl_in.calls a1 1 3 t287 _ A8.out).mono ?_); rintro e w' ⟨rfl, ⟨nd, rfl⟩⟩))
   go_meet
   case rel => exact ⟨_, (!t287), rs, H', ⟨by first | omega | exact Nat.le_refl _⟩, ⟨by refine bC (a := ?_); exact BK284.out⟩, ⟨by refine bC (a := ?_); exact BK285.out⟩, ⟨hA HB.out⟩⟩
  ·replace c7 := Bool.eq_false_iff.mpr c7
   subst c7
   have H1 : (impl_Restart.j0 k a1 true lp lq lr) = some (r1, r2, r3, r4) := by rw [if_neg (show ¬ (false = true) by decide)] at H; exact H
   clear H
   have H := H1
   clear H1
   have H' := mk0 H
   clear H
   have hnb12 := NB284_285.out
   have hnc12 := NB285_284.out
   have hcz13_0 : w5.cell? ⟨gb284, 0, none⟩ = some (.slice Ap lp.length cp) := (blk_cell BK284.out 0).trans rfl
   have hcz13_1 : w5.cell? ⟨gb284, 1, none⟩ = some (.slice Aq lq.length cq) := (blk_cell BK284.out 1).trans rfl
   have hcz13_2 : w5.cell? ⟨gb284, 2, none⟩ = some (.slice Ar lr.length cr) := (blk_cell BK284.out 2).trans rfl
   have hfz13_0 := blk_frozen BK284.out 0
   have hfz13_1 := blk_frozen BK284.out 1
   have hfz13_2 := blk_frozen BK284.out 2
   go_wp2_with (first | ((with_reducible refine gate_callee (f := 40) rfl ?_); refine goesL_ (some 7) rfl rfl Try.func40 (by kernel_rfl) rfl #[.agg #[.slice Ap lp.length cp, .slice Aq lq.length cq, .slice Ar lr.length cr]] rfl ar ?_; (with_reducible refine (impl_BookOk.calls k _ _ lp (fun k_ => k_ < w.heap.size) _ _ lq (fun k_ => k_ < w.heap.size) _ _ lr false _ ?side1 ?side2 ?side3 ?side4 A6.out).mono ?_); (case side1 => exact cA (Kd.C_below HR0_0.out HB.out)); (case side2 => exact HC0_0.out); (case side3 => exact Kd.V_mk HC0_1.out (Kd.F_below (Kd.C_F (Kd.heap_int .i64) HR0_1.out) (hA HB.out))); (case side4 => exact Kd.V_mk HC0_2.out (Kd.F_below (Kd.C_F (Kd.heap_int .i64) HR0_2.out) (hA HB.out))); rintro e w14 ⟨rfl, hb⟩; refine ⟨_, rfl, ?_⟩; have n0_ := mk0 (bB BK284.out hb); have n1_ := mk0 (bB BK285.out hb); have n2_ := mk0 (below_step (hA HB.out) hb); clear BK284; clear BK285; clear HB; have BK284 := n0_; have BK285 := n1_; have HB := n2_; clear n0_ n1_ n2_; (try clear hb); (try clear hb2); (try clear hk); (try clear hi)))
   go_meet
   case rel => exact ⟨_, (true), rs, H', ⟨by first | omega | exact Nat.le_refl _⟩, ⟨by refine bC (a := ?_); exact BK284.out⟩, ⟨by refine bC (a := ?_); exact BK285.out⟩, ⟨hA HB.out⟩⟩
 case rest =>
  clear HC3
  (try clear c1); (try clear c2); (try clear p2); (try clear c4); (try clear c7); (try clear c9); (try clear c12); (try clear hcz10_0); (try clear hcz10_1); (try clear hcz10_2); (try clear hcz13_0); (try clear hcz13_1); (try clear hcz13_2); (try clear hfz10_0); (try clear hfz10_1); (try clear hfz10_2); (try clear hfz13_0); (try clear hfz13_1); (try clear hfz13_2)
  obtain ⟨kq, x13_2, rfl, HA, HJ2, BK284, BK285, HB⟩ := hcut
  cases kq with
  | zero => exact absurd HA.out (by simp [impl_Restart.j0])
  | succ kj2 =>
   have H := HA.out
   clear HA
   simp only [impl_Restart.j0] at H
   by_cases c15 : x13_2 = true
   ·subst c15
    have H1 : (some (([] : List (S50)), ([] : List Int), ([] : List Int), false)) = some (r1, r2, r3, r4) := by rw [if_pos rfl] at H; exact H
    clear H
    have H := H1
    clear H1
    simp only [Option.some.injEq, Prod.mk.injEq] at H
    obtain ⟨rfl, rfl, rfl, rfl⟩ := H
    have hnb16 := NB285_284.out
    have hnc16 := NB284_285.out
    have hcz17_0 : wc.cell? ⟨gb285, 0, none⟩ = some (.slice none 0 0) := (blk_cell BK285.out 0).trans rfl
    have hcz17_1 : wc.cell? ⟨gb285, 1, none⟩ = some (.slice none 0 0) := (blk_cell BK285.out 1).trans rfl
    have hcz17_2 : wc.cell? ⟨gb285, 2, none⟩ = some (.slice none 0 0) := (blk_cell BK285.out 2).trans rfl
    have hfz17_0 := blk_frozen BK285.out 0
    have hfz17_1 := blk_frozen BK285.out 1
    have hfz17_2 := blk_frozen BK285.out 2
    go_wp2
    refine bodyPost_ret (results_ct rfl _ _ gb285 29 #[.slice none 0 0, .slice none 0 0, .slice none 0 0] (0, 0) _ rfl (by refine bC (a := ?_); refine blk_put (cs := #[.slice none 0 0, .slice none 0 0, .slice none 0 0]) ?_ 2 _ rfl; refine bC (a := ?_); refine blk_put (cs := #[.slice none 0 0, .slice none 0 0, .slice none 0 0]) ?_ 1 _ rfl; refine bC (a := ?_); refine blk_put (cs := #[.slice none 0 0, .slice none 0 0, .slice none 0 0]) ?_ 0 _ rfl; refine bC (a := ?_); exact BK285.out) Try.underlying29 rfl (by kernel_rfl)) rfl ?_
    exact ⟨_, _, _, er, by first | exact Kd.R_nil _ _ _ _ _ | exact Kd.N_nil _ _ _ _ _ | exact Kd.V_nil _ _ _ _ _ | exact Kd.Q_nil _ _ _ _ _ | exact Kd.S_nil _ _ _ _ _, by first | exact Kd.R_nil _ _ _ _ _ | exact Kd.N_nil _ _ _ _ _ | exact Kd.V_nil _ _ _ _ _ | exact Kd.Q_nil _ _ _ _ _ | exact Kd.S_nil _ _ _ _ _, by first | exact Kd.R_nil _ _ _ _ _ | exact Kd.N_nil _ _ _ _ _ | exact Kd.V_nil _ _ _ _ _ | exact Kd.Q_nil _ _ _ _ _ | exact Kd.S_nil _ _ _ _ _, hA HB.out⟩
   ·replace c15 := Bool.eq_false_iff.mpr c15
    subst c15
    have H1 : ((impl_ownBook.f kj2 lp lq lr).bind fun bt288 => (if a1 = 2 then ((impl_MendBook.f kj2 bt288.1 bt288.2.1 bt288.2.2).bind fun bt297 => (some (bt297.1, bt297.2.1, bt297.2.2.1, true))) else (if a1 = 3 then ((impl_said.f kj2 ([] : List (S50)) bt288.2.1 bt288.2.2).bind fun bt309 => (some (([] : List (S50)), bt309.1, bt309.2, true))) else (some (bt288.1, bt288.2.1, bt288.2.2, true))))) = some (r1, r2, r3, r4) := by rw [if_neg (show ¬ (false = true) by decide)] at H; exact H
    clear H
    have H := H1
    clear H1
    replace H := Option.bind_eq_some_iff.mp H
    obtain ⟨⟨t288, t291, t294⟩, A180, H⟩ := H
    replace H : (if a1 = 2 then ((impl_MendBook.f kj2 t288 t291 t294).bind fun bt297 => (some (bt297.1, bt297.2.1, bt297.2.2.1, true))) else (if a1 = 3 then ((impl_said.f kj2 ([] : List (S50)) t291 t294).bind fun bt309 => (some (([] : List (S50)), bt309.1, bt309.2, true))) else (some (t288, t291, t294, true)))) = some (r1, r2, r3, r4) := H
    have A18 := mk0 A180
    clear A180
    by_cases c19 : a1 = 2
    ·rw [if_pos c19] at H
     have c19b0 : (a1 == 2) = true := beq_iff_eq.mpr c19
     have c19b1 : (a1 != 2) = false := bne_eq_false_iff_eq.mpr c19
     clear c19
     replace H := Option.bind_eq_some_iff.mp H
     obtain ⟨⟨t297, t300, t303, t306⟩, A200, H⟩ := H
     replace H : (some (t297, t300, t303, true)) = some (r1, r2, r3, r4) := H
     have A20 := mk0 A200
     clear A200
     simp only [Option.some.injEq, Prod.mk.injEq] at H
     obtain ⟨rfl, rfl, rfl, rfl⟩ := H
     have hnb21 := NB284_285.out
     have hnc21 := NB285_284.out
     have hcz22_0 : wc.cell? ⟨gb284, 0, none⟩ = some (.slice Ap lp.length cp) := (blk_cell BK284.out 0).trans rfl
     have hcz22_1 : wc.cell? ⟨gb284, 1, none⟩ = some (.slice Aq lq.length cq) := (blk_cell BK284.out 1).trans rfl
     have hcz22_2 : wc.cell? ⟨gb284, 2, none⟩ = some (.slice Ar lr.length cr) := (blk_cell BK284.out 2).trans rfl
     have hfz22_0 := blk_frozen BK284.out 0
     have hfz22_1 := blk_frozen BK284.out 1
     have hfz22_2 := blk_frozen BK284.out 2
     go_wp2_with (first | ((with_reducible refine gate_callee (f := 55) rfl ?_); refine goesL_ (some 16) rfl rfl Try.func55 (by kernel_rfl) rfl #[.agg #[.slice Ap lp.length cp, .slice Aq lq.length cq, .slice Ar lr.length cr]] rfl ar ?_; (with_reducible refine (impl_ownBook.calls kj2 _ _ lp _ _ lq _ _ lr t288 t291 t294 _ ?side1 ?side2 ?side3 ?side4 ?side5 ?side6 A18.out).mono ?_); (case side1 => exact cA (Kd.C_below HR0_0.out HB.out)); (case side2 => exact HC0_0.out); (case side3 => exact cA (Kd.C_below HR0_1.out HB.out)); (case side4 => exact HC0_1.out); (case side5 => exact cA (Kd.C_below HR0_2.out HB.out)); (case side6 => exact HC0_2.out); rintro e w23 ⟨v289, v292, v295, rfl, ho0, ho1, ho2, hb⟩; refine ⟨_, rfl, ?_⟩; have n0_ := mk0 (Kd.R_lower ho0 (below_size (hA HB.out))); have n1_ := mk0 (Kd.R_lower ho1 (below_size (hA HB.out))); have n2_ := mk0 (Kd.R_lower ho2 (below_size (hA HB.out))); have n3_ := mk0 (bB BK284.out hb); have n4_ := mk0 (bB BK285.out hb); have n5_ := mk0 (below_step (hA HB.out) hb); clear BK284; clear BK285; clear HB; have HO290 := n0_; have HO293 := n1_; have HO296 := n2_; have BK284 := n3_; have BK285 := n4_; have HB := n5_; clear n0_ n1_ n2_ n3_ n4_ n5_; (try clear hb); (try clear hb2); (try clear hk); (try clear hi); (try clear ho0); (try clear ho1); (try clear ho2); obtain ⟨Ao24, co24, eo24⟩ := Kd.R_slice HO290.out; subst eo24; have hcz25_0 : w23.cell? ⟨gb284, 0, none⟩ = some (.slice Ap lp.length cp) := (blk_cell BK284.out 0).trans rfl; have hcz25_1 : w23.cell? ⟨gb284, 1, none⟩ = some (.slice Aq lq.length cq) := (blk_cell BK284.out 1).trans rfl; have hcz25_2 : w23.cell? ⟨gb284, 2, none⟩ = some (.slice Ar lr.length cr) := (blk_cell BK284.out 2).trans rfl; have hfz25_0 := blk_frozen BK284.out 0; have hfz25_1 := blk_frozen BK284.out 1; have hfz25_2 := blk_frozen BK284.out 2; obtain ⟨Ao26, co26, eo26⟩ := Kd.R_slice HO293.out; subst eo26; obtain ⟨Ao27, co27, eo27⟩ := Kd.R_slice HO296.out; subst eo27) | ((with_reducible refine gate_callee (f := 12) rfl ?_); refine goesL_ (some 22) rfl rfl Try.func12 (by kernel_rfl) rfl #[.agg #[.slice Ao24 t288.length co24, .slice Ao26 t291.length co26, .slice Ao27 t294.length co27]] rfl ar ?_; (with_reducible refine (impl_MendBook.calls kj2 _ _ t288 _ _ t291 _ _ t294 t297 t300 t303 t306 _ ?side1 ?side2 ?side3 ?side4 ?side5 ?side6 A20.out).mono ?_); (case side1 => refine (Kd.R_reads' (e := 50) (base := w.heap.size) (ok := fun k_ => True) (n := t288.length) (c := co24) ?_).2.2; exact (rC (a := by exact (Kd.R_mono (Kd.R_far (p := ⟨gb284, 2, none⟩) (Kd.R_far (p := ⟨gb284, 1, none⟩) (Kd.R_far (p := ⟨gb284, 0, none⟩) (Kd.R_types HO290.out BK284.out (by decide)) (fun _ hk => hk.2) (.slice Ao24 t288.length co24)) (fun _ hk => hk.2) (.slice Ao26 t291.length co26)) (fun _ hk => hk.2) (.slice Ao27 t294.length co27)) (fun _ h_ => h_.1))))); (case side2 => exact (Kd.R_reads' HO290.out).2.1); (case side3 => refine (Kd.R_reads' (e := 3) (base := w.heap.size) (ok := fun k_ => some k_ ≠ (.slice Ao27 t294.length co27 : Value).ownBlock) (n := t291.length) (c := co26) ?_).2.2; exact (rC (a := by exact (Kd.R_mono (Kd.R_far (p := ⟨gb284, 2, none⟩) (Kd.R_far (p := ⟨gb284, 1, none⟩) (Kd.R_far (p := ⟨gb284, 0, none⟩) (Kd.R_types HO293.out BK284.out (by decide)) (fun _ hk => hk.2) (.slice Ao24 t288.length co24)) (fun _ hk => hk.2) (.slice Ao26 t291.length co26)) (fun _ hk => hk.2) (.slice Ao27 t294.length co27)) (fun _ h_ => h_.1))))); (case side4 => exact (Kd.R_reads' HO293.out).2.1); (case side5 => refine (Kd.R_reads' (e := 3) (base := w.heap.size) (ok := fun k_ => some k_ ≠ (.slice Ao26 t291.length co26 : Value).ownBlock) (n := t294.length) (c := co27) ?_).2.2; exact (rC (a := by exact (Kd.R_mono (Kd.R_far (p := ⟨gb284, 2, none⟩) (Kd.R_far (p := ⟨gb284, 1, none⟩) (Kd.R_far (p := ⟨gb284, 0, none⟩) (Kd.R_types HO296.out BK284.out (by decide)) (fun _ hk => hk.2) (.slice Ao24 t288.length co24)) (fun _ hk => hk.2) (.slice Ao26 t291.length co26)) (fun _ hk => hk.2) (.slice Ao27 t294.length co27)) (fun _ h_ => h_.1))))); (case side6 => exact (Kd.R_reads' HO296.out).2.1); rintro e w28 ⟨v298, v301, v304, v307, rfl, ho0, ho1, ho2, ho3, hb⟩; refine ⟨_, rfl, ?_⟩; have n0_ := mk0 (Kd.R_elder' (rC (a := by exact (Kd.R_mono (Kd.R_far (p := ⟨gb284, 2, none⟩) (Kd.R_far (p := ⟨gb284, 1, none⟩) (Kd.R_far (p := ⟨gb284, 0, none⟩) (Kd.R_types HO290.out BK284.out (by decide)) (fun _ hk => hk.2) (.slice Ao24 t288.length co24)) (fun _ hk => hk.2) (.slice Ao26 t291.length co26)) (fun _ hk => hk.2) (.slice Ao27 t294.length co27)) (fun _ h_ => h_.1)))) (Kd.R_base ho0) hb); have n1_ := mk0 (Kd.R_mono (Kd.R_told (Kd.R_told (Kd.R_told (Kd.R_old (rC (a := by exact (Kd.R_mono (Kd.R_far (p := ⟨gb284, 2, none⟩) (Kd.R_far (p := ⟨gb284, 1, none⟩) (Kd.R_far (p := ⟨gb284, 0, none⟩) (Kd.R_types HO293.out BK284.out (by decide)) (fun _ hk => hk.2) (.slice Ao24 t288.length co24)) (fun _ hk => hk.2) (.slice Ao26 t291.length co26)) (fun _ hk => hk.2) (.slice Ao27 t294.length co27)) (fun _ h_ => h_.1)))) hb) (Kd.R_base ho1)) (Kd.R_base ho2)) (Kd.R_base ho3)) (fun _ h_ => h_.1)); have n2_ := mk0 (Kd.R_mono (Kd.R_told (Kd.R_told (Kd.R_told (Kd.R_old (rC (a := by exact (Kd.R_mono (Kd.R_far (p := ⟨gb284, 2, none⟩) (Kd.R_far (p := ⟨gb284, 1, none⟩) (Kd.R_far (p := ⟨gb284, 0, none⟩) (Kd.R_types HO296.out BK284.out (by decide)) (fun _ hk => hk.2) (.slice Ao24 t288.length co24)) (fun _ hk => hk.2) (.slice Ao26 t291.length co26)) (fun _ hk => hk.2) (.slice Ao27 t294.length co27)) (fun _ h_ => h_.1)))) hb) (Kd.R_base ho1)) (Kd.R_base ho2)) (Kd.R_base ho3)) (fun _ h_ => h_.1)); have n3_ := mk0 (Kd.R_lower (Kd.R_new' ho0 (Kd.R_lt (rC (a := by exact (Kd.R_mono (Kd.R_far (p := ⟨gb284, 2, none⟩) (Kd.R_far (p := ⟨gb284, 1, none⟩) (Kd.R_far (p := ⟨gb284, 0, none⟩) (Kd.R_types HO290.out BK284.out (by decide)) (fun _ hk => hk.2) (.slice Ao24 t288.length co24)) (fun _ hk => hk.2) (.slice Ao26 t291.length co26)) (fun _ hk => hk.2) (.slice Ao27 t294.length co27)) (fun _ h_ => h_.1)))))) (below_size (hA HB.out))); have n4_ := mk0 (Kd.R_lower (Kd.R_new' (Kd.R_new' ho1 (Kd.R_lt (rC (a := by exact (Kd.R_mono (Kd.R_far (p := ⟨gb284, 2, none⟩) (Kd.R_far (p := ⟨gb284, 1, none⟩) (Kd.R_far (p := ⟨gb284, 0, none⟩) (Kd.R_types HO293.out BK284.out (by decide)) (fun _ hk => hk.2) (.slice Ao24 t288.length co24)) (fun _ hk => hk.2) (.slice Ao26 t291.length co26)) (fun _ hk => hk.2) (.slice Ao27 t294.length co27)) (fun _ h_ => h_.1)))))) (Kd.R_lt (rC (a := by exact (Kd.R_mono (Kd.R_far (p := ⟨gb284, 2, none⟩) (Kd.R_far (p := ⟨gb284, 1, none⟩) (Kd.R_far (p := ⟨gb284, 0, none⟩) (Kd.R_types HO296.out BK284.out (by decide)) (fun _ hk => hk.2) (.slice Ao24 t288.length co24)) (fun _ hk => hk.2) (.slice Ao26 t291.length co26)) (fun _ hk => hk.2) (.slice Ao27 t294.length co27)) (fun _ h_ => h_.1)))))) (below_size (hA HB.out))); have n5_ := mk0 (Kd.R_lower (Kd.R_new' (Kd.R_new' ho2 (Kd.R_lt (rC (a := by exact (Kd.R_mono (Kd.R_far (p := ⟨gb284, 2, none⟩) (Kd.R_far (p := ⟨gb284, 1, none⟩) (Kd.R_far (p := ⟨gb284, 0, none⟩) (Kd.R_types HO293.out BK284.out (by decide)) (fun _ hk => hk.2) (.slice Ao24 t288.length co24)) (fun _ hk => hk.2) (.slice Ao26 t291.length co26)) (fun _ hk => hk.2) (.slice Ao27 t294.length co27)) (fun _ h_ => h_.1)))))) (Kd.R_lt (rC (a := by exact (Kd.R_mono (Kd.R_far (p := ⟨gb284, 2, none⟩) (Kd.R_far (p := ⟨gb284, 1, none⟩) (Kd.R_far (p := ⟨gb284, 0, none⟩) (Kd.R_types HO296.out BK284.out (by decide)) (fun _ hk => hk.2) (.slice Ao24 t288.length co24)) (fun _ hk => hk.2) (.slice Ao26 t291.length co26)) (fun _ hk => hk.2) (.slice Ao27 t294.length co27)) (fun _ h_ => h_.1)))))) (below_size (hA HB.out))); have n6_ := mk0 (Kd.R_lower (Kd.R_new' (Kd.R_new' ho3 (Kd.R_lt (rC (a := by exact (Kd.R_mono (Kd.R_far (p := ⟨gb284, 2, none⟩) (Kd.R_far (p := ⟨gb284, 1, none⟩) (Kd.R_far (p := ⟨gb284, 0, none⟩) (Kd.R_types HO293.out BK284.out (by decide)) (fun _ hk => hk.2) (.slice Ao24 t288.length co24)) (fun _ hk => hk.2) (.slice Ao26 t291.length co26)) (fun _ hk => hk.2) (.slice Ao27 t294.length co27)) (fun _ h_ => h_.1)))))) (Kd.R_lt (rC (a := by exact (Kd.R_mono (Kd.R_far (p := ⟨gb284, 2, none⟩) (Kd.R_far (p := ⟨gb284, 1, none⟩) (Kd.R_far (p := ⟨gb284, 0, none⟩) (Kd.R_types HO296.out BK284.out (by decide)) (fun _ hk => hk.2) (.slice Ao24 t288.length co24)) (fun _ hk => hk.2) (.slice Ao26 t291.length co26)) (fun _ hk => hk.2) (.slice Ao27 t294.length co27)) (fun _ h_ => h_.1)))))) (below_size (hA HB.out))); have n7_ := mk0 (blk_below (g := gb284) (o := .cells #[.slice Ao24 t288.length co24, .slice Ao26 t291.length co26, .slice Ao27 t294.length co27] 29 (0, 0)) (by refine bC (a := ?_); refine blk_put (cs := #[.slice Ao24 t288.length co24, .slice Ao26 t291.length co26, .slice Ar lr.length cr]) ?_ 2 _ rfl; refine bC (a := ?_); refine blk_put (cs := #[.slice Ao24 t288.length co24, .slice Aq lq.length cq, .slice Ar lr.length cr]) ?_ 1 _ rfl; refine bC (a := ?_); refine blk_put (cs := #[.slice Ap lp.length cp, .slice Aq lq.length cq, .slice Ar lr.length cr]) ?_ 0 _ rfl; refine bC (a := ?_); exact BK284.out) hb); have n8_ := mk0 (blk_below (g := gb285) (o := .cells #[.slice none 0 0, .slice none 0 0, .slice none 0 0] 29 (0, 0)) (by refine bC (a := ?_); refine blk_far ?_ NB285_284.out _; refine bC (a := ?_); refine blk_far ?_ NB285_284.out _; refine bC (a := ?_); refine blk_far ?_ NB285_284.out _; refine bC (a := ?_); exact BK285.out) hb); have n9_ := mk0 (below_step (hA HB.out) hb); clear HO290; clear HO293; clear HO296; clear BK284; clear BK285; clear HB; have HO290 := n0_; have HO293 := n1_; have HO296 := n2_; have HO299 := n3_; have HO302 := n4_; have HO305 := n5_; have HO308 := n6_; have BK284 := n7_; have BK285 := n8_; have HB := n9_; clear n0_ n1_ n2_ n3_ n4_ n5_ n6_ n7_ n8_ n9_; (try clear hb); (try clear hb2); (try clear hk); (try clear hi); (try clear ho0); (try clear ho1); (try clear ho2); (try clear ho3); obtain ⟨Ao29, co29, eo29⟩ := Kd.R_slice HO299.out; subst eo29; have hcz30_0 : w28.cell? ⟨gb284, 0, none⟩ = some (.slice Ao24 t288.length co24) := (blk_cell BK284.out 0).trans rfl; have hcz30_1 : w28.cell? ⟨gb284, 1, none⟩ = some (.slice Ao26 t291.length co26) := (blk_cell BK284.out 1).trans rfl; have hcz30_2 : w28.cell? ⟨gb284, 2, none⟩ = some (.slice Ao27 t294.length co27) := (blk_cell BK284.out 2).trans rfl; have hfz30_0 := blk_frozen BK284.out 0; have hfz30_1 := blk_frozen BK284.out 1; have hfz30_2 := blk_frozen BK284.out 2; obtain ⟨Ao31, co31, eo31⟩ := Kd.R_slice HO302.out; subst eo31; obtain ⟨Ao32, co32, eo32⟩ := Kd.R_slice HO305.out; subst eo32; have hcz33_0 : w28.cell? ⟨gb285, 0, none⟩ = some (.slice none 0 0) := (blk_cell BK285.out 0).trans rfl; have hcz33_1 : w28.cell? ⟨gb285, 1, none⟩ = some (.slice none 0 0) := (blk_cell BK285.out 1).trans rfl; have hcz33_2 : w28.cell? ⟨gb285, 2, none⟩ = some (.slice none 0 0) := (blk_cell BK285.out 2).trans rfl; have hfz33_0 := blk_frozen BK285.out 0; have hfz33_1 := blk_frozen BK285.out 1; have hfz33_2 := blk_frozen BK285.out 2))
     refine bodyPost_ret (results_ct rfl _ _ gb285 29 #[.slice Ao29 t297.length co29, .slice Ao31 t300.length co31, .slice Ao32 t303.length co32] (0, 0) _ rfl (by refine bC (a := ?_); refine blk_put (cs := #[.slice Ao29 t297.length co29, .slice Ao31 t300.length co31, .slice none 0 0]) ?_ 2 _ rfl; refine bC (a := ?_); refine blk_put (cs := #[.slice Ao29 t297.length co29, .slice none 0 0, .slice none 0 0]) ?_ 1 _ rfl; refine bC (a := ?_); refine blk_put (cs := #[.slice none 0 0, .slice none 0 0, .slice none 0 0]) ?_ 0 _ rfl; refine bC (a := ?_); refine blk_far ?_ NB285_284.out _; refine bC (a := ?_); refine blk_far ?_ NB285_284.out _; refine bC (a := ?_); refine blk_far ?_ NB285_284.out _; refine bC (a := ?_); exact BK285.out) Try.underlying29 rfl (by kernel_rfl)) rfl ?_
     exact ⟨_, _, _, er, by refine rC (a := ?_); exact Kd.R_mono (Kd.R_far (p := ⟨gb285, 2, none⟩) (Kd.R_far (p := ⟨gb285, 1, none⟩) (Kd.R_far (p := ⟨gb285, 0, none⟩) (Kd.R_far (p := ⟨gb284, 2, none⟩) (Kd.R_far (p := ⟨gb284, 1, none⟩) (Kd.R_far (p := ⟨gb284, 0, none⟩) (Kd.R_types (Kd.R_types HO299.out BK284.out (by decide)) BK285.out (by decide)) (fun _ hk => hk.1.2) (.slice Ao29 t297.length co29)) (fun _ hk => hk.1.2) (.slice Ao31 t300.length co31)) (fun _ hk => hk.1.2) (.slice Ao32 t303.length co32)) (fun _ hk => hk.2) (.slice Ao29 t297.length co29)) (fun _ hk => hk.2) (.slice Ao31 t300.length co31)) (fun _ hk => hk.2) (.slice Ao32 t303.length co32)) (fun _ hk => trivial), by refine rC (a := ?_); exact Kd.R_mono (Kd.R_far (p := ⟨gb285, 2, none⟩) (Kd.R_far (p := ⟨gb285, 1, none⟩) (Kd.R_far (p := ⟨gb285, 0, none⟩) (Kd.R_far (p := ⟨gb284, 2, none⟩) (Kd.R_far (p := ⟨gb284, 1, none⟩) (Kd.R_far (p := ⟨gb284, 0, none⟩) (Kd.R_types (Kd.R_types HO302.out BK284.out (by decide)) BK285.out (by decide)) (fun _ hk => hk.1.2) (.slice Ao29 t297.length co29)) (fun _ hk => hk.1.2) (.slice Ao31 t300.length co31)) (fun _ hk => hk.1.2) (.slice Ao32 t303.length co32)) (fun _ hk => hk.2) (.slice Ao29 t297.length co29)) (fun _ hk => hk.2) (.slice Ao31 t300.length co31)) (fun _ hk => hk.2) (.slice Ao32 t303.length co32)) (fun _ hk => hk.1.1.1.1.1), by refine rC (a := ?_); exact Kd.R_mono (Kd.R_far (p := ⟨gb285, 2, none⟩) (Kd.R_far (p := ⟨gb285, 1, none⟩) (Kd.R_far (p := ⟨gb285, 0, none⟩) (Kd.R_far (p := ⟨gb284, 2, none⟩) (Kd.R_far (p := ⟨gb284, 1, none⟩) (Kd.R_far (p := ⟨gb284, 0, none⟩) (Kd.R_types (Kd.R_types HO305.out BK284.out (by decide)) BK285.out (by decide)) (fun _ hk => hk.1.2) (.slice Ao29 t297.length co29)) (fun _ hk => hk.1.2) (.slice Ao31 t300.length co31)) (fun _ hk => hk.1.2) (.slice Ao32 t303.length co32)) (fun _ hk => hk.2) (.slice Ao29 t297.length co29)) (fun _ hk => hk.2) (.slice Ao31 t300.length co31)) (fun _ hk => hk.2) (.slice Ao32 t303.length co32)) (fun _ hk => hk.1.1.1.1.1), hA HB.out⟩
    ·rw [if_neg c19] at H
     have c19b0 : (a1 == 2) = false := beq_eq_false_iff_ne.mpr c19
     have c19b1 : (a1 != 2) = true := bne_iff_ne.mpr c19
     by_cases c34 : a1 = 3
     ·rw [if_pos c34] at H
      have c34b0 : (a1 == 3) = true := beq_iff_eq.mpr c34
      have c34b1 : (a1 != 3) = false := bne_eq_false_iff_eq.mpr c34
      clear c34
      replace H := Option.bind_eq_some_iff.mp H
      obtain ⟨⟨t309, t312⟩, A350, H⟩ := H
      replace H : (some (([] : List (S50)), t309, t312, true)) = some (r1, r2, r3, r4) := H
      have A35 := mk0 A350
      clear A350
      simp only [Option.some.injEq, Prod.mk.injEq] at H
      obtain ⟨rfl, rfl, rfl, rfl⟩ := H
      have hnb36 := NB284_285.out
      have hnc36 := NB285_284.out
      have hcz37_0 : wc.cell? ⟨gb284, 0, none⟩ = some (.slice Ap lp.length cp) := (blk_cell BK284.out 0).trans rfl
      have hcz37_1 : wc.cell? ⟨gb284, 1, none⟩ = some (.slice Aq lq.length cq) := (blk_cell BK284.out 1).trans rfl
      have hcz37_2 : wc.cell? ⟨gb284, 2, none⟩ = some (.slice Ar lr.length cr) := (blk_cell BK284.out 2).trans rfl
      have hfz37_0 := blk_frozen BK284.out 0
      have hfz37_1 := blk_frozen BK284.out 1
      have hfz37_2 := blk_frozen BK284.out 2
      go_wp2_with (first | ((with_reducible refine gate_callee (f := 55) rfl ?_); refine goesL_ (some 16) rfl rfl Try.func55 (by kernel_rfl) rfl #[.agg #[.slice Ap lp.length cp, .slice Aq lq.length cq, .slice Ar lr.length cr]] rfl ar ?_; (with_reducible refine (impl_ownBook.calls kj2 _ _ lp _ _ lq _ _ lr t288 t291 t294 _ ?side1 ?side2 ?side3 ?side4 ?side5 ?side6 A18.out).mono ?_); (case side1 => exact cA (Kd.C_below HR0_0.out HB.out)); (case side2 => exact HC0_0.out); (case side3 => exact cA (Kd.C_below HR0_1.out HB.out)); (case side4 => exact HC0_1.out); (case side5 => exact cA (Kd.C_below HR0_2.out HB.out)); (case side6 => exact HC0_2.out); rintro e w38 ⟨v289, v292, v295, rfl, ho0, ho1, ho2, hb⟩; refine ⟨_, rfl, ?_⟩; have n0_ := mk0 (Kd.R_lower ho0 (below_size (hA HB.out))); have n1_ := mk0 (Kd.R_lower ho1 (below_size (hA HB.out))); have n2_ := mk0 (Kd.R_lower ho2 (below_size (hA HB.out))); have n3_ := mk0 (bB BK284.out hb); have n4_ := mk0 (bB BK285.out hb); have n5_ := mk0 (below_step (hA HB.out) hb); clear BK284; clear BK285; clear HB; have HO290 := n0_; have HO293 := n1_; have HO296 := n2_; have BK284 := n3_; have BK285 := n4_; have HB := n5_; clear n0_ n1_ n2_ n3_ n4_ n5_; (try clear hb); (try clear hb2); (try clear hk); (try clear hi); (try clear ho0); (try clear ho1); (try clear ho2); obtain ⟨Ao39, co39, eo39⟩ := Kd.R_slice HO290.out; subst eo39; have hcz40_0 : w38.cell? ⟨gb284, 0, none⟩ = some (.slice Ap lp.length cp) := (blk_cell BK284.out 0).trans rfl; have hcz40_1 : w38.cell? ⟨gb284, 1, none⟩ = some (.slice Aq lq.length cq) := (blk_cell BK284.out 1).trans rfl; have hcz40_2 : w38.cell? ⟨gb284, 2, none⟩ = some (.slice Ar lr.length cr) := (blk_cell BK284.out 2).trans rfl; have hfz40_0 := blk_frozen BK284.out 0; have hfz40_1 := blk_frozen BK284.out 1; have hfz40_2 := blk_frozen BK284.out 2; obtain ⟨Ao41, co41, eo41⟩ := Kd.R_slice HO293.out; subst eo41; obtain ⟨Ao42, co42, eo42⟩ := Kd.R_slice HO296.out; subst eo42) | ((with_reducible refine gate_callee (f := 44) rfl ?_); refine goesL_ (some 30) rfl rfl Try.func44 (by kernel_rfl) rfl #[.agg #[.slice none 0 0, .slice Ao41 t291.length co41, .slice Ao42 t294.length co42]] rfl ar ?_; (refine (impl_said.calls kj2 _ _ ([] : List (S50)) _ _ t291 _ _ t294 t309 t312 _ ?side1 ?side2 ?side3 ?side4 ?side5 ?side6 A35.out).mono ?_); (case side1 => exact Kd.C_nil _ _); (case side2 => exact Nat.le_refl _); (case side3 => refine (Kd.R_reads' (e := 3) (base := w.heap.size) (ok := fun k_ => some k_ ≠ (.slice Ao42 t294.length co42 : Value).ownBlock) (n := t291.length) (c := co41) ?_).2.2; exact (rC (a := by exact (Kd.R_mono (Kd.R_far (p := ⟨gb284, 0, none⟩) (Kd.R_far (p := ⟨gb284, 2, none⟩) (Kd.R_far (p := ⟨gb284, 1, none⟩) (Kd.R_far (p := ⟨gb284, 0, none⟩) (Kd.R_types HO293.out BK284.out (by decide)) (fun _ hk => hk.2) (.slice Ao39 t288.length co39)) (fun _ hk => hk.2) (.slice Ao41 t291.length co41)) (fun _ hk => hk.2) (.slice Ao42 t294.length co42)) (fun _ hk => hk.2) (.slice none 0 0)) (fun _ h_ => h_.1))))); (case side4 => exact (Kd.R_reads' HO293.out).2.1); (case side5 => refine (Kd.R_reads' (e := 3) (base := w.heap.size) (ok := fun k_ => some k_ ≠ (.slice Ao41 t291.length co41 : Value).ownBlock) (n := t294.length) (c := co42) ?_).2.2; exact (rC (a := by exact (Kd.R_mono (Kd.R_far (p := ⟨gb284, 0, none⟩) (Kd.R_far (p := ⟨gb284, 2, none⟩) (Kd.R_far (p := ⟨gb284, 1, none⟩) (Kd.R_far (p := ⟨gb284, 0, none⟩) (Kd.R_types HO296.out BK284.out (by decide)) (fun _ hk => hk.2) (.slice Ao39 t288.length co39)) (fun _ hk => hk.2) (.slice Ao41 t291.length co41)) (fun _ hk => hk.2) (.slice Ao42 t294.length co42)) (fun _ hk => hk.2) (.slice none 0 0)) (fun _ h_ => h_.1))))); (case side6 => exact (Kd.R_reads' HO296.out).2.1); rintro e w43 ⟨v310, v313, rfl, ho0, ho1, hb⟩; refine ⟨_, rfl, ?_⟩; have n0_ := mk0 (Kd.R_below (rC (a := by exact (Kd.R_mono (Kd.R_far (p := ⟨gb284, 0, none⟩) (Kd.R_far (p := ⟨gb284, 2, none⟩) (Kd.R_far (p := ⟨gb284, 1, none⟩) (Kd.R_far (p := ⟨gb284, 0, none⟩) (Kd.R_types HO290.out BK284.out (by decide)) (fun _ hk => hk.2) (.slice Ao39 t288.length co39)) (fun _ hk => hk.2) (.slice Ao41 t291.length co41)) (fun _ hk => hk.2) (.slice Ao42 t294.length co42)) (fun _ hk => hk.2) (.slice none 0 0)) (fun _ h_ => h_.1)))) hb); have n1_ := mk0 (Kd.R_mono (Kd.R_told (Kd.R_told (Kd.R_old (rC (a := by exact (Kd.R_mono (Kd.R_far (p := ⟨gb284, 0, none⟩) (Kd.R_far (p := ⟨gb284, 2, none⟩) (Kd.R_far (p := ⟨gb284, 1, none⟩) (Kd.R_far (p := ⟨gb284, 0, none⟩) (Kd.R_types HO293.out BK284.out (by decide)) (fun _ hk => hk.2) (.slice Ao39 t288.length co39)) (fun _ hk => hk.2) (.slice Ao41 t291.length co41)) (fun _ hk => hk.2) (.slice Ao42 t294.length co42)) (fun _ hk => hk.2) (.slice none 0 0)) (fun _ h_ => h_.1)))) hb) (Kd.R_base ho0)) (Kd.R_base ho1)) (fun _ h_ => h_.1)); have n2_ := mk0 (Kd.R_mono (Kd.R_told (Kd.R_told (Kd.R_old (rC (a := by exact (Kd.R_mono (Kd.R_far (p := ⟨gb284, 0, none⟩) (Kd.R_far (p := ⟨gb284, 2, none⟩) (Kd.R_far (p := ⟨gb284, 1, none⟩) (Kd.R_far (p := ⟨gb284, 0, none⟩) (Kd.R_types HO296.out BK284.out (by decide)) (fun _ hk => hk.2) (.slice Ao39 t288.length co39)) (fun _ hk => hk.2) (.slice Ao41 t291.length co41)) (fun _ hk => hk.2) (.slice Ao42 t294.length co42)) (fun _ hk => hk.2) (.slice none 0 0)) (fun _ h_ => h_.1)))) hb) (Kd.R_base ho0)) (Kd.R_base ho1)) (fun _ h_ => h_.1)); have n3_ := mk0 (Kd.R_lower (Kd.R_new' (Kd.R_new' ho0 (Kd.R_lt (rC (a := by exact (Kd.R_mono (Kd.R_far (p := ⟨gb284, 0, none⟩) (Kd.R_far (p := ⟨gb284, 2, none⟩) (Kd.R_far (p := ⟨gb284, 1, none⟩) (Kd.R_far (p := ⟨gb284, 0, none⟩) (Kd.R_types HO293.out BK284.out (by decide)) (fun _ hk => hk.2) (.slice Ao39 t288.length co39)) (fun _ hk => hk.2) (.slice Ao41 t291.length co41)) (fun _ hk => hk.2) (.slice Ao42 t294.length co42)) (fun _ hk => hk.2) (.slice none 0 0)) (fun _ h_ => h_.1)))))) (Kd.R_lt (rC (a := by exact (Kd.R_mono (Kd.R_far (p := ⟨gb284, 0, none⟩) (Kd.R_far (p := ⟨gb284, 2, none⟩) (Kd.R_far (p := ⟨gb284, 1, none⟩) (Kd.R_far (p := ⟨gb284, 0, none⟩) (Kd.R_types HO296.out BK284.out (by decide)) (fun _ hk => hk.2) (.slice Ao39 t288.length co39)) (fun _ hk => hk.2) (.slice Ao41 t291.length co41)) (fun _ hk => hk.2) (.slice Ao42 t294.length co42)) (fun _ hk => hk.2) (.slice none 0 0)) (fun _ h_ => h_.1)))))) (below_size (hA HB.out))); have n4_ := mk0 (Kd.R_lower (Kd.R_new' (Kd.R_new' ho1 (Kd.R_lt (rC (a := by exact (Kd.R_mono (Kd.R_far (p := ⟨gb284, 0, none⟩) (Kd.R_far (p := ⟨gb284, 2, none⟩) (Kd.R_far (p := ⟨gb284, 1, none⟩) (Kd.R_far (p := ⟨gb284, 0, none⟩) (Kd.R_types HO293.out BK284.out (by decide)) (fun _ hk => hk.2) (.slice Ao39 t288.length co39)) (fun _ hk => hk.2) (.slice Ao41 t291.length co41)) (fun _ hk => hk.2) (.slice Ao42 t294.length co42)) (fun _ hk => hk.2) (.slice none 0 0)) (fun _ h_ => h_.1)))))) (Kd.R_lt (rC (a := by exact (Kd.R_mono (Kd.R_far (p := ⟨gb284, 0, none⟩) (Kd.R_far (p := ⟨gb284, 2, none⟩) (Kd.R_far (p := ⟨gb284, 1, none⟩) (Kd.R_far (p := ⟨gb284, 0, none⟩) (Kd.R_types HO296.out BK284.out (by decide)) (fun _ hk => hk.2) (.slice Ao39 t288.length co39)) (fun _ hk => hk.2) (.slice Ao41 t291.length co41)) (fun _ hk => hk.2) (.slice Ao42 t294.length co42)) (fun _ hk => hk.2) (.slice none 0 0)) (fun _ h_ => h_.1)))))) (below_size (hA HB.out))); have n5_ := mk0 (blk_below (g := gb284) (o := .cells #[.slice none 0 0, .slice Ao41 t291.length co41, .slice Ao42 t294.length co42] 29 (0, 0)) (by refine bC (a := ?_); refine blk_put (cs := #[.slice Ao39 t288.length co39, .slice Ao41 t291.length co41, .slice Ao42 t294.length co42]) ?_ 0 _ rfl; refine bC (a := ?_); refine blk_put (cs := #[.slice Ao39 t288.length co39, .slice Ao41 t291.length co41, .slice Ar lr.length cr]) ?_ 2 _ rfl; refine bC (a := ?_); refine blk_put (cs := #[.slice Ao39 t288.length co39, .slice Aq lq.length cq, .slice Ar lr.length cr]) ?_ 1 _ rfl; refine bC (a := ?_); refine blk_put (cs := #[.slice Ap lp.length cp, .slice Aq lq.length cq, .slice Ar lr.length cr]) ?_ 0 _ rfl; refine bC (a := ?_); exact BK284.out) hb); have n6_ := mk0 (blk_below (g := gb285) (o := .cells #[.slice none 0 0, .slice none 0 0, .slice none 0 0] 29 (0, 0)) (by refine bC (a := ?_); refine blk_far ?_ NB285_284.out _; refine bC (a := ?_); refine blk_far ?_ NB285_284.out _; refine bC (a := ?_); refine blk_far ?_ NB285_284.out _; refine bC (a := ?_); refine blk_far ?_ NB285_284.out _; refine bC (a := ?_); exact BK285.out) hb); have n7_ := mk0 (below_step (hA HB.out) hb); clear HO290; clear HO293; clear HO296; clear BK284; clear BK285; clear HB; have HO290 := n0_; have HO293 := n1_; have HO296 := n2_; have HO311 := n3_; have HO314 := n4_; have BK284 := n5_; have BK285 := n6_; have HB := n7_; clear n0_ n1_ n2_ n3_ n4_ n5_ n6_ n7_; (try clear hb); (try clear hb2); (try clear hk); (try clear hi); (try clear ho0); (try clear ho1); obtain ⟨Ao44, co44, eo44⟩ := Kd.R_slice HO311.out; subst eo44; have hcz45_0 : w43.cell? ⟨gb284, 0, none⟩ = some (.slice none 0 0) := (blk_cell BK284.out 0).trans rfl; have hcz45_1 : w43.cell? ⟨gb284, 1, none⟩ = some (.slice Ao41 t291.length co41) := (blk_cell BK284.out 1).trans rfl; have hcz45_2 : w43.cell? ⟨gb284, 2, none⟩ = some (.slice Ao42 t294.length co42) := (blk_cell BK284.out 2).trans rfl; have hfz45_0 := blk_frozen BK284.out 0; have hfz45_1 := blk_frozen BK284.out 1; have hfz45_2 := blk_frozen BK284.out 2; obtain ⟨Ao46, co46, eo46⟩ := Kd.R_slice HO314.out; subst eo46; have hcz47_0 : w43.cell? ⟨gb285, 0, none⟩ = some (.slice none 0 0) := (blk_cell BK285.out 0).trans rfl; have hcz47_1 : w43.cell? ⟨gb285, 1, none⟩ = some (.slice none 0 0) := (blk_cell BK285.out 1).trans rfl; have hcz47_2 : w43.cell? ⟨gb285, 2, none⟩ = some (.slice none 0 0) := (blk_cell BK285.out 2).trans rfl; have hfz47_0 := blk_frozen BK285.out 0; have hfz47_1 := blk_frozen BK285.out 1; have hfz47_2 := blk_frozen BK285.out 2))
      refine bodyPost_ret (results_ct rfl _ _ gb285 29 #[.slice none 0 0, .slice Ao44 t309.length co44, .slice Ao46 t312.length co46] (0, 0) _ rfl (by refine bC (a := ?_); refine blk_put (cs := #[.slice none 0 0, .slice Ao44 t309.length co44, .slice none 0 0]) ?_ 2 _ rfl; refine bC (a := ?_); refine blk_put (cs := #[.slice none 0 0, .slice none 0 0, .slice none 0 0]) ?_ 1 _ rfl; refine bC (a := ?_); refine blk_put (cs := #[.slice none 0 0, .slice none 0 0, .slice none 0 0]) ?_ 0 _ rfl; refine bC (a := ?_); refine blk_far ?_ NB285_284.out _; refine bC (a := ?_); refine blk_far ?_ NB285_284.out _; refine bC (a := ?_); exact BK285.out) Try.underlying29 rfl (by kernel_rfl)) rfl ?_
      exact ⟨_, _, _, er, by first | exact Kd.R_nil _ _ _ _ _ | exact Kd.N_nil _ _ _ _ _ | exact Kd.V_nil _ _ _ _ _ | exact Kd.Q_nil _ _ _ _ _ | exact Kd.S_nil _ _ _ _ _, by refine rC (a := ?_); exact Kd.R_mono (Kd.R_far (p := ⟨gb285, 2, none⟩) (Kd.R_far (p := ⟨gb285, 1, none⟩) (Kd.R_far (p := ⟨gb285, 0, none⟩) (Kd.R_far (p := ⟨gb284, 2, none⟩) (Kd.R_far (p := ⟨gb284, 1, none⟩) (Kd.R_types (Kd.R_types HO311.out BK284.out (by decide)) BK285.out (by decide)) (fun _ hk => hk.1.2) (.slice Ao44 t309.length co44)) (fun _ hk => hk.1.2) (.slice Ao46 t312.length co46)) (fun _ hk => hk.2) (.slice none 0 0)) (fun _ hk => hk.2) (.slice Ao44 t309.length co44)) (fun _ hk => hk.2) (.slice Ao46 t312.length co46)) (fun _ hk => hk.1.1.1.1), by refine rC (a := ?_); exact Kd.R_mono (Kd.R_far (p := ⟨gb285, 2, none⟩) (Kd.R_far (p := ⟨gb285, 1, none⟩) (Kd.R_far (p := ⟨gb285, 0, none⟩) (Kd.R_far (p := ⟨gb284, 2, none⟩) (Kd.R_far (p := ⟨gb284, 1, none⟩) (Kd.R_types (Kd.R_types HO314.out BK284.out (by decide)) BK285.out (by decide)) (fun _ hk => hk.1.2) (.slice Ao44 t309.length co44)) (fun _ hk => hk.1.2) (.slice Ao46 t312.length co46)) (fun _ hk => hk.2) (.slice none 0 0)) (fun _ hk => hk.2) (.slice Ao44 t309.length co44)) (fun _ hk => hk.2) (.slice Ao46 t312.length co46)) (fun _ hk => hk.1.1.1.1), hA HB.out⟩
     ·rw [if_neg c34] at H
      have c34b0 : (a1 == 3) = false := beq_eq_false_iff_ne.mpr c34
      have c34b1 : (a1 != 3) = true := bne_iff_ne.mpr c34
      simp only [Option.some.injEq, Prod.mk.injEq] at H
      obtain ⟨rfl, rfl, rfl, rfl⟩ := H
      have hnb48 := NB284_285.out
      have hnc48 := NB285_284.out
      have hcz49_0 : wc.cell? ⟨gb284, 0, none⟩ = some (.slice Ap lp.length cp) := (blk_cell BK284.out 0).trans rfl
      have hcz49_1 : wc.cell? ⟨gb284, 1, none⟩ = some (.slice Aq lq.length cq) := (blk_cell BK284.out 1).trans rfl
      have hcz49_2 : wc.cell? ⟨gb284, 2, none⟩ = some (.slice Ar lr.length cr) := (blk_cell BK284.out 2).trans rfl
      have hfz49_0 := blk_frozen BK284.out 0
      have hfz49_1 := blk_frozen BK284.out 1
      have hfz49_2 := blk_frozen BK284.out 2
      go_wp2_with (first | ((with_reducible refine gate_callee (f := 55) rfl ?_); refine goesL_ (some 16) rfl rfl Try.func55 (by kernel_rfl) rfl #[.agg #[.slice Ap lp.length cp, .slice Aq lq.length cq, .slice Ar lr.length cr]] rfl ar ?_; (with_reducible refine (impl_ownBook.calls kj2 _ _ lp _ _ lq _ _ lr t288 t291 t294 _ ?side1 ?side2 ?side3 ?side4 ?side5 ?side6 A18.out).mono ?_); (case side1 => exact cA (Kd.C_below HR0_0.out HB.out)); (case side2 => exact HC0_0.out); (case side3 => exact cA (Kd.C_below HR0_1.out HB.out)); (case side4 => exact HC0_1.out); (case side5 => exact cA (Kd.C_below HR0_2.out HB.out)); (case side6 => exact HC0_2.out); rintro e w50 ⟨v289, v292, v295, rfl, ho0, ho1, ho2, hb⟩; refine ⟨_, rfl, ?_⟩; have n0_ := mk0 (Kd.R_lower ho0 (below_size (hA HB.out))); have n1_ := mk0 (Kd.R_lower ho1 (below_size (hA HB.out))); have n2_ := mk0 (Kd.R_lower ho2 (below_size (hA HB.out))); have n3_ := mk0 (bB BK284.out hb); have n4_ := mk0 (bB BK285.out hb); have n5_ := mk0 (below_step (hA HB.out) hb); clear BK284; clear BK285; clear HB; have HO290 := n0_; have HO293 := n1_; have HO296 := n2_; have BK284 := n3_; have BK285 := n4_; have HB := n5_; clear n0_ n1_ n2_ n3_ n4_ n5_; (try clear hb); (try clear hb2); (try clear hk); (try clear hi); (try clear ho0); (try clear ho1); (try clear ho2); obtain ⟨Ao51, co51, eo51⟩ := Kd.R_slice HO290.out; subst eo51; have hcz52_0 : w50.cell? ⟨gb284, 0, none⟩ = some (.slice Ap lp.length cp) := (blk_cell BK284.out 0).trans rfl; have hcz52_1 : w50.cell? ⟨gb284, 1, none⟩ = some (.slice Aq lq.length cq) := (blk_cell BK284.out 1).trans rfl; have hcz52_2 : w50.cell? ⟨gb284, 2, none⟩ = some (.slice Ar lr.length cr) := (blk_cell BK284.out 2).trans rfl; have hfz52_0 := blk_frozen BK284.out 0; have hfz52_1 := blk_frozen BK284.out 1; have hfz52_2 := blk_frozen BK284.out 2; obtain ⟨Ao53, co53, eo53⟩ := Kd.R_slice HO293.out; subst eo53; obtain ⟨Ao54, co54, eo54⟩ := Kd.R_slice HO296.out; subst eo54; have hcz55_0 : w50.cell? ⟨gb285, 0, none⟩ = some (.slice none 0 0) := (blk_cell BK285.out 0).trans rfl; have hcz55_1 : w50.cell? ⟨gb285, 1, none⟩ = some (.slice none 0 0) := (blk_cell BK285.out 1).trans rfl; have hcz55_2 : w50.cell? ⟨gb285, 2, none⟩ = some (.slice none 0 0) := (blk_cell BK285.out 2).trans rfl; have hfz55_0 := blk_frozen BK285.out 0; have hfz55_1 := blk_frozen BK285.out 1; have hfz55_2 := blk_frozen BK285.out 2))
      refine bodyPost_ret (results_ct rfl _ _ gb285 29 #[.slice Ao51 t288.length co51, .slice Ao53 t291.length co53, .slice Ao54 t294.length co54] (0, 0) _ rfl (by refine bC (a := ?_); refine blk_put (cs := #[.slice Ao51 t288.length co51, .slice Ao53 t291.length co53, .slice none 0 0]) ?_ 2 _ rfl; refine bC (a := ?_); refine blk_put (cs := #[.slice Ao51 t288.length co51, .slice none 0 0, .slice none 0 0]) ?_ 1 _ rfl; refine bC (a := ?_); refine blk_put (cs := #[.slice none 0 0, .slice none 0 0, .slice none 0 0]) ?_ 0 _ rfl; refine bC (a := ?_); refine blk_far ?_ NB285_284.out _; refine bC (a := ?_); refine blk_far ?_ NB285_284.out _; refine bC (a := ?_); refine blk_far ?_ NB285_284.out _; refine bC (a := ?_); exact BK285.out) Try.underlying29 rfl (by kernel_rfl)) rfl ?_
      exact ⟨_, _, _, er, by refine rC (a := ?_); exact Kd.R_mono (Kd.R_far (p := ⟨gb285, 2, none⟩) (Kd.R_far (p := ⟨gb285, 1, none⟩) (Kd.R_far (p := ⟨gb285, 0, none⟩) (Kd.R_far (p := ⟨gb284, 2, none⟩) (Kd.R_far (p := ⟨gb284, 1, none⟩) (Kd.R_far (p := ⟨gb284, 0, none⟩) (Kd.R_types (Kd.R_types HO290.out BK284.out (by decide)) BK285.out (by decide)) (fun _ hk => hk.1.2) (.slice Ao51 t288.length co51)) (fun _ hk => hk.1.2) (.slice Ao53 t291.length co53)) (fun _ hk => hk.1.2) (.slice Ao54 t294.length co54)) (fun _ hk => hk.2) (.slice Ao51 t288.length co51)) (fun _ hk => hk.2) (.slice Ao53 t291.length co53)) (fun _ hk => hk.2) (.slice Ao54 t294.length co54)) (fun _ hk => trivial), by refine rC (a := ?_); exact Kd.R_mono (Kd.R_far (p := ⟨gb285, 2, none⟩) (Kd.R_far (p := ⟨gb285, 1, none⟩) (Kd.R_far (p := ⟨gb285, 0, none⟩) (Kd.R_far (p := ⟨gb284, 2, none⟩) (Kd.R_far (p := ⟨gb284, 1, none⟩) (Kd.R_far (p := ⟨gb284, 0, none⟩) (Kd.R_types (Kd.R_types HO293.out BK284.out (by decide)) BK285.out (by decide)) (fun _ hk => hk.1.2) (.slice Ao51 t288.length co51)) (fun _ hk => hk.1.2) (.slice Ao53 t291.length co53)) (fun _ hk => hk.1.2) (.slice Ao54 t294.length co54)) (fun _ hk => hk.2) (.slice Ao51 t288.length co51)) (fun _ hk => hk.2) (.slice Ao53 t291.length co53)) (fun _ hk => hk.2) (.slice Ao54 t294.length co54)) (fun _ hk => hk.1.1), by refine rC (a := ?_); exact Kd.R_mono (Kd.R_far (p := ⟨gb285, 2, none⟩) (Kd.R_far (p := ⟨gb285, 1, none⟩) (Kd.R_far (p := ⟨gb285, 0, none⟩) (Kd.R_far (p := ⟨gb284, 2, none⟩) (Kd.R_far (p := ⟨gb284, 1, none⟩) (Kd.R_far (p := ⟨gb284, 0, none⟩) (Kd.R_types (Kd.R_types HO296.out BK284.out (by decide)) BK285.out (by decide)) (fun _ hk => hk.1.2) (.slice Ao51 t288.length co51)) (fun _ hk => hk.1.2) (.slice Ao53 t291.length co53)) (fun _ hk => hk.1.2) (.slice Ao54 t294.length co54)) (fun _ hk => hk.2) (.slice Ao51 t288.length co51)) (fun _ hk => hk.2) (.slice Ao53 t291.length co53)) (fun _ hk => hk.2) (.slice Ao54 t294.length co54)) (fun _ hk => hk.1.1), hA HB.out⟩
end Go.Proofs.Ytngnkfpciloamaa.MFnBooked
