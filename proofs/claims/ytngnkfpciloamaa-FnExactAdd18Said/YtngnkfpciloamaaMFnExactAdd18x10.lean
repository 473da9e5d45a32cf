/- The functions that the law FnExactAdd18 reaches, as plain functions, and that the code comes to them. Begun as a text of the print over stubs; turned by wip/handstub.py and wip/mend.py. -/
import Derived.Test.YtngnkfpciloamaaShortFnExactAdd18
import Derived.Test.YtngnkfpciloamaaHandBookFnExactAdd18
import Derived.Test.YtngnkfpciloamaaMFnExactAdd18x0
import Derived.Test.YtngnkfpciloamaaMFnExactAdd18x7
import Derived.Test.YtngnkfpciloamaaMFnExactAdd18x8
import Derived.Test.YtngnkfpciloamaaMFnExactAdd18x9
namespace Go.Proofs.Ytngnkfpciloamaa.MFnExactAdd18
open Go.RowKit Go.Proofs.YtngnkfpciloamaaW.PrintWords Go.Proofs.YtngnkfpciloamaaW.PrintLast Go.Proofs.YtngnkfpciloamaaW.PrintMore
attribute [local go_sem] max2_int min2_int max_two min_two max_three min_three max_four min_four   -- for this text's walks alone
set_option linter.unusedVariables false
set_option linter.unusedSimpArgs false

/-! ### slices_Clone_int_int: function 41 -/
def slices_Clone_int_int.f (k : Nat) (l0 : List Int) : Option (List Int) := if l0.length ≤ 1048576 then some l0 else none
theorem slices_Clone_int_int.mono : ∀ a0 k, LeO (slices_Clone_int_int.f k a0) (slices_Clone_int_int.f (k + 1) a0) := fun _ _ => LeO.refl _
theorem slices_Clone_int_int.calls (k : Nat) (A0 : Option Addr) (c0 : Nat) (l0 : List Int) (r : List Int) (w : World) (hr0 : Kd.C (Kd.int .i64) w A0 l0.length l0) (hc0 : l0.length ≤ c0) (h : slices_Clone_int_int.f k l0 = some r) :
  Calls Try.prog 41 #[.slice A0 l0.length c0] w fun e w' => ∃ v0_ : Value, e = .returned (v0_) ∧ Kd.R (Kd.int .i64) 3 w' w.heap.size (fun _ => True) v0_ r ∧ Below w.heap.size w w' := by
 unfold slices_Clone_int_int.f at h
 split at h
 ·obtain rfl := Option.some.inj h
  exact clone_calls A0 c0 _ w hr0 hc0 (by assumption)
 ·cases h

/-! ### impl_Talk_66: function 66 -/
def impl_Talk_66.f (l0 : List (S50)) : Option (List (S50)) := if l0.length ≤ 1048576 then some l0 else none
theorem impl_Talk_66.calls (A0 : Option Addr) (c0 : Nat) (l0 : List (S50)) (r : List (S50)) (w : World) (hr0 : Kd.C k50 w A0 l0.length l0) (hc0 : l0.length ≤ c0) (h : impl_Talk_66.f l0 = some r) :
  Calls Try.prog 66 #[.slice A0 l0.length c0] w fun e w' => ∃ v0_ : Value, e = .returned (v0_) ∧ Kd.R k50 50 w' w.heap.size (fun _ => True) v0_ r ∧ Below w.heap.size w w' := by
 unfold impl_Talk_66.f at h
 split at h
 ·obtain rfl := Option.some.inj h
  exact cloneT_calls A0 c0 _ w hr0 hc0 (by assumption)
 ·cases h

/-! ### impl_ownBook: function 55 -/
def impl_ownBook.f (k : Nat) (l0_0 : List (S50)) (l0_1 : List Int) (l0_2 : List Int) : Option ((List (S50)) × List Int × List Int) := (impl_Talk_66.f l0_0).bind fun t308 => ((slices_Clone_int_int.f k l0_1).bind fun t311 => ((slices_Clone_int_int.f k l0_2).bind fun t314 => (some (t308, t311, t314))))
theorem impl_ownBook.mono : ∀ a0 a1 a2 k, LeO (impl_ownBook.f k a0 a1 a2) (impl_ownBook.f (k + 1) a0 a1 a2) := by
 intro a0 a1 a2 k
 unfold impl_ownBook.f
 repeat' first
   | (with_reducible exact slices_Clone_int_int.mono _ _)
   | (with_reducible exact LeO.refl _)
   | (with_reducible exact LeO.none _)
   | (with_reducible refine LeO.ite ?_ ?_)
   | (with_reducible refine LeO.bind ?_ (fun _ => ?_))
   | exact slices_Clone_int_int.mono _ _
   | exact LeO.none _
   | refine LeO.ite ?_ ?_
   | refine LeO.bind ?_ (fun _ => ?_)
def impl_ownBook.T1 : Bool × List (List Nat × List Nat) := (true, [([], []), ([0], [0]), ([1], [1]), ([], []), ([3], [3]), ([4, 2], [4]), ([], []), ([6], [6]), ([7, 5], [7]), ([2, 5, 8], [2, 5, 8]), ([9, 8, 0, 1, 2, 3, 4, 5, 6, 7, 8, 9], [9])])
def impl_ownBook.B1 : List Nat := [0, 1, 3, 0, 8, 31, 0, 64, 255, 511, 1023]
theorem impl_ownBook.tab1 : rtab .any (opsOf Try.f55 1) = impl_ownBook.T1 := by kernel_rfl
theorem impl_ownBook.bits1 : waitsOk impl_ownBook.T1.2 impl_ownBook.B1 = true := by kernel_rfl
set_option maxHeartbeats 8000000 in
set_option maxRecDepth 100000 in
theorem impl_ownBook.calls (k : Nat) (A0_0 : Option Addr) (c0_0 : Nat) (l0_0 : List (S50)) (A0_1 : Option Addr) (c0_1 : Nat) (l0_1 : List Int) (A0_2 : Option Addr) (c0_2 : Nat) (l0_2 : List Int) (r1 : List (S50)) (r2 : List Int) (r3 : List Int) (w : World) (hr0_0 : Kd.C k50 w A0_0 l0_0.length l0_0) (hc0_0 : l0_0.length ≤ c0_0) (hr0_1 : Kd.C (Kd.int .i64) w A0_1 l0_1.length l0_1) (hc0_1 : l0_1.length ≤ c0_1) (hr0_2 : Kd.C (Kd.int .i64) w A0_2 l0_2.length l0_2) (hc0_2 : l0_2.length ≤ c0_2) (h : impl_ownBook.f k l0_0 l0_1 l0_2 = some (r1, r2, r3)) :
  Calls Try.prog 55 #[.agg #[.slice A0_0 l0_0.length c0_0, .slice A0_1 l0_1.length c0_1, .slice A0_2 l0_2.length c0_2]] w fun e w' => ∃ v0_ v1_ v2_ : Value, e = .returned (.agg #[v0_, v1_, v2_]) ∧ Kd.R k50 50 w' w.heap.size (fun _ => True) v0_ r1 ∧ Kd.R (Kd.int .i64) 3 w' w.heap.size (fun k_ => some k_ ≠ (v2_ : Value).ownBlock) v1_ r2 ∧ Kd.R (Kd.int .i64) 3 w' w.heap.size (fun k_ => some k_ ≠ (v1_ : Value).ownBlock) v2_ r3 ∧ Below w.heap.size w w' := by
 have hu29 := Try.underlying29
 have HR0_0 := Aside0.mk hr0_0
 have HC0_0 := Aside0.mk hc0_0
 clear hr0_0 hc0_0
 have HR0_1 := Aside0.mk hr0_1
 have HC0_1 := Aside0.mk hc0_1
 clear hr0_1 hc0_1
 have HR0_2 := Aside0.mk hr0_2
 have HC0_2 := Aside0.mk hc0_2
 clear hr0_2 hc0_2
 have HB := Aside0.mk (Below.refl w.heap.size w)
 have H : ((impl_Talk_66.f l0_0).bind fun t308 => ((slices_Clone_int_int.f k l0_1).bind fun t311 => ((slices_Clone_int_int.f k l0_2).bind fun t314 => (some (t308, t311, t314))))) = some (r1, r2, r3) := h
 clear h
 replace H := Option.bind_eq_some_iff.mp H
 obtain ⟨t308, A20, H⟩ := H
 replace H : ((slices_Clone_int_int.f k l0_1).bind fun t311 => ((slices_Clone_int_int.f k l0_2).bind fun t314 => (some (t308, t311, t314)))) = some (r1, r2, r3) := H
 have A2 := Aside0.mk A20
 clear A20
 replace H := Option.bind_eq_some_iff.mp H
 obtain ⟨t311, A30, H⟩ := H
 replace H : ((slices_Clone_int_int.f k l0_2).bind fun t314 => (some (t308, t311, t314))) = some (r1, r2, r3) := H
 have A3 := Aside0.mk A30
 clear A30
 replace H := Option.bind_eq_some_iff.mp H
 obtain ⟨t314, A40, H⟩ := H
 replace H : (some (t308, t311, t314)) = some (r1, r2, r3) := H
 have A4 := Aside0.mk A40
 clear A40
 simp only [Option.some.injEq, Prod.mk.injEq] at H
 obtain ⟨rfl, rfl, rfl⟩ := H
 go_enter Try.func55, Try.ntmps55
 try go_wp2_with (first | ((with_reducible refine gate_dst (N := 1) rfl ?_); refine box_event ?hg (N := 1) ?hd (cs := #[.slice A0_0 l0_0.length c0_0, .slice A0_1 l0_1.length c0_1, .slice A0_2 l0_2.length c0_2]) (t := 29) ?hr ?_; (case hd => rfl); (case hg => rfl); (case hr => first | (go_simp; done) | (go_simp; rfl)); intro gb306 hg w5 hbox hb; have n0_ := Aside0.mk (below_step (hA HB.out) hb); have n1_ := Aside0.mk (hbox); have n2_ := Aside0.mk ((by rw [hg]; exact (below_size (hA HB.out)) : w.heap.size ≤ gb306)); have n3_ := Aside0.mk ((by rw [hg]; exact (below_size (hA HB.out)) : w.heap.size ≤ gb306)); clear HB; have HB := n0_; have BK306 := n1_; have GW306 := n2_; have GE306 := n3_; clear n0_ n1_ n2_ n3_; clear hb hbox hg) | ((with_reducible refine gate_dst (N := 2) rfl ?_); refine box_event ?hg (N := 2) ?hd (cs := #[.slice none 0 0, .slice none 0 0, .slice none 0 0]) (t := 29) ?hr ?_; (case hd => rfl); (case hg => rfl); (case hr => first | (go_simp; done) | (go_simp; rfl)); intro gb307 hg w6 hbox hb; have n0_ := Aside0.mk (bB BK306.out hb); have n1_ := Aside0.mk (below_step (hA HB.out) hb); have n2_ := Aside0.mk (hbox); have n3_ := Aside0.mk ((by rw [hg]; exact (below_size (hA HB.out)) : w.heap.size ≤ gb307)); have n4_ := Aside0.mk ((by rw [hg]; exact (below_size (hA HB.out)) : w.heap.size ≤ gb307)); have n5_ := Aside0.mk ((by rw [hg]; exact Nat.ne_of_lt (blk_lt (g := gb306) (o := .cells #[.slice A0_0 l0_0.length c0_0, .slice A0_1 l0_1.length c0_1, .slice A0_2 l0_2.length c0_2] 29 (0, 0)) (bA BK306.out)) : gb306 ≠ gb307)); have n6_ := Aside0.mk ((by rw [hg]; exact Nat.ne_of_gt (blk_lt (g := gb306) (o := .cells #[.slice A0_0 l0_0.length c0_0, .slice A0_1 l0_1.length c0_1, .slice A0_2 l0_2.length c0_2] 29 (0, 0)) (bA BK306.out)) : gb307 ≠ gb306)); clear BK306; clear HB; have BK306 := n0_; have HB := n1_; have BK307 := n2_; have GW307 := n3_; have GE307 := n4_; have NB306_307 := n5_; have NB307_306 := n6_; clear n0_ n1_ n2_ n3_ n4_ n5_ n6_; clear hb hbox hg))
 have n0_ := Aside0.mk (blk_drew BK306.out)
 have n1_ := Aside0.mk (blk_drew BK307.out)
 have n2_ := Aside0.mk (below_drew1 HB.out)
 clear BK306
 clear BK307
 clear HB
 have BK306 := n0_
 have BK307 := n1_
 have HB := n2_
 clear n0_ n1_ n2_
 refine start_ (n := 11) (S := fun w' => w'.cell? ⟨gb306, 0, none⟩ = some (.slice A0_0 l0_0.length c0_0) ∧ w'.cell? ⟨gb306, 1, none⟩ = some (.slice A0_1 l0_1.length c0_1) ∧ w'.cell? ⟨gb306, 2, none⟩ = some (.slice A0_2 l0_2.length c0_2)) (ds := []) #[false, false, false, false, false, false, false, false, false, false, false] (by kernel_rfl) rfl rfl ⟨(blk_cell BK306.out 0).trans rfl, (blk_cell BK306.out 1).trans rfl, (blk_cell BK306.out 2).trans rfl⟩ (fun hHeld => ?_); refine with_tabW impl_ownBook.tab1 impl_ownBook.bits1 (fun HT_ HW_ => ?_)
 generalize w6.drew = w7 at BK306 BK307 HB hHeld ⊢
 refine pure_ (i := 0) (N := some 3) (v := ?_) (a' := ?_) #[true, false, false, false, false, false, false, false, false, false, false] rfl rfl (any_of HT_.out (by kernel_rfl)) (fun _ _ _ h => h) (Or.inl ⟨by rfl, ?_⟩) ?_ ?_
 rotate_left
 ·intro w'
  go_simp
  with_reducible rfl
 rotate_left
 ·simp only [Act.put, List.setIfInBounds_toArray, List.set_cons_zero, List.set_cons_succ, i64_w, i32_w]
  rfl
 refine pure_ (i := 3) (N := some 6) (v := ?_) (a' := ?_) #[true, false, false, true, false, false, false, false, false, false, false] rfl rfl (any_of HT_.out (by kernel_rfl)) (fun _ _ _ h => h) (Or.inl ⟨by rfl, ?_⟩) ?_ ?_
 rotate_left
 ·intro w'
  go_simp
  with_reducible rfl
 rotate_left
 ·simp only [Act.put, List.setIfInBounds_toArray, List.set_cons_zero, List.set_cons_succ, i64_w, i32_w]
  rfl
 refine pure_ (i := 6) (N := some 9) (v := ?_) (a' := ?_) #[true, false, false, true, false, false, true, false, false, false, false] rfl rfl (any_of HT_.out (by kernel_rfl)) (fun _ _ _ h => h) (Or.inl ⟨by rfl, ?_⟩) ?_ ?_
 rotate_left
 ·intro w'
  go_simp
  with_reducible rfl
 rotate_left
 ·simp only [Act.put, List.setIfInBounds_toArray, List.set_cons_zero, List.set_cons_succ, i64_w, i32_w]
  rfl
 refine take_ (i := 1) (N := some 4) (v := ?_) (a' := ?_) #[true, true, false, true, false, false, true, false, false, false, false] rfl rfl (take_ofW HT_.out HW_.out (by kernel_rfl)) (fun _ _ _ h => h) (Or.inl ⟨by rfl, ?_⟩) hHeld ?_ ?_
 rotate_left
 ·rintro w' ⟨s0, s1, s2⟩
  go_simp
  with_reducible rfl
 rotate_left
 ·simp only [Act.put, List.setIfInBounds_toArray, List.set_cons_zero, List.set_cons_succ, i64_w, i32_w]
  rfl
 refine take_ (i := 4) (N := some 7) (v := ?_) (a' := ?_) #[true, true, false, true, true, false, true, false, false, false, false] rfl rfl (take_ofW HT_.out HW_.out (by kernel_rfl)) (fun _ _ _ h => h) (Or.inl ⟨by rfl, ?_⟩) hHeld ?_ ?_
 rotate_left
 ·rintro w' ⟨s0, s1, s2⟩
  go_simp
  with_reducible rfl
 rotate_left
 ·simp only [Act.put, List.setIfInBounds_toArray, List.set_cons_zero, List.set_cons_succ, i64_w, i32_w]
  rfl
 refine take_ (i := 7) (N := some 10) (v := ?_) (a' := ?_) #[true, true, false, true, true, false, true, true, false, false, false] rfl rfl (take_ofW HT_.out HW_.out (by kernel_rfl)) (fun _ _ _ h => h) (Or.inl ⟨by rfl, ?_⟩) hHeld ?_ ?_
 rotate_left
 ·rintro w' ⟨s0, s1, s2⟩
  go_simp
  with_reducible rfl
 rotate_left
 ·simp only [Act.put, List.setIfInBounds_toArray, List.set_cons_zero, List.set_cons_succ, i64_w, i32_w]
  rfl
 refine one_ (i := 2) (N := some 5) #[true, true, true, true, true, false, true, true, false, false, false] rfl rfl (one_of HT_.out (by kernel_rfl)) (by decide) (fun K hK => ?_)
 refine goes_ Try.func66 (by kernel_rfl) rfl #[.slice A0_0 l0_0.length c0_0] (by rfl) rfl rfl ar ?_
 with_reducible refine (impl_Talk_66.calls _ _ l0_0 t308 _ ?side1 ?side2 A2.out).mono ?_
 (case side1 => exact cA (Kd.C_below HR0_0.out HB.out))
 (case side2 => exact HC0_0.out)
 rintro e w8 ⟨v309, rfl, ho0, hb⟩
 refine ⟨_, rfl, ?_⟩
 have n0_ := Aside0.mk (Kd.R_lower ho0 (below_size (hA HB.out)))
 have n1_ := Aside0.mk (bB BK306.out hb)
 have n2_ := Aside0.mk (bB BK307.out hb)
 have n3_ := Aside0.mk (below_step (hA HB.out) hb)
 clear BK306
 clear BK307
 clear HB
 have HO310 := n0_
 have BK306 := n1_
 have BK307 := n2_
 have HB := n3_
 clear n0_ n1_ n2_ n3_
 (try clear hb)
 (try clear hb2)
 (try clear hk)
 (try clear hi)
 (try clear ho0)
 refine hK.out _ _ ⟨(blk_cell BK306.out 0).trans rfl, (blk_cell BK306.out 1).trans rfl, (blk_cell BK306.out 2).trans rfl⟩ (fun hHeld => ?_)
 clear hK K
 refine norm_ (a' := ?_) ?_ ?_
 rotate_left
 ·show Act.put _ (some 5) _ = _
  simp only [Act.put, List.setIfInBounds_toArray, List.set_cons_zero, List.set_cons_succ, i64_w, i32_w]
  rfl
 refine one_ (i := 5) (N := some 8) #[true, true, true, true, true, true, true, true, false, false, false] rfl rfl (one_of HT_.out (by kernel_rfl)) (by decide) (fun K hK => ?_)
 refine goes_ Try.func41 (by kernel_rfl) rfl #[.slice A0_1 l0_1.length c0_1] (by rfl) rfl rfl ar ?_
 with_reducible refine (slices_Clone_int_int.calls k _ _ l0_1 t311 _ ?side1 ?side2 A3.out).mono ?_
 (case side1 => exact cA (Kd.C_below HR0_1.out HB.out))
 (case side2 => exact HC0_1.out)
 rintro e w9 ⟨v312, rfl, ho0, hb⟩
 refine ⟨_, rfl, ?_⟩
 have n0_ := Aside0.mk (Kd.R_below (rA HO310.out) hb)
 have n1_ := Aside0.mk (Kd.R_lower ho0 (below_size (hA HB.out)))
 have n2_ := Aside0.mk (bB BK306.out hb)
 have n3_ := Aside0.mk (bB BK307.out hb)
 have n4_ := Aside0.mk (below_step (hA HB.out) hb)
 clear HO310
 clear BK306
 clear BK307
 clear HB
 have HO310 := n0_
 have HO313 := n1_
 have BK306 := n2_
 have BK307 := n3_
 have HB := n4_
 clear n0_ n1_ n2_ n3_ n4_
 (try clear hb)
 (try clear hb2)
 (try clear hk)
 (try clear hi)
 (try clear ho0)
 refine hK.out _ _ ⟨(blk_cell BK306.out 0).trans rfl, (blk_cell BK306.out 1).trans rfl, (blk_cell BK306.out 2).trans rfl⟩ (fun hHeld => ?_)
 clear hK K
 refine norm_ (a' := ?_) ?_ ?_
 rotate_left
 ·show Act.put _ (some 8) _ = _
  simp only [Act.put, List.setIfInBounds_toArray, List.set_cons_zero, List.set_cons_succ, i64_w, i32_w]
  rfl
 refine one_ (i := 8) (N := some 11) #[true, true, true, true, true, true, true, true, true, false, false] rfl rfl (one_of HT_.out (by kernel_rfl)) (by decide) (fun K hK => ?_)
 refine goes_ Try.func41 (by kernel_rfl) rfl #[.slice A0_2 l0_2.length c0_2] (by rfl) rfl rfl ar ?_
 with_reducible refine (slices_Clone_int_int.calls k _ _ l0_2 t314 _ ?side1 ?side2 A4.out).mono ?_
 (case side1 => exact cA (Kd.C_below HR0_2.out HB.out))
 (case side2 => exact HC0_2.out)
 rintro e w10 ⟨v315, rfl, ho0, hb⟩
 refine ⟨_, rfl, ?_⟩
 have n0_ := Aside0.mk (Kd.R_below (rA HO310.out) hb)
 have n1_ := Aside0.mk (Kd.R_elder' (rA HO313.out) (Kd.R_base ho0) hb)
 have n2_ := Aside0.mk (Kd.R_lower (Kd.R_new' ho0 (Kd.R_lt (rA HO313.out))) (below_size (hA HB.out)))
 have n3_ := Aside0.mk (bB BK306.out hb)
 have n4_ := Aside0.mk (bB BK307.out hb)
 have n5_ := Aside0.mk (below_step (hA HB.out) hb)
 clear HO310
 clear HO313
 clear BK306
 clear BK307
 clear HB
 have HO310 := n0_
 have HO313 := n1_
 have HO316 := n2_
 have BK306 := n3_
 have BK307 := n4_
 have HB := n5_
 clear n0_ n1_ n2_ n3_ n4_ n5_
 (try clear hb)
 (try clear hb2)
 (try clear hk)
 (try clear hi)
 (try clear ho0)
 obtain ⟨Ao11, co11, eo11⟩ := Kd.R_slice HO316.out
 (first | subst eo11 | (injection eo11 with f1_ f2_ f3_; have f4_ := f1_.symm; have f5_ := f3_.symm; clear f1_ f2_ f3_; subst f4_; subst f5_))
 obtain ⟨Ao12, co12, eo12⟩ := Kd.R_slice HO313.out
 (first | subst eo12 | (injection eo12 with f1_ f2_ f3_; have f4_ := f1_.symm; have f5_ := f3_.symm; clear f1_ f2_ f3_; subst f4_; subst f5_))
 obtain ⟨Ao13, co13, eo13⟩ := Kd.R_slice HO310.out
 (first | subst eo13 | (injection eo13 with f1_ f2_ f3_; have f4_ := f1_.symm; have f5_ := f3_.symm; clear f1_ f2_ f3_; subst f4_; subst f5_))
 refine hK.out _ _ ⟨(blk_cell BK306.out 0).trans rfl, (blk_cell BK306.out 1).trans rfl, (blk_cell BK306.out 2).trans rfl⟩ (fun hHeld => ?_)
 clear hK K
 refine norm_ (a' := ?_) ?_ ?_
 rotate_left
 ·show Act.put _ (some 11) _ = _
  simp only [Act.put, List.setIfInBounds_toArray, List.set_cons_zero, List.set_cons_succ, i64_w, i32_w]
  rfl
 refine pure_ (i := 9) (N := some 12) (v := ?_) (a' := ?_) #[true, true, true, true, true, true, true, true, true, true, false] rfl rfl (any_of HT_.out (by kernel_rfl)) (fun _ _ _ h => h) (Or.inl ⟨by rfl, ?_⟩) ?_ ?_
 rotate_left
 ·intro w'
  go_simp
  with_reducible rfl
 rotate_left
 ·simp only [Act.put, List.setIfInBounds_toArray, List.set_cons_zero, List.set_cons_succ, i64_w, i32_w]
  rfl
 refine one_ (i := 10) (N := none) #[true, true, true, true, true, true, true, true, true, true, true] rfl rfl (one_of HT_.out (by kernel_rfl)) (by decide) (fun K hK => ?_)
 have hs14 : w10.cell? ⟨gb307, 0, none⟩ = some (.slice none 0 0) := (blk_cell BK307.out 0).trans rfl
 have hfs14 := blk_frozen BK307.out 0
 have hns14_0 := NB306_307.out
 have hms14_0 := NB307_306.out
 have hs15 : w10.cell? ⟨gb307, 1, none⟩ = some (.slice none 0 0) := (blk_cell BK307.out 1).trans rfl
 have hfs15 := blk_frozen BK307.out 1
 have hns15_0 := NB306_307.out
 have hms15_0 := NB307_306.out
 have hs16 : w10.cell? ⟨gb307, 2, none⟩ = some (.slice none 0 0) := (blk_cell BK307.out 2).trans rfl
 have hfs16 := blk_frozen BK307.out 2
 have hns16_0 := NB306_307.out
 have hms16_0 := NB307_306.out
 refine skip_ (w1 := ?_) (by rfl) rfl ?_ ?_
 rotate_left
 ·go_simp
  rfl
 refine hK.out _ _ ⟨((cell_far (p := ⟨gb307, _, none⟩) NB306_307.out _).trans (((cell_far (p := ⟨gb307, _, none⟩) NB306_307.out _).trans (((cell_far (p := ⟨gb307, _, none⟩) NB306_307.out _).trans (hHeld.1)))))), ((cell_far (p := ⟨gb307, _, none⟩) NB306_307.out _).trans (((cell_far (p := ⟨gb307, _, none⟩) NB306_307.out _).trans (((cell_far (p := ⟨gb307, _, none⟩) NB306_307.out _).trans (hHeld.2.1)))))), ((cell_far (p := ⟨gb307, _, none⟩) NB306_307.out _).trans (((cell_far (p := ⟨gb307, _, none⟩) NB306_307.out _).trans (((cell_far (p := ⟨gb307, _, none⟩) NB306_307.out _).trans (hHeld.2.2))))))⟩ (fun hHeld => ?_)
 clear hK K
 refine done_ (done_of HT_.out (by kernel_rfl)) ?_
 try go_wp2
 refine bodyPost_ret (results_cell_row rfl _ _ gb307 29 #[.slice Ao13 t308.length co13, .slice Ao12 t311.length co12, .slice Ao11 t314.length co11] (0, 0) _ rfl (by refine bC (a := ?_); refine blk_put (cs := #[.slice Ao13 t308.length co13, .slice Ao12 t311.length co12, .slice none 0 0]) ?_ 2 _ rfl; refine bC (a := ?_); refine blk_put (cs := #[.slice Ao13 t308.length co13, .slice none 0 0, .slice none 0 0]) ?_ 1 _ rfl; refine bC (a := ?_); refine blk_put (cs := #[.slice none 0 0, .slice none 0 0, .slice none 0 0]) ?_ 0 _ rfl; refine bC (a := ?_); exact BK307.out) Try.underlying29 rfl (by kernel_rfl)) rfl ?_
 exact ⟨_, _, _, er, by refine rC (a := ?_); exact Kd.R_mono (Kd.R_far (p := ⟨gb307, 2, none⟩) (Kd.R_far (p := ⟨gb307, 1, none⟩) (Kd.R_far (p := ⟨gb307, 0, none⟩) (Kd.R_types HO310.out BK307.out (by decide)) (fun _ hk => hk.2) (.slice Ao13 t308.length co13)) (fun _ hk => hk.2) (.slice Ao12 t311.length co12)) (fun _ hk => hk.2) (.slice Ao11 t314.length co11)) (fun _ hk => trivial), by refine rC (a := ?_); exact Kd.R_mono (Kd.R_far (p := ⟨gb307, 2, none⟩) (Kd.R_far (p := ⟨gb307, 1, none⟩) (Kd.R_far (p := ⟨gb307, 0, none⟩) (Kd.R_types HO313.out BK307.out (by decide)) (fun _ hk => hk.2) (.slice Ao13 t308.length co13)) (fun _ hk => hk.2) (.slice Ao12 t311.length co12)) (fun _ hk => hk.2) (.slice Ao11 t314.length co11)) (fun _ hk => hk.1.2), by refine rC (a := ?_); exact Kd.R_mono (Kd.R_far (p := ⟨gb307, 2, none⟩) (Kd.R_far (p := ⟨gb307, 1, none⟩) (Kd.R_far (p := ⟨gb307, 0, none⟩) (Kd.R_types HO316.out BK307.out (by decide)) (fun _ hk => hk.2) (.slice Ao13 t308.length co13)) (fun _ hk => hk.2) (.slice Ao12 t311.length co12)) (fun _ hk => hk.2) (.slice Ao11 t314.length co11)) (fun _ hk => hk.1.2), hA HB.out⟩

section
theorem cells3 {W : World} {g : Nat} {x y z : Value} {t : TypeId} (h : W.heap[g]? = some (.cells #[x, y, z] t (0, 0))) : W.cell? ⟨g, 0, none⟩ = some x ∧ W.cell? ⟨g, 1, none⟩ = some y ∧ W.cell? ⟨g, 2, none⟩ = some z := ⟨(blk_cell h 0).trans rfl, (blk_cell h 1).trans rfl, (blk_cell h 2).trans rfl⟩
/-- What stands while impl.Add18 looks at its book: the book's box, the talk's, the result's; the rows of its own. -/
structure Bx (w W : World) (gb gt gr : Nat) (vT vL vC : Value) (T : List S50) (L C : List Int) (a b c : Int) : Prop where
 hb : W.heap[gb]? = some (.cells #[vT, vL, vC] 29 (0, 0))
 ht : W.heap[gt]? = some (.cells #[.int .i64 a, .int .i64 b, .int .i64 c] 50 (0, 0))
 hr : W.heap[gr]? = some (.cells #[.slice none 0 0, .slice none 0 0, .slice none 0 0] 29 (0, 0))
 oT : Kd.R k50 50 W w.heap.size (fun k => k ≠ gt) vT T
 oL : Kd.R (Kd.int .i64) 3 W w.heap.size (fun k => some k ≠ vC.ownBlock) vL L
 oC : Kd.R (Kd.int .i64) 3 W w.heap.size (fun k => some k ≠ vL.ownBlock) vC C
 bel : Below w.heap.size w W
 ge : w.heap.size ≤ gb ∧ w.heap.size ≤ gt ∧ w.heap.size ≤ gr
 ne : gb ≠ gt ∧ gb ≠ gr ∧ gt ≠ gr
theorem Bx.below {w W W' : World} {gb gt gr : Nat} {vT vL vC : Value} {T : List S50} {L C : List Int} {a b c : Int} (h : Bx w W gb gt gr vT vL vC T L C a b c) (hB : Below W.heap.size W W') : Bx w W' gb gt gr vT vL vC T L C a b c :=
 ⟨blk_below h.hb hB, blk_below h.ht hB, blk_below h.hr hB, Kd.R_below h.oT hB, Kd.R_below h.oL hB, Kd.R_below h.oC hB, below_step h.bel hB, h.ge, h.ne⟩
theorem R_set {W : World} {α : Type} {kd : Kd α} {e base g : Nat} {ok : Nat → Prop} {v : Value} {xs : List α} {t : TypeId} {cs : Array Value} (h : Kd.R kd e W base ok v xs) (hb : W.heap[g]? = some (.cells cs t (0, 0))) (hne : ∀ q, q ∈ e :: kd.E → q ≠ t) (j : Nat) (x : Value) : Kd.R kd e (W.setCell ⟨g, j, none⟩ x) base ok v xs :=
 Kd.R_mono (Kd.R_far (p := ⟨g, j, none⟩) (Kd.R_types h hb hne) (fun _ hk => hk.2) x) (fun _ h_ => h_.1)
end
theorem Bx_start {w w1 w2 w3 w4 : World} {gb gt gr : Nat} {x0 x1 x2 : Value} {a b c : Int} {vT vL vC : Value} {T : List S50} {L C : List Int} (e1 : gb = w.heap.size) (h1 : w1.heap[gb]? = some (.cells #[x0, x1, x2] 29 (0, 0))) (k1 : Below w.heap.size w w1)
  (e2 : gt = w1.heap.size) (h2 : w2.heap[gt]? = some (.cells #[.int .i64 a, .int .i64 b, .int .i64 c] 50 (0, 0))) (k2 : Below w1.heap.size w1 w2)
  (e3 : gr = w2.heap.size) (h3 : w3.heap[gr]? = some (.cells #[.slice none 0 0, .slice none 0 0, .slice none 0 0] 29 (0, 0))) (k3 : Below w2.heap.size w2 w3)
  (oT : Kd.R k50 50 w4 w3.heap.size (fun _ => True) vT T) (oL : Kd.R (Kd.int .i64) 3 w4 w3.heap.size (fun k => some k ≠ vC.ownBlock) vL L) (oC : Kd.R (Kd.int .i64) 3 w4 w3.heap.size (fun k => some k ≠ vL.ownBlock) vC C) (k4 : Below w3.heap.size w3 w4) :
  w4.heap[gb]? = some (.cells #[x0, x1, x2] 29 (0, 0)) ∧ Bx w (((w4.setCell ⟨gb, 0, none⟩ vT).setCell ⟨gb, 1, none⟩ vL).setCell ⟨gb, 2, none⟩ vC) gb gt gr vT vL vC T L C a b c := by
 have B2 := blk_below h1 k2
 have B3 := blk_below B2 k3
 have B4 := blk_below B3 k4
 have T3 := blk_below h2 k3
 have T4 := blk_below T3 k4
 have G4 := blk_below h3 k4
 have s1 := blk_lt h1
 have s2 := blk_lt h2
 have s3 := blk_lt h3
 have l1 := k1.size
 have l2 := k2.size
 have l3 := k3.size
 have nbt : gb ≠ gt := by omega
 have nbr : gb ≠ gr := by omega
 have ntr : gt ≠ gr := by omega
 have bel3 := below_step (below_step k1 k2) k3
 have bel4 := below_step bel3 k4
 have P1 := blk_put B4 0 vT (cs' := #[vT, x1, x2]) rfl
 have P2 := blk_put P1 1 vL (cs' := #[vT, vL, x2]) rfl
 have P3 := blk_put P2 2 vC (cs' := #[vT, vL, vC]) rfl
 refine ⟨B4, P3, ?_, ?_, ?_, ?_, ?_, below_set (below_set (below_set bel4 (by omega)) (by omega)) (by omega), ⟨by omega, by omega, by omega⟩, ⟨nbt, nbr, ntr⟩⟩
 ·exact blk_far (blk_far (blk_far T4 (Ne.symm nbt) _) (Ne.symm nbt) _) (Ne.symm nbt) _
 ·exact blk_far (blk_far (blk_far G4 (Ne.symm nbr) _) (Ne.symm nbr) _) (Ne.symm nbr) _
 ·exact Kd.R_mono (R_set (R_set (R_set (Kd.R_lower (Kd.R_newB oT (g := gt) T3) (by omega : w.heap.size ≤ w3.heap.size)) B4 (by decide) 0 vT) P1 (by decide) 1 vL) P2 (by decide) 2 vC) (fun _ h_ => h_.2)
 ·exact R_set (R_set (R_set (Kd.R_lower oL (by omega : w.heap.size ≤ w3.heap.size)) B4 (by decide) 0 vT) P1 (by decide) 1 vL) P2 (by decide) 2 vC
 ·exact R_set (R_set (R_set (Kd.R_lower oC (by omega : w.heap.size ≤ w3.heap.size)) B4 (by decide) 0 vT) P1 (by decide) 1 vL) P2 (by decide) 2 vC

theorem Bx.look {w W : World} {gb gt gr : Nat} {vT vL vC : Value} {T : List S50} {L C : List Int} {a b c : Int} (h : Bx w W gb gt gr vT vL vC T L C a b c) :
  (W.cell? ⟨gb, 0, none⟩ = some vT ∧ W.cell? ⟨gb, 1, none⟩ = some vL ∧ W.cell? ⟨gb, 2, none⟩ = some vC) ∧ (W.cell? ⟨gt, 0, none⟩ = some (.int .i64 a) ∧ W.cell? ⟨gt, 1, none⟩ = some (.int .i64 b) ∧ W.cell? ⟨gt, 2, none⟩ = some (.int .i64 c)) ∧ (W.cell? ⟨gr, 0, none⟩ = some (.slice none 0 0) ∧ W.cell? ⟨gr, 1, none⟩ = some (.slice none 0 0) ∧ W.cell? ⟨gr, 2, none⟩ = some (.slice none 0 0)) :=
 ⟨cells3 h.hb, cells3 h.ht, cells3 h.hr⟩
theorem Bx_end {w W : World} {gb gt gr : Nat} {vT vL vC : Value} {T : List S50} {L C : List Int} {a b c : Int} (h : Bx w W gb gt gr vT vL vC T L C a b c) :
  (((W.setCell ⟨gr, 0, none⟩ vT).setCell ⟨gr, 1, none⟩ vL).setCell ⟨gr, 2, none⟩ vC).heap[gr]? = some (.cells #[vT, vL, vC] 29 (0, 0)) ∧
  Kd.R k50 50 (((W.setCell ⟨gr, 0, none⟩ vT).setCell ⟨gr, 1, none⟩ vL).setCell ⟨gr, 2, none⟩ vC) w.heap.size (fun _ => True) vT T ∧
  Kd.R (Kd.int .i64) 3 (((W.setCell ⟨gr, 0, none⟩ vT).setCell ⟨gr, 1, none⟩ vL).setCell ⟨gr, 2, none⟩ vC) w.heap.size (fun k => some k ≠ vC.ownBlock) vL L ∧
  Kd.R (Kd.int .i64) 3 (((W.setCell ⟨gr, 0, none⟩ vT).setCell ⟨gr, 1, none⟩ vL).setCell ⟨gr, 2, none⟩ vC) w.heap.size (fun k => some k ≠ vL.ownBlock) vC C ∧
  Below w.heap.size w (((W.setCell ⟨gr, 0, none⟩ vT).setCell ⟨gr, 1, none⟩ vL).setCell ⟨gr, 2, none⟩ vC) := by
 have P1 := blk_put h.hr 0 vT (cs' := #[vT, .slice none 0 0, .slice none 0 0]) rfl
 have P2 := blk_put P1 1 vL (cs' := #[vT, vL, .slice none 0 0]) rfl
 have P3 := blk_put P2 2 vC (cs' := #[vT, vL, vC]) rfl
 have l3 := h.ge.2.2
 refine ⟨P3, ?_, ?_, ?_, below_set (below_set (below_set h.bel l3) l3) l3⟩
 ·exact Kd.R_mono (R_set (R_set (R_set h.oT h.hr (by decide) 0 vT) P1 (by decide) 1 vL) P2 (by decide) 2 vC) (fun _ _ => trivial)
 ·exact R_set (R_set (R_set h.oL h.hr (by decide) 0 vT) P1 (by decide) 1 vL) P2 (by decide) 2 vC
 ·exact R_set (R_set (R_set h.oC h.hr (by decide) 0 vT) P1 (by decide) 1 vL) P2 (by decide) 2 vC

theorem below_drawn {w w' : World} (h : Drawn0 w w') : Below w.heap.size w w' := by
 obtain ⟨nd, rfl⟩ := h
 exact pw_below_drewN (Below.refl _ _) nd
theorem Bx_append {w W W' : World} {gb gt gr : Nat} {vT vL vC v1 : Value} {T T' : List S50} {L C : List Int} {a b c : Int} (h : Bx w W gb gt gr vT vL vC T L C a b c) (ho : Kd.R k50 50 W' w.heap.size (fun k => k ≠ gt) v1 T') (hb : Below w.heap.size w W') (hg : W.grownBy W' vT.ownBlock) :
  W'.heap[gb]? = some (.cells #[vT, vL, vC] 29 (0, 0)) ∧ Bx w (W'.setCell ⟨gb, 0, none⟩ v1) gb gt gr v1 vL vC T' L C a b c := by
 have B := blk_grown h.hb hg (Kd.R_ne h.oT h.hb (by decide))
 have Tt := blk_grown h.ht hg (Kd.R_away h.oT (fun _ hk => hk))
 have G := blk_grown h.hr hg (Kd.R_ne h.oT h.hr (by decide))
 have oL := Kd.R_over' h.oL (Kd.R_typed h.oT) (by decide) hg
 have oC := Kd.R_over' h.oC (Kd.R_typed h.oT) (by decide) hg
 refine ⟨B, blk_put B 0 v1 rfl, blk_far Tt (Ne.symm h.ne.1) _, blk_far G (Ne.symm h.ne.2.1) _, R_set ho B (by decide) 0 v1, R_set oL B (by decide) 0 v1, R_set oC B (by decide) 0 v1, below_set hb h.ge.1, h.ge, h.ne⟩
theorem Bx_said {w W W' : World} {gb gt gr : Nat} {vT vL vC v0 v1 : Value} {T : List S50} {L C L' C' : List Int} {a b c : Int} (h : Bx w W gb gt gr vT vL vC T L C a b c) (hB : Below W.heap.size W W') (o0 : Kd.R (Kd.int .i64) 3 W' W.heap.size (fun k => some k ≠ v1.ownBlock) v0 L') (o1 : Kd.R (Kd.int .i64) 3 W' W.heap.size (fun k => some k ≠ v0.ownBlock) v1 C') :
  Bx w W' gb gt gr vT vL vC T L C a b c ∧ Bx w ((W'.setCell ⟨gb, 1, none⟩ v0).setCell ⟨gb, 2, none⟩ v1) gb gt gr vT v0 v1 T L' C' a b c := by
 have h' := h.below hB
 have P1 := blk_put h'.hb 1 v0 (cs' := #[vT, v0, vC]) rfl
 have P2 := blk_put P1 2 v1 (cs' := #[vT, v0, v1]) rfl
 have ls := below_size h.bel
 refine ⟨h', P2, blk_far (blk_far h'.ht (Ne.symm h.ne.1) _) (Ne.symm h.ne.1) _, blk_far (blk_far h'.hr (Ne.symm h.ne.2.1) _) (Ne.symm h.ne.2.1) _, R_set (R_set h'.oT h'.hb (by decide) 1 v0) P1 (by decide) 2 v1, R_set (R_set (Kd.R_lower o0 ls) h'.hb (by decide) 1 v0) P1 (by decide) 2 v1, R_set (R_set (Kd.R_lower o1 ls) h'.hb (by decide) 1 v0) P1 (by decide) 2 v1, below_set (below_set h'.bel h.ge.1) h.ge.1, h.ge, h.ne⟩

/-! ### impl_Add18: function 31 -/
def impl_Add18.f (k : Nat) (l0_0 : List (S50)) (l0_1 : List Int) (l0_2 : List Int) (a1_0 : Int) (a1_1 : Int) (a1_2 : Int) : Option ((List (S50)) × List Int × List Int × Bool) := (impl_ownBook.f k l0_0 l0_1 l0_2).bind fun bt320 => ((impl_Faults.f k bt320.1 bt320.2.1 bt320.2.2).bind fun t329 => (if (t329.length : Int) > 0 then (some (bt320.1, bt320.2.1, bt320.2.2, false)) else (if (bt320.1.length : Int) = 30 then (some (bt320.1, bt320.2.1, bt320.2.2, false)) else ((impl_in.f a1_0 0 (wrap64 ((bt320.2.1.length : Int) - 1))).bind fun t332 => (if t332 = true then ((impl_in.f a1_1 0 (wrap64 ((bt320.2.1.length : Int) - 1))).bind fun t333 => (if t333 = true then ((impl_in.f a1_2 (-1) (wrap64 ((bt320.2.2.length : Int) - 1))).bind fun t334 => (if t334 = true then (if a1_0 = a1_1 then (some (bt320.1, bt320.2.1, bt320.2.2, false)) else ((impl_Talk_42.f k bt320.1 a1_0 a1_1 a1_2).bind fun t335 => (if t335 = true then (some (bt320.1, bt320.2.1, bt320.2.2, false)) else (if bt320.1.length < 5864062014805 then ((some (bt320.1 ++ [(⟨a1_0, a1_1, a1_2⟩ : S50)] : List (S50))).bind fun y336 => ((impl_said.f k y336 bt320.2.1 bt320.2.2).bind fun bt339 => (some (y336, bt339.1, bt339.2, true)))) else (none))))) else (some (bt320.1, bt320.2.1, bt320.2.2, false)))) else (some (bt320.1, bt320.2.1, bt320.2.2, false)))) else (some (bt320.1, bt320.2.1, bt320.2.2, false)))))))
theorem impl_Add18.mono : ∀ a0 a1 a2 a3 a4 a5 k, LeO (impl_Add18.f k a0 a1 a2 a3 a4 a5) (impl_Add18.f (k + 1) a0 a1 a2 a3 a4 a5) := by
 intro a0 a1 a2 a3 a4 a5 k
 unfold impl_Add18.f
 repeat' first
   | (with_reducible exact impl_Faults.mono _ _ _ _)
   | (with_reducible exact impl_Talk_42.mono _ _ _ _ _)
   | (with_reducible exact impl_ownBook.mono _ _ _ _)
   | (with_reducible exact impl_said.mono _ _ _ _)
   | (with_reducible exact LeO.refl _)
   | (with_reducible exact LeO.none _)
   | (with_reducible refine LeO.ite ?_ ?_)
   | (with_reducible refine LeO.bind ?_ (fun _ => ?_))
   | exact impl_Faults.mono _ _ _ _
   | exact impl_Talk_42.mono _ _ _ _ _
   | exact impl_ownBook.mono _ _ _ _
   | exact impl_said.mono _ _ _ _
   | exact LeO.none _
   | refine LeO.ite ?_ ?_
   | refine LeO.bind ?_ (fun _ => ?_)

set_option maxHeartbeats 1000000 in
set_option maxRecDepth 100000 in
theorem impl_Add18.calls (k : Nat) (A0_0 : Option Addr) (c0_0 : Nat) (l0_0 : List (S50)) (A0_1 : Option Addr) (c0_1 : Nat) (l0_1 : List Int) (A0_2 : Option Addr) (c0_2 : Nat) (l0_2 : List Int) (a1_0 : Int) (a1_1 : Int) (a1_2 : Int) (r1 : List (S50)) (r2 : List Int) (r3 : List Int) (r4 : Bool) (w : World) (hr0_0 : Kd.C k50 w A0_0 l0_0.length l0_0) (hc0_0 : l0_0.length ≤ c0_0) (hr0_1 : Kd.C (Kd.int .i64) w A0_1 l0_1.length l0_1) (hc0_1 : l0_1.length ≤ c0_1) (hr0_2 : Kd.C (Kd.int .i64) w A0_2 l0_2.length l0_2) (hc0_2 : l0_2.length ≤ c0_2) (h : impl_Add18.f k l0_0 l0_1 l0_2 a1_0 a1_1 a1_2 = some (r1, r2, r3, r4)) :
  Calls Try.prog 31 #[.agg #[.slice A0_0 l0_0.length c0_0, .slice A0_1 l0_1.length c0_1, .slice A0_2 l0_2.length c0_2], .agg #[.int .i64 a1_0, .int .i64 a1_1, .int .i64 a1_2]] w fun e w' => ∃ v0_ v1_ v2_ : Value, e = .returned (.tuple #[.agg #[v0_, v1_, v2_], .bool r4]) ∧ Kd.R k50 50 w' w.heap.size (fun _ => True) v0_ r1 ∧ Kd.R (Kd.int .i64) 3 w' w.heap.size (fun k_ => some k_ ≠ (v2_ : Value).ownBlock) v1_ r2 ∧ Kd.R (Kd.int .i64) 3 w' w.heap.size (fun k_ => some k_ ≠ (v1_ : Value).ownBlock) v2_ r3 ∧ Below w.heap.size w w' := by
 have hu29 := Try.underlying29
 have hu50 := Try.underlying50
 unfold impl_Add18.f at h
 obtain ⟨⟨T, L, C⟩, A3, H1⟩ := Option.bind_eq_some_iff.mp h
 clear h
 obtain ⟨fs, A4, H⟩ := Option.bind_eq_some_iff.mp H1
 clear H1
 simp only at H A4
 have CO : ∀ w3, Below w.heap.size w w3 → _ := fun w3 hb => impl_ownBook.calls k A0_0 c0_0 l0_0 A0_1 c0_1 l0_1 A0_2 c0_2 l0_2 T L C w3 (Kd.C_below hr0_0 hb) hc0_0 (Kd.C_below hr0_1 hb) hc0_1 (Kd.C_below hr0_2 hb) hc0_2 A3
 have CO := Aside0.mk CO
 have A4 := Aside0.mk A4
 clear hr0_0 hr0_1 hr0_2 A3
 go_enter Try.func31, Try.ntmps31
 go_upto_region 2 with (first
  | ((with_reducible refine gate_dst (N := 2) rfl ?_); refine box_event ?hg (N := 2) ?hd (cs := #[.slice A0_0 l0_0.length c0_0, .slice A0_1 l0_1.length c0_1, .slice A0_2 l0_2.length c0_2]) (t := 29) ?hr ?_; (case hd => rfl); (case hg => rfl); (case hr => first | (go_simp; done) | (go_simp; rfl)); intro gb e10 w1 h1 k1; have e1 := Aside0.mk e10; clear e10)
  | ((with_reducible refine gate_dst (N := 3) rfl ?_); refine box_event ?hg (N := 3) ?hd (cs := #[.int .i64 a1_0, .int .i64 a1_1, .int .i64 a1_2]) (t := 50) ?hr ?_; (case hd => rfl); (case hg => rfl); (case hr => first | (go_simp; done) | (go_simp; rfl)); intro gt e20 w2 h2 k2; have e2 := Aside0.mk e20; clear e20)
  | ((with_reducible refine gate_dst (N := 4) rfl ?_); refine box_event ?hg (N := 4) ?hd (cs := #[.slice none 0 0, .slice none 0 0, .slice none 0 0]) (t := 29) ?hr ?_; (case hd => rfl); (case hg => rfl); (case hr => first | (go_simp; done) | (go_simp; rfl)); intro gr e30 w3 h3 k3; have e3 := Aside0.mk e30; clear e30; have hB3 := blk_below (blk_below h1 k2) k3; obtain ⟨q0, q1, q2⟩ := cells3 hB3)
  | (go_at_call 55; (with_reducible refine (CO.out _ (below_step (below_step k1 k2) k3)).mono ?_); rintro e w4 ⟨v0, v1, v2, rfl, ho0, ho1, ho2, k4⟩; obtain ⟨AT, cT, eT⟩ := Kd.R_slice ho0; subst eT; obtain ⟨AL, cL, eL⟩ := Kd.R_slice ho1; subst eL; obtain ⟨AC, cC, eC⟩ := Kd.R_slice ho2; subst eC; obtain ⟨B4, hX⟩ := Bx_start e1.out h1 k1 e2.out h2 k2 e3.out h3 k3 ho0 ho1 ho2 k4; obtain ⟨q0, q1, q2⟩ := cells3 B4; have z0 := blk_frozen B4 0; have z1 := blk_frozen B4 1; have z2 := blk_frozen B4 2))
 generalize (((w4.setCell ⟨gb, 0, none⟩ (.slice AT T.length cT)).setCell ⟨gb, 1, none⟩ (.slice AL L.length cL)).setCell ⟨gb, 2, none⟩ (.slice AC C.length cC)) = W at hX ⊢
 clear h1 k1 h2 k2 h3 k3 hB3 ho0 ho1 ho2 k4 B4 q0 q1 q2 z0 z1 z2 e1 e2 e3 CO
 obtain ⟨⟨q0, q1, q2⟩, ⟨t0, t1, t2⟩, s0, s1, s2⟩ := hX.look
 by_cases c5 : (fs.length : Int) > 0
 ·have c5b0 : decide (0 < (fs.length : Int)) = true := decide_eq_true c5
  have c5b1 : decide (0 < fs.length) = true := decide_eq_true (by omega)
  rw [if_pos c5] at H
  clear c5
  simp only [Option.some.injEq, Prod.mk.injEq] at H
  obtain ⟨rfl, rfl, rfl, rfl⟩ := H
  go_wp2_with (first | (go_at_call 20; (with_reducible refine (impl_Faults.calls k _ _ T _ _ L _ _ C fs _ (Kd.R_reads' hX.oT).2.2 (Kd.R_reads' hX.oT).2.1 (Kd.R_reads' hX.oL).2.2 (Kd.R_reads' hX.oL).2.1 (Kd.R_reads' hX.oC).2.2 (Kd.R_reads' hX.oC).2.1 A4.out).mono ?_); rintro e w5 ⟨vf, rfl, hof, kf⟩; obtain ⟨AF, cF, eF⟩ := Kd.R_slice hof; subst eF; replace hX := hX.below kf; clear hof kf; obtain ⟨⟨q0, q1, q2⟩, ⟨t0, t1, t2⟩, s0, s1, s2⟩ := hX.look; have z0 := blk_frozen hX.hr 0; have z1 := blk_frozen hX.hr 1; have z2 := blk_frozen hX.hr 2))
  refine bodyPost_ret (results_ct rfl _ _ gr 29 #[.slice AT T.length cT, .slice AL L.length cL, .slice AC C.length cC] (0, 0) _ rfl (Bx_end hX).1 Try.underlying29 rfl (by kernel_rfl)) rfl ?_
  exact ⟨_, _, _, rfl, (Bx_end hX).2.1, (Bx_end hX).2.2.1, (Bx_end hX).2.2.2.1, (Bx_end hX).2.2.2.2⟩
 have c5b0 : decide (0 < (fs.length : Int)) = false := decide_eq_false c5
 have c5b1 : decide (0 < fs.length) = false := decide_eq_false (by omega)
 rw [if_neg c5] at H
 clear c5
 by_cases c22 : (T.length : Int) = 30
 ·rw [if_pos c22] at H
  have c22b0 : ((T.length : Int) == 30) = true := beq_iff_eq.mpr c22
  have c22b1 : ((T.length : Int) != 30) = false := bne_eq_false_iff_eq.mpr c22
  clear c22
  simp only [Option.some.injEq, Prod.mk.injEq] at H
  obtain ⟨rfl, rfl, rfl, rfl⟩ := H
  go_wp2_with (first | (go_at_call 20; (with_reducible refine (impl_Faults.calls k _ _ T _ _ L _ _ C fs _ (Kd.R_reads' hX.oT).2.2 (Kd.R_reads' hX.oT).2.1 (Kd.R_reads' hX.oL).2.2 (Kd.R_reads' hX.oL).2.1 (Kd.R_reads' hX.oC).2.2 (Kd.R_reads' hX.oC).2.1 A4.out).mono ?_); rintro e w5 ⟨vf, rfl, hof, kf⟩; obtain ⟨AF, cF, eF⟩ := Kd.R_slice hof; subst eF; replace hX := hX.below kf; clear hof kf; obtain ⟨⟨q0, q1, q2⟩, ⟨t0, t1, t2⟩, s0, s1, s2⟩ := hX.look; have z0 := blk_frozen hX.hr 0; have z1 := blk_frozen hX.hr 1; have z2 := blk_frozen hX.hr 2))
  refine bodyPost_ret (results_ct rfl _ _ gr 29 #[.slice AT T.length cT, .slice AL L.length cL, .slice AC C.length cC] (0, 0) _ rfl (Bx_end hX).1 Try.underlying29 rfl (by kernel_rfl)) rfl ?_
  exact ⟨_, _, _, rfl, (Bx_end hX).2.1, (Bx_end hX).2.2.1, (Bx_end hX).2.2.2.1, (Bx_end hX).2.2.2.2⟩
 have c22b0 : ((T.length : Int) == 30) = false := beq_eq_false_iff_ne.mpr c22
 have c22b1 : ((T.length : Int) != 30) = true := bne_iff_ne.mpr c22
 rw [if_neg c22] at H
 clear c22
 obtain ⟨b, A39, H2⟩ := Option.bind_eq_some_iff.mp H
 clear H
 replace A39 := Aside0.mk A39
 by_cases cb : b = true
 rotate_left
 ·replace cb := Bool.eq_false_iff.mpr cb
  subst cb
  have H := H2
  clear H2
  rw [if_neg Bool.false_ne_true] at H
  simp only [Option.some.injEq, Prod.mk.injEq] at H
  obtain ⟨rfl, rfl, rfl, rfl⟩ := H
  go_wp2_with (first | (go_at_call 20; (with_reducible refine (impl_Faults.calls k _ _ T _ _ L _ _ C fs _ (Kd.R_reads' hX.oT).2.2 (Kd.R_reads' hX.oT).2.1 (Kd.R_reads' hX.oL).2.2 (Kd.R_reads' hX.oL).2.1 (Kd.R_reads' hX.oC).2.2 (Kd.R_reads' hX.oC).2.1 A4.out).mono ?_); rintro e w5 ⟨vf, rfl, hof, kf⟩; obtain ⟨AF, cF, eF⟩ := Kd.R_slice hof; subst eF; replace hX := hX.below kf; clear hof kf; obtain ⟨⟨q0, q1, q2⟩, ⟨t0, t1, t2⟩, s0, s1, s2⟩ := hX.look; have z0 := blk_frozen hX.hr 0; have z1 := blk_frozen hX.hr 1; have z2 := blk_frozen hX.hr 2) | (go_at_call 54; (with_reducible refine (impl_in.calls a1_0 0 (wrap64 ((L.length : Int) - 1)) false _ A39.out).mono ?_); rintro e w6 ⟨rfl, hD⟩; have kf := below_drawn hD; replace hX := hX.below kf; clear hD kf; obtain ⟨⟨q0, q1, q2⟩, ⟨t0, t1, t2⟩, s0, s1, s2⟩ := hX.look; have z0 := blk_frozen hX.hr 0; have z1 := blk_frozen hX.hr 1; have z2 := blk_frozen hX.hr 2))
  refine bodyPost_ret (results_ct rfl _ _ gr 29 #[.slice AT T.length cT, .slice AL L.length cL, .slice AC C.length cC] (0, 0) _ rfl (Bx_end hX).1 Try.underlying29 rfl (by kernel_rfl)) rfl ?_
  exact ⟨_, _, _, rfl, (Bx_end hX).2.1, (Bx_end hX).2.2.1, (Bx_end hX).2.2.2.1, (Bx_end hX).2.2.2.2⟩
 subst cb
 rw [if_pos rfl] at H2
 obtain ⟨b, A41, H3⟩ := Option.bind_eq_some_iff.mp H2
 clear H2
 replace A41 := Aside0.mk A41
 by_cases cb : b = true
 rotate_left
 ·replace cb := Bool.eq_false_iff.mpr cb
  subst cb
  have H := H3
  clear H3
  rw [if_neg Bool.false_ne_true] at H
  simp only [Option.some.injEq, Prod.mk.injEq] at H
  obtain ⟨rfl, rfl, rfl, rfl⟩ := H
  go_wp2_with (first | (go_at_call 20; (with_reducible refine (impl_Faults.calls k _ _ T _ _ L _ _ C fs _ (Kd.R_reads' hX.oT).2.2 (Kd.R_reads' hX.oT).2.1 (Kd.R_reads' hX.oL).2.2 (Kd.R_reads' hX.oL).2.1 (Kd.R_reads' hX.oC).2.2 (Kd.R_reads' hX.oC).2.1 A4.out).mono ?_); rintro e w5 ⟨vf, rfl, hof, kf⟩; obtain ⟨AF, cF, eF⟩ := Kd.R_slice hof; subst eF; replace hX := hX.below kf; clear hof kf; obtain ⟨⟨q0, q1, q2⟩, ⟨t0, t1, t2⟩, s0, s1, s2⟩ := hX.look; have z0 := blk_frozen hX.hr 0; have z1 := blk_frozen hX.hr 1; have z2 := blk_frozen hX.hr 2) | (go_at_call 54; (with_reducible refine (impl_in.calls a1_0 0 (wrap64 ((L.length : Int) - 1)) true _ A39.out).mono ?_); rintro e w6 ⟨rfl, hD⟩; have kf := below_drawn hD; replace hX := hX.below kf; clear hD kf; obtain ⟨⟨q0, q1, q2⟩, ⟨t0, t1, t2⟩, s0, s1, s2⟩ := hX.look; have z0 := blk_frozen hX.hr 0; have z1 := blk_frozen hX.hr 1; have z2 := blk_frozen hX.hr 2) | (go_at_call 54; (with_reducible refine (impl_in.calls a1_1 0 (wrap64 ((L.length : Int) - 1)) false _ A41.out).mono ?_); rintro e w6 ⟨rfl, hD⟩; have kf := below_drawn hD; replace hX := hX.below kf; clear hD kf; obtain ⟨⟨q0, q1, q2⟩, ⟨t0, t1, t2⟩, s0, s1, s2⟩ := hX.look; have z0 := blk_frozen hX.hr 0; have z1 := blk_frozen hX.hr 1; have z2 := blk_frozen hX.hr 2))
  refine bodyPost_ret (results_ct rfl _ _ gr 29 #[.slice AT T.length cT, .slice AL L.length cL, .slice AC C.length cC] (0, 0) _ rfl (Bx_end hX).1 Try.underlying29 rfl (by kernel_rfl)) rfl ?_
  exact ⟨_, _, _, rfl, (Bx_end hX).2.1, (Bx_end hX).2.2.1, (Bx_end hX).2.2.2.1, (Bx_end hX).2.2.2.2⟩
 subst cb
 rw [if_pos rfl] at H3
 obtain ⟨b, A43, H4⟩ := Option.bind_eq_some_iff.mp H3
 clear H3
 replace A43 := Aside0.mk A43
 by_cases cb : b = true
 rotate_left
 ·replace cb := Bool.eq_false_iff.mpr cb
  subst cb
  have H := H4
  clear H4
  rw [if_neg Bool.false_ne_true] at H
  simp only [Option.some.injEq, Prod.mk.injEq] at H
  obtain ⟨rfl, rfl, rfl, rfl⟩ := H
  go_wp2_with (first | (go_at_call 20; (with_reducible refine (impl_Faults.calls k _ _ T _ _ L _ _ C fs _ (Kd.R_reads' hX.oT).2.2 (Kd.R_reads' hX.oT).2.1 (Kd.R_reads' hX.oL).2.2 (Kd.R_reads' hX.oL).2.1 (Kd.R_reads' hX.oC).2.2 (Kd.R_reads' hX.oC).2.1 A4.out).mono ?_); rintro e w5 ⟨vf, rfl, hof, kf⟩; obtain ⟨AF, cF, eF⟩ := Kd.R_slice hof; subst eF; replace hX := hX.below kf; clear hof kf; obtain ⟨⟨q0, q1, q2⟩, ⟨t0, t1, t2⟩, s0, s1, s2⟩ := hX.look; have z0 := blk_frozen hX.hr 0; have z1 := blk_frozen hX.hr 1; have z2 := blk_frozen hX.hr 2) | (go_at_call 54; (with_reducible refine (impl_in.calls a1_0 0 (wrap64 ((L.length : Int) - 1)) true _ A39.out).mono ?_); rintro e w6 ⟨rfl, hD⟩; have kf := below_drawn hD; replace hX := hX.below kf; clear hD kf; obtain ⟨⟨q0, q1, q2⟩, ⟨t0, t1, t2⟩, s0, s1, s2⟩ := hX.look; have z0 := blk_frozen hX.hr 0; have z1 := blk_frozen hX.hr 1; have z2 := blk_frozen hX.hr 2) | (go_at_call 54; (with_reducible refine (impl_in.calls a1_1 0 (wrap64 ((L.length : Int) - 1)) true _ A41.out).mono ?_); rintro e w6 ⟨rfl, hD⟩; have kf := below_drawn hD; replace hX := hX.below kf; clear hD kf; obtain ⟨⟨q0, q1, q2⟩, ⟨t0, t1, t2⟩, s0, s1, s2⟩ := hX.look; have z0 := blk_frozen hX.hr 0; have z1 := blk_frozen hX.hr 1; have z2 := blk_frozen hX.hr 2) | (go_at_call 54; (with_reducible refine (impl_in.calls a1_2 (-1) (wrap64 ((C.length : Int) - 1)) false _ A43.out).mono ?_); rintro e w6 ⟨rfl, hD⟩; have kf := below_drawn hD; replace hX := hX.below kf; clear hD kf; obtain ⟨⟨q0, q1, q2⟩, ⟨t0, t1, t2⟩, s0, s1, s2⟩ := hX.look; have z0 := blk_frozen hX.hr 0; have z1 := blk_frozen hX.hr 1; have z2 := blk_frozen hX.hr 2))
  refine bodyPost_ret (results_ct rfl _ _ gr 29 #[.slice AT T.length cT, .slice AL L.length cL, .slice AC C.length cC] (0, 0) _ rfl (Bx_end hX).1 Try.underlying29 rfl (by kernel_rfl)) rfl ?_
  exact ⟨_, _, _, rfl, (Bx_end hX).2.1, (Bx_end hX).2.2.1, (Bx_end hX).2.2.2.1, (Bx_end hX).2.2.2.2⟩
 subst cb
 rw [if_pos rfl] at H4
 by_cases c45 : a1_0 = a1_1
 ·rw [if_pos c45] at H4
  have c45b0 : (a1_0 == a1_1) = true := beq_iff_eq.mpr c45
  have c45b1 : (a1_0 != a1_1) = false := bne_eq_false_iff_eq.mpr c45
  clear c45
  have H := H4
  clear H4
  simp only [Option.some.injEq, Prod.mk.injEq] at H
  obtain ⟨rfl, rfl, rfl, rfl⟩ := H
  go_wp2_with (first | (go_at_call 20; (with_reducible refine (impl_Faults.calls k _ _ T _ _ L _ _ C fs _ (Kd.R_reads' hX.oT).2.2 (Kd.R_reads' hX.oT).2.1 (Kd.R_reads' hX.oL).2.2 (Kd.R_reads' hX.oL).2.1 (Kd.R_reads' hX.oC).2.2 (Kd.R_reads' hX.oC).2.1 A4.out).mono ?_); rintro e w5 ⟨vf, rfl, hof, kf⟩; obtain ⟨AF, cF, eF⟩ := Kd.R_slice hof; subst eF; replace hX := hX.below kf; clear hof kf; obtain ⟨⟨q0, q1, q2⟩, ⟨t0, t1, t2⟩, s0, s1, s2⟩ := hX.look; have z0 := blk_frozen hX.hr 0; have z1 := blk_frozen hX.hr 1; have z2 := blk_frozen hX.hr 2) | (go_at_call 54; (with_reducible refine (impl_in.calls a1_0 0 (wrap64 ((L.length : Int) - 1)) true _ A39.out).mono ?_); rintro e w6 ⟨rfl, hD⟩; have kf := below_drawn hD; replace hX := hX.below kf; clear hD kf; obtain ⟨⟨q0, q1, q2⟩, ⟨t0, t1, t2⟩, s0, s1, s2⟩ := hX.look; have z0 := blk_frozen hX.hr 0; have z1 := blk_frozen hX.hr 1; have z2 := blk_frozen hX.hr 2) | (go_at_call 54; (with_reducible refine (impl_in.calls a1_1 0 (wrap64 ((L.length : Int) - 1)) true _ A41.out).mono ?_); rintro e w6 ⟨rfl, hD⟩; have kf := below_drawn hD; replace hX := hX.below kf; clear hD kf; obtain ⟨⟨q0, q1, q2⟩, ⟨t0, t1, t2⟩, s0, s1, s2⟩ := hX.look; have z0 := blk_frozen hX.hr 0; have z1 := blk_frozen hX.hr 1; have z2 := blk_frozen hX.hr 2) | (go_at_call 54; (with_reducible refine (impl_in.calls a1_2 (-1) (wrap64 ((C.length : Int) - 1)) true _ A43.out).mono ?_); rintro e w6 ⟨rfl, hD⟩; have kf := below_drawn hD; replace hX := hX.below kf; clear hD kf; obtain ⟨⟨q0, q1, q2⟩, ⟨t0, t1, t2⟩, s0, s1, s2⟩ := hX.look; have z0 := blk_frozen hX.hr 0; have z1 := blk_frozen hX.hr 1; have z2 := blk_frozen hX.hr 2))
  refine bodyPost_ret (results_ct rfl _ _ gr 29 #[.slice AT T.length cT, .slice AL L.length cL, .slice AC C.length cC] (0, 0) _ rfl (Bx_end hX).1 Try.underlying29 rfl (by kernel_rfl)) rfl ?_
  exact ⟨_, _, _, rfl, (Bx_end hX).2.1, (Bx_end hX).2.2.1, (Bx_end hX).2.2.2.1, (Bx_end hX).2.2.2.2⟩
 have c45b0 : (a1_0 == a1_1) = false := beq_eq_false_iff_ne.mpr c45
 have c45b1 : (a1_0 != a1_1) = true := bne_iff_ne.mpr c45
 rw [if_neg c45] at H4
 clear c45
 obtain ⟨b, A63, H5⟩ := Option.bind_eq_some_iff.mp H4
 clear H4
 replace A63 := Aside0.mk A63
 by_cases cb : b = true
 ·subst cb
  rw [if_pos rfl] at H5
  have H := H5
  clear H5
  simp only [Option.some.injEq, Prod.mk.injEq] at H
  obtain ⟨rfl, rfl, rfl, rfl⟩ := H
  go_wp2_with (first | (go_at_call 20; (with_reducible refine (impl_Faults.calls k _ _ T _ _ L _ _ C fs _ (Kd.R_reads' hX.oT).2.2 (Kd.R_reads' hX.oT).2.1 (Kd.R_reads' hX.oL).2.2 (Kd.R_reads' hX.oL).2.1 (Kd.R_reads' hX.oC).2.2 (Kd.R_reads' hX.oC).2.1 A4.out).mono ?_); rintro e w5 ⟨vf, rfl, hof, kf⟩; obtain ⟨AF, cF, eF⟩ := Kd.R_slice hof; subst eF; replace hX := hX.below kf; clear hof kf; obtain ⟨⟨q0, q1, q2⟩, ⟨t0, t1, t2⟩, s0, s1, s2⟩ := hX.look; have z0 := blk_frozen hX.hr 0; have z1 := blk_frozen hX.hr 1; have z2 := blk_frozen hX.hr 2) | (go_at_call 54; (with_reducible refine (impl_in.calls a1_0 0 (wrap64 ((L.length : Int) - 1)) true _ A39.out).mono ?_); rintro e w6 ⟨rfl, hD⟩; have kf := below_drawn hD; replace hX := hX.below kf; clear hD kf; obtain ⟨⟨q0, q1, q2⟩, ⟨t0, t1, t2⟩, s0, s1, s2⟩ := hX.look; have z0 := blk_frozen hX.hr 0; have z1 := blk_frozen hX.hr 1; have z2 := blk_frozen hX.hr 2) | (go_at_call 54; (with_reducible refine (impl_in.calls a1_1 0 (wrap64 ((L.length : Int) - 1)) true _ A41.out).mono ?_); rintro e w6 ⟨rfl, hD⟩; have kf := below_drawn hD; replace hX := hX.below kf; clear hD kf; obtain ⟨⟨q0, q1, q2⟩, ⟨t0, t1, t2⟩, s0, s1, s2⟩ := hX.look; have z0 := blk_frozen hX.hr 0; have z1 := blk_frozen hX.hr 1; have z2 := blk_frozen hX.hr 2) | (go_at_call 54; (with_reducible refine (impl_in.calls a1_2 (-1) (wrap64 ((C.length : Int) - 1)) true _ A43.out).mono ?_); rintro e w6 ⟨rfl, hD⟩; have kf := below_drawn hD; replace hX := hX.below kf; clear hD kf; obtain ⟨⟨q0, q1, q2⟩, ⟨t0, t1, t2⟩, s0, s1, s2⟩ := hX.look; have z0 := blk_frozen hX.hr 0; have z1 := blk_frozen hX.hr 1; have z2 := blk_frozen hX.hr 2) | (go_at_call 42; (with_reducible refine (impl_Talk_42.calls k _ _ T a1_0 a1_1 a1_2 true _ (Kd.R_reads' hX.oT).2.2 (Kd.R_reads' hX.oT).2.1 A63.out).mono ?_); rintro e w7 ⟨rfl, kf⟩; replace hX := hX.below kf; clear kf; obtain ⟨⟨q0, q1, q2⟩, ⟨t0, t1, t2⟩, s0, s1, s2⟩ := hX.look; have z0 := blk_frozen hX.hr 0; have z1 := blk_frozen hX.hr 1; have z2 := blk_frozen hX.hr 2))
  refine bodyPost_ret (results_ct rfl _ _ gr 29 #[.slice AT T.length cT, .slice AL L.length cL, .slice AC C.length cC] (0, 0) _ rfl (Bx_end hX).1 Try.underlying29 rfl (by kernel_rfl)) rfl ?_
  exact ⟨_, _, _, rfl, (Bx_end hX).2.1, (Bx_end hX).2.2.1, (Bx_end hX).2.2.2.1, (Bx_end hX).2.2.2.2⟩
 replace cb := Bool.eq_false_iff.mpr cb
 subst cb
 rw [if_neg Bool.false_ne_true] at H5
 by_cases c84 : T.length < 5864062014805
 rotate_left
 ·rw [if_neg c84] at H5
  exact absurd H5 (by simp)
 rw [if_pos c84] at H5
 have LM := Aside0.mk c84
 clear c84
 obtain ⟨y, hy⟩ : ∃ y_ : List (S50), y_ = (T ++ [(⟨a1_0, a1_1, a1_2⟩ : S50)]) := ⟨_, rfl⟩
 rw [← hy] at H5
 have Ny := Aside0.mk hy
 clear hy
 rw [Option.bind_some] at H5
 obtain ⟨⟨u2, u3⟩, A85, H6⟩ := Option.bind_eq_some_iff.mp H5
 clear H5
 simp only [Option.some.injEq, Prod.mk.injEq] at H6
 obtain ⟨rfl, rfl, rfl, rfl⟩ := H6
 replace A85 := Aside0.mk A85
 go_wp2_with (first | (go_at_call 20; (with_reducible refine (impl_Faults.calls k _ _ T _ _ L _ _ C fs _ (Kd.R_reads' hX.oT).2.2 (Kd.R_reads' hX.oT).2.1 (Kd.R_reads' hX.oL).2.2 (Kd.R_reads' hX.oL).2.1 (Kd.R_reads' hX.oC).2.2 (Kd.R_reads' hX.oC).2.1 A4.out).mono ?_); rintro e w5 ⟨vf, rfl, hof, kf⟩; obtain ⟨AF, cF, eF⟩ := Kd.R_slice hof; subst eF; replace hX := hX.below kf; clear hof kf; obtain ⟨⟨q0, q1, q2⟩, ⟨t0, t1, t2⟩, s0, s1, s2⟩ := hX.look; have z0 := blk_frozen hX.hr 0; have z1 := blk_frozen hX.hr 1; have z2 := blk_frozen hX.hr 2) | (go_at_call 54; (with_reducible refine (impl_in.calls a1_0 0 (wrap64 ((L.length : Int) - 1)) true _ A39.out).mono ?_); rintro e w6 ⟨rfl, hD⟩; have kf := below_drawn hD; replace hX := hX.below kf; clear hD kf; obtain ⟨⟨q0, q1, q2⟩, ⟨t0, t1, t2⟩, s0, s1, s2⟩ := hX.look; have z0 := blk_frozen hX.hr 0; have z1 := blk_frozen hX.hr 1; have z2 := blk_frozen hX.hr 2) | (go_at_call 54; (with_reducible refine (impl_in.calls a1_1 0 (wrap64 ((L.length : Int) - 1)) true _ A41.out).mono ?_); rintro e w6 ⟨rfl, hD⟩; have kf := below_drawn hD; replace hX := hX.below kf; clear hD kf; obtain ⟨⟨q0, q1, q2⟩, ⟨t0, t1, t2⟩, s0, s1, s2⟩ := hX.look; have z0 := blk_frozen hX.hr 0; have z1 := blk_frozen hX.hr 1; have z2 := blk_frozen hX.hr 2) | (go_at_call 54; (with_reducible refine (impl_in.calls a1_2 (-1) (wrap64 ((C.length : Int) - 1)) true _ A43.out).mono ?_); rintro e w6 ⟨rfl, hD⟩; have kf := below_drawn hD; replace hX := hX.below kf; clear hD kf; obtain ⟨⟨q0, q1, q2⟩, ⟨t0, t1, t2⟩, s0, s1, s2⟩ := hX.look; have z0 := blk_frozen hX.hr 0; have z1 := blk_frozen hX.hr 1; have z2 := blk_frozen hX.hr 2) | (go_at_call 42; (with_reducible refine (impl_Talk_42.calls k _ _ T a1_0 a1_1 a1_2 false _ (Kd.R_reads' hX.oT).2.2 (Kd.R_reads' hX.oT).2.1 A63.out).mono ?_); rintro e w7 ⟨rfl, kf⟩; replace hX := hX.below kf; clear kf; obtain ⟨⟨q0, q1, q2⟩, ⟨t0, t1, t2⟩, s0, s1, s2⟩ := hX.look; have z0 := blk_frozen hX.hr 0; have z1 := blk_frozen hX.hr 1; have z2 := blk_frozen hX.hr 2) | ((with_reducible refine gate_builtin (b := .append) (xs := #[.tmp 64, .tmp 66]) rfl ?_); (try (refine gate_guard (by rfl) ?_; dsimp only)); at_builtin; refine Kd.R_append k50 (w0 := w) w.heap.size rfl (.tmp 64) (.tmp 66) 27 50 (.agg #[(.int .i64 0), (.int .i64 0), (.int .i64 0)]) 24 rfl Try.underlying27 info50 rfl (by decide) (by omega) (.slice AT T.length cT) T (⟨a1_0, a1_1, a1_2⟩ : S50) [.int .i64 a1_0, .int .i64 a1_1, .int .i64 a1_2] (fun k_ => k_ ≠ gt) (fun _ => False) rfl rfl ?aP (fun _ hk => hk.elim) ?aF ?aO ?aB ?aS ?aL ?_; (case aP => exact k50_mkM _ _ _ (⟨a1_0, a1_1, a1_2⟩ : S50)); (case aB => exact hX.bel); (case aF => exact (fun k_ hk => Kd.freshB hX.ht k_ hk)); (case aO => exact hX.oT); (case aS => exact below_size hX.bel); (case aL => have := LM.out; omega); intro v1 w8 ho hb hg hat; rw [← Ny.out] at ho; obtain ⟨AY, cY, eY⟩ := Kd.R_slice ho; subst eY; obtain ⟨B8, hX8⟩ := Bx_append hX ho hb hg; obtain ⟨q0, q1, q2⟩ := cells3 B8; have z0 := blk_frozen B8 0; have z1 := blk_frozen B8 1; have z2 := blk_frozen B8 2; clear ho hb hg hat) | (go_at_call 44; (with_reducible refine (impl_said.calls k _ _ y _ _ L _ _ C u2 u3 _ (Kd.R_reads' hX8.oT).2.2 (Kd.R_reads' hX8.oT).2.1 (Kd.R_reads' hX8.oL).2.2 (Kd.R_reads' hX8.oL).2.1 (Kd.R_reads' hX8.oC).2.2 (Kd.R_reads' hX8.oC).2.1 A85.out).mono ?_); rintro e w9 ⟨v0, v1, rfl, o0, o1, kf⟩; obtain ⟨AL', cL', eL⟩ := Kd.R_slice o0; subst eL; obtain ⟨AC', cC', eC⟩ := Kd.R_slice o1; subst eC; obtain ⟨hX9, hX⟩ := Bx_said hX8 kf o0 o1; obtain ⟨⟨q0, q1, q2⟩, ⟨t0, t1, t2⟩, s0, s1, s2⟩ := hX9.look; have z0 := blk_frozen hX9.hb 0; have z1 := blk_frozen hX9.hb 1; have z2 := blk_frozen hX9.hb 2; have z3 := blk_frozen hX9.hr 0; have z4 := blk_frozen hX9.hr 1; have z5 := blk_frozen hX9.hr 2; have nn := hX9.ne.2.1; have nm := Ne.symm hX9.ne.2.1; clear o0 o1 kf))
 refine bodyPost_ret (results_ct rfl _ _ gr 29 #[.slice AY y.length cY, (.slice AL' u2.length cL'), (.slice AC' u3.length cC')] (0, 0) _ rfl (Bx_end hX).1 Try.underlying29 rfl (by kernel_rfl)) rfl ?_
 exact ⟨_, _, _, rfl, (Bx_end hX).2.1, (Bx_end hX).2.2.1, (Bx_end hX).2.2.2.1, (Bx_end hX).2.2.2.2⟩

end Go.Proofs.Ytngnkfpciloamaa.MFnExactAdd18
