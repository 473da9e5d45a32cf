/- The functions that the law FnMendedBook reaches, as plain functions, and that the code comes to them. Begun as a text of the print over stubs; turned by wip/handstub.py and wip/mend.py. -/
import Derived.Test.YtngnkfpciloamaaShortFnMendedBook
import Derived.Test.YtngnkfpciloamaaMFnMendedBookx0
import Derived.Test.YtngnkfpciloamaaMFnMendedBookx7
import Derived.Test.YtngnkfpciloamaaMFnMendedBookx8
namespace Go.Proofs.Ytngnkfpciloamaa.MFnMendedBook
open Go.RowKit Go.Proofs.YtngnkfpciloamaaW.PrintWords Go.Proofs.YtngnkfpciloamaaW.PrintLast Go.Proofs.YtngnkfpciloamaaW.PrintMore
attribute [local go_sem] max2_int min2_int max_two min_two max_three min_three max_four min_four   -- for this text's walks alone
set_option linter.unusedVariables false
set_option linter.unusedSimpArgs false

/-! ### impl_MendBook: function 12 -/
def impl_MendBook.l0 : Nat → List Int → List (S50) → Int → Int → List (S50) → List Int → List Int → Option ((List (S50)) × List Int × List Int × List Int)
 | 0, _, _, _, _, _, _, _ => none
 | k + 1, x5, x20, x21, x22, x260000, x260001, x260002 => if x22 < x21 then (if 0 ≤ x22 then (if x22 < (x20.length : Int) then (if ((rd_T50 x20 x22).f0) = ((rd_T50 x20 x22).f1) then (if x5.length < 17592186044416 then (impl_MendBook.l0 k (x5 ++ [x22]) x20 x21 (wrap64 (x22 + 1)) x260000 x260001 x260002) else (none)) else ((impl_Talk_42.f k x260000 ((rd_T50 x20 x22).f0) ((rd_T50 x20 x22).f1) ((rd_T50 x20 x22).f2)).bind fun t265 => (if t265 = true then (if x5.length < 17592186044416 then (impl_MendBook.l0 k (x5 ++ [x22]) x20 x21 (wrap64 (x22 + 1)) x260000 x260001 x260002) else (none)) else (if x260000.length < 5864062014805 then (impl_MendBook.l0 k x5 x20 x21 (wrap64 (x22 + 1)) (x260000 ++ [(⟨(rd_T50 x20 x22).f0, (rd_T50 x20 x22).f1, (rd_T50 x20 x22).f2⟩ : S50)]) x260001 x260002) else (none))))) else (none)) else (none)) else ((impl_said.f k x260000 x260001 x260002).bind fun bt272 => (some (x260000, bt272.1, bt272.2, x5)))
def impl_MendBook.f (k : Nat) (l0_0 : List (S50)) (l0_1 : List Int) (l0_2 : List Int) : Option ((List (S50)) × List Int × List Int × List Int) := (impl_BookOk.f k l0_0 l0_1 l0_2).bind fun t252 => (if t252 = true then ((slices_Clone_int_int.f k l0_1).bind fun t253 => ((slices_Clone_int_int.f k l0_2).bind fun t256 => (impl_MendBook.l0 k ([] : List Int) l0_0 (l0_0.length : Int) 0 ([] : List (S50)) t253 t256))) else (some (([] : List (S50)), ([] : List Int), ([] : List Int), ([] : List Int))))
theorem impl_MendBook.mono_l : ∀ k, (∀ y0 y1 y2 y3 y4 y5 y6, LeO (impl_MendBook.l0 k y0 y1 y2 y3 y4 y5 y6) (impl_MendBook.l0 (k + 1) y0 y1 y2 y3 y4 y5 y6))
 | 0 => fun _ _ _ _ _ _ _ r h => by simp [impl_MendBook.l0] at h
 | k + 1 => by
  have ih0 := impl_MendBook.mono_l k
  ·intro y0 y1 y2 y3 y4 y5 y6
   unfold impl_MendBook.l0
   repeat' first
   | (with_reducible exact ih0 _ _ _ _ _ _ _)
   | (with_reducible exact impl_BookOk.mono _ _ _ _)
   | (with_reducible exact impl_Talk_42.mono _ _ _ _ _)
   | (with_reducible exact impl_said.mono _ _ _ _)
   | (with_reducible exact slices_Clone_int_int.mono _ _)
   | (with_reducible exact LeO.refl _)
   | (with_reducible exact LeO.none _)
   | (with_reducible refine LeO.ite ?_ ?_)
   | (with_reducible refine LeO.bind ?_ (fun _ => ?_))
   | exact ih0 _ _ _ _ _ _ _
   | exact impl_BookOk.mono _ _ _ _
   | exact impl_Talk_42.mono _ _ _ _ _
   | exact impl_said.mono _ _ _ _
   | exact slices_Clone_int_int.mono _ _
   | exact LeO.none _
   | refine LeO.ite ?_ ?_
   | refine LeO.bind ?_ (fun _ => ?_)
theorem impl_MendBook.mono : ∀ a0 a1 a2 k, LeO (impl_MendBook.f k a0 a1 a2) (impl_MendBook.f (k + 1) a0 a1 a2) := by
 intro a0 a1 a2 k
 have ih0 := impl_MendBook.mono_l k
 unfold impl_MendBook.f
 repeat' first
   | (with_reducible exact ih0 _ _ _ _ _ _ _)
   | (with_reducible exact impl_BookOk.mono _ _ _ _)
   | (with_reducible exact impl_Talk_42.mono _ _ _ _ _)
   | (with_reducible exact impl_said.mono _ _ _ _)
   | (with_reducible exact slices_Clone_int_int.mono _ _)
   | (with_reducible exact LeO.refl _)
   | (with_reducible exact LeO.none _)
   | (with_reducible refine LeO.ite ?_ ?_)
   | (with_reducible refine LeO.bind ?_ (fun _ => ?_))
   | exact ih0 _ _ _ _ _ _ _
   | exact impl_BookOk.mono _ _ _ _
   | exact impl_Talk_42.mono _ _ _ _ _
   | exact impl_said.mono _ _ _ _
   | exact slices_Clone_int_int.mono _ _
   | exact LeO.none _
   | refine LeO.ite ?_ ?_
   | refine LeO.bind ?_ (fun _ => ?_)
def impl_MendBook.T3 : Bool × List (List Nat × List Nat) := (true, [([], []), ([0], [0]), ([1], [1]), ([], []), ([3], [3]), ([4, 2], [4]), ([2, 5], [2, 5]), ([], []), ([7, 6, 5, 0, 1, 2, 3, 4, 5, 6, 7], [6, 7])])
def impl_MendBook.B3 : List Nat := [0, 1, 3, 0, 8, 31, 63, 0, 255]
theorem impl_MendBook.tab3 : rtab .any (opsOf Try.f12 3) = impl_MendBook.T3 := by kernel_rfl
theorem impl_MendBook.bits3 : waitsOk impl_MendBook.T3.2 impl_MendBook.B3 = true := by kernel_rfl
set_option maxHeartbeats 8000000 in
set_option maxRecDepth 100000 in
theorem impl_MendBook.calls (k : Nat) (A0_0 : Option Addr) (c0_0 : Nat) (l0_0 : List (S50)) (A0_1 : Option Addr) (c0_1 : Nat) (l0_1 : List Int) (A0_2 : Option Addr) (c0_2 : Nat) (l0_2 : List Int) (r1 : List (S50)) (r2 : List Int) (r3 : List Int) (r4 : List Int) (w : World) (hr0_0 : Kd.C k50 w A0_0 l0_0.length l0_0) (hc0_0 : l0_0.length ≤ c0_0) (hr0_1 : Kd.C (Kd.int .i64) w A0_1 l0_1.length l0_1) (hc0_1 : l0_1.length ≤ c0_1) (hr0_2 : Kd.C (Kd.int .i64) w A0_2 l0_2.length l0_2) (hc0_2 : l0_2.length ≤ c0_2) (h : impl_MendBook.f k l0_0 l0_1 l0_2 = some (r1, r2, r3, r4)) :
  Calls Try.prog 12 #[.agg #[.slice A0_0 l0_0.length c0_0, .slice A0_1 l0_1.length c0_1, .slice A0_2 l0_2.length c0_2]] w fun e w' => ∃ v0_ v1_ v2_ v3_ : Value, e = .returned (.tuple #[.agg #[v0_, v1_, v2_], v3_]) ∧ Kd.R k50 50 w' w.heap.size (fun _ => True) v0_ r1 ∧ Kd.R (Kd.int .i64) 3 w' w.heap.size (fun k_ => some k_ ≠ (v2_ : Value).ownBlock ∧ some k_ ≠ (v3_ : Value).ownBlock) v1_ r2 ∧ Kd.R (Kd.int .i64) 3 w' w.heap.size (fun k_ => some k_ ≠ (v1_ : Value).ownBlock ∧ some k_ ≠ (v3_ : Value).ownBlock) v2_ r3 ∧ Kd.R (Kd.int .i64) 3 w' w.heap.size (fun k_ => some k_ ≠ (v1_ : Value).ownBlock ∧ some k_ ≠ (v2_ : Value).ownBlock) v3_ r4 ∧ Below w.heap.size w w' := by
 have hu29 := Try.underlying29
 have hu50 := Try.underlying50
 have HR0_0 := Aside0.mk hr0_0
 have HC0_0 := Aside0.mk hc0_0
 clear hr0_0 hc0_0
 have HR0_1 := Aside0.mk hr0_1
 have HC0_1 := Aside0.mk hc0_1
 clear hr0_1 hc0_1
 have HR0_2 := Aside0.mk hr0_2
 have HC0_2 := Aside0.mk hc0_2
 clear hr0_2 hc0_2
 have HB := Aside0.mk (Below.refl w.heap.size w)
 have H : ((impl_BookOk.f k l0_0 l0_1 l0_2).bind fun t252 => (if t252 = true then ((slices_Clone_int_int.f k l0_1).bind fun t253 => ((slices_Clone_int_int.f k l0_2).bind fun t256 => (impl_MendBook.l0 k ([] : List Int) l0_0 (l0_0.length : Int) 0 ([] : List (S50)) t253 t256))) else (some (([] : List (S50)), ([] : List Int), ([] : List Int), ([] : List Int))))) = some (r1, r2, r3, r4) := h
 clear h
 replace H := Option.bind_eq_some_iff.mp H
 obtain ⟨t252, A20, H⟩ := H
 replace H : (if t252 = true then ((slices_Clone_int_int.f k l0_1).bind fun t253 => ((slices_Clone_int_int.f k l0_2).bind fun t256 => (impl_MendBook.l0 k ([] : List Int) l0_0 (l0_0.length : Int) 0 ([] : List (S50)) t253 t256))) else (some (([] : List (S50)), ([] : List Int), ([] : List Int), ([] : List Int)))) = some (r1, r2, r3, r4) := H
 have A2 := Aside0.mk A20
 clear A20
 by_cases c3 : t252 = true
 ·subst c3
  have H1 : ((slices_Clone_int_int.f k l0_1).bind fun t253 => ((slices_Clone_int_int.f k l0_2).bind fun t256 => (impl_MendBook.l0 k ([] : List Int) l0_0 (l0_0.length : Int) 0 ([] : List (S50)) t253 t256))) = some (r1, r2, r3, r4) := by rw [if_pos rfl] at H; exact H
  clear H
  have H := H1
  clear H1
  replace H := Option.bind_eq_some_iff.mp H
  obtain ⟨t253, A40, H⟩ := H
  replace H : ((slices_Clone_int_int.f k l0_2).bind fun t256 => (impl_MendBook.l0 k ([] : List Int) l0_0 (l0_0.length : Int) 0 ([] : List (S50)) t253 t256)) = some (r1, r2, r3, r4) := H
  have A4 := Aside0.mk A40
  clear A40
  replace H := Option.bind_eq_some_iff.mp H
  obtain ⟨t256, A50, H⟩ := H
  replace H : (impl_MendBook.l0 k ([] : List Int) l0_0 (l0_0.length : Int) 0 ([] : List (S50)) t253 t256) = some (r1, r2, r3, r4) := H
  have A5 := Aside0.mk A50
  clear A50
  have H' := Aside0.mk H
  clear H
  go_enter Try.func12, Try.ntmps12
  try go_wp2_with (first | ((with_reducible refine gate_dst (N := 1) rfl ?_); refine box_event ?hg (N := 1) ?hd (cs := #[.slice A0_0 l0_0.length c0_0, .slice A0_1 l0_1.length c0_1, .slice A0_2 l0_2.length c0_2]) (t := 29) ?hr ?_; (case hd => rfl); (case hg => rfl); (case hr => first | (go_simp; done) | (go_simp; rfl)); intro gb250 hg w6 hbox hb; have n0_ := Aside0.mk (below_step (hA HB.out) hb); have n1_ := Aside0.mk (hbox); have n2_ := Aside0.mk ((by rw [hg]; exact (below_size (hA HB.out)) : w.heap.size ≤ gb250)); have n3_ := Aside0.mk ((by rw [hg]; exact (below_size (hA HB.out)) : w.heap.size ≤ gb250)); clear HB; have HB := n0_; have BK250 := n1_; have GW250 := n2_; have GE250 := n3_; clear n0_ n1_ n2_ n3_; clear hb hbox hg) | ((with_reducible refine gate_dst (N := 2) rfl ?_); refine box_event ?hg (N := 2) ?hd (cs := #[.slice none 0 0, .slice none 0 0, .slice none 0 0]) (t := 29) ?hr ?_; (case hd => rfl); (case hg => rfl); (case hr => first | (go_simp; done) | (go_simp; rfl)); intro gb251 hg w7 hbox hb; have n0_ := Aside0.mk (bB BK250.out hb); have n1_ := Aside0.mk (below_step (hA HB.out) hb); have n2_ := Aside0.mk (hbox); have n3_ := Aside0.mk ((by rw [hg]; exact (below_size (hA HB.out)) : w.heap.size ≤ gb251)); have n4_ := Aside0.mk ((by rw [hg]; exact (below_size (hA HB.out)) : w.heap.size ≤ gb251)); have n5_ := Aside0.mk ((by rw [hg]; exact Nat.ne_of_lt (blk_lt (g := gb250) (o := .cells #[.slice A0_0 l0_0.length c0_0, .slice A0_1 l0_1.length c0_1, .slice A0_2 l0_2.length c0_2] 29 (0, 0)) (bA BK250.out)) : gb250 ≠ gb251)); have n6_ := Aside0.mk ((by rw [hg]; exact Nat.ne_of_gt (blk_lt (g := gb250) (o := .cells #[.slice A0_0 l0_0.length c0_0, .slice A0_1 l0_1.length c0_1, .slice A0_2 l0_2.length c0_2] 29 (0, 0)) (bA BK250.out)) : gb251 ≠ gb250)); clear BK250; clear HB; have BK250 := n0_; have HB := n1_; have BK251 := n2_; have GW251 := n3_; have GE251 := n4_; have NB250_251 := n5_; have NB251_250 := n6_; clear n0_ n1_ n2_ n3_ n4_ n5_ n6_; clear hb hbox hg; have hnb8 := NB250_251.out; have hnc8 := NB251_250.out; have hcz9_0 : w7.cell? ⟨gb250, 0, none⟩ = some (.slice A0_0 l0_0.length c0_0) := (blk_cell BK250.out 0).trans rfl; have hcz9_1 : w7.cell? ⟨gb250, 1, none⟩ = some (.slice A0_1 l0_1.length c0_1) := (blk_cell BK250.out 1).trans rfl; have hcz9_2 : w7.cell? ⟨gb250, 2, none⟩ = some (.slice A0_2 l0_2.length c0_2) := (blk_cell BK250.out 2).trans rfl; have hfz9_0 := blk_frozen BK250.out 0; have hfz9_1 := blk_frozen BK250.out 1; have hfz9_2 := blk_frozen BK250.out 2) | ((with_reducible refine gate_callee (f := 40) rfl ?_); refine goesL_ (some 9) rfl rfl Try.func40 (by kernel_rfl) rfl #[.agg #[.slice A0_0 l0_0.length c0_0, .slice A0_1 l0_1.length c0_1, .slice A0_2 l0_2.length c0_2]] rfl ar ?_; (with_reducible refine (impl_BookOk.calls k _ _ l0_0 (fun k_ => k_ < w.heap.size) _ _ l0_1 (fun k_ => k_ < w.heap.size) _ _ l0_2 true _ ?side1 ?side2 ?side3 ?side4 A2.out).mono ?_); (case side1 => exact cA (Kd.C_below HR0_0.out HB.out)); (case side2 => exact HC0_0.out); (case side3 => exact Kd.V_mk HC0_1.out (Kd.F_below (Kd.C_F (Kd.heap_int .i64) HR0_1.out) (hA HB.out))); (case side4 => exact Kd.V_mk HC0_2.out (Kd.F_below (Kd.C_F (Kd.heap_int .i64) HR0_2.out) (hA HB.out))); rintro e w10 ⟨rfl, hb⟩; refine ⟨_, rfl, ?_⟩; have n0_ := Aside0.mk (bB BK250.out hb); have n1_ := Aside0.mk (bB BK251.out hb); have n2_ := Aside0.mk (below_step (hA HB.out) hb); clear BK250; clear BK251; clear HB; have BK250 := n0_; have BK251 := n1_; have HB := n2_; clear n0_ n1_ n2_; (try clear hb); (try clear hb2); (try clear hk); (try clear hi)))
  have n0_ := Aside0.mk (blk_drew BK250.out)
  have n1_ := Aside0.mk (blk_drew BK251.out)
  have n2_ := Aside0.mk (below_drew1 HB.out)
  clear BK250
  clear BK251
  clear HB
  have BK250 := n0_
  have BK251 := n1_
  have HB := n2_
  clear n0_ n1_ n2_
  refine start_ (n := 9) (S := fun w' => w'.cell? ⟨gb250, 0, none⟩ = some (.slice A0_0 l0_0.length c0_0) ∧ w'.cell? ⟨gb250, 1, none⟩ = some (.slice A0_1 l0_1.length c0_1) ∧ w'.cell? ⟨gb250, 2, none⟩ = some (.slice A0_2 l0_2.length c0_2)) (ds := []) #[false, false, false, false, false, false, false, false, false] (by kernel_rfl) rfl rfl ⟨(blk_cell BK250.out 0).trans rfl, (blk_cell BK250.out 1).trans rfl, (blk_cell BK250.out 2).trans rfl⟩ (fun hHeld => ?_); refine with_tabW impl_MendBook.tab3 impl_MendBook.bits3 (fun HT_ HW_ => ?_)
  generalize w10.drew = w11 at BK250 BK251 HB hHeld ⊢
  refine pure_ (i := 0) (N := some 12) (v := ?_) (a' := ?_) #[true, false, false, false, false, false, false, false, false] rfl rfl (any_of HT_.out (by kernel_rfl)) (fun _ _ _ h => h) (Or.inl ⟨by rfl, ?_⟩) ?_ ?_
  rotate_left
  ·intro w'
   go_simp
   with_reducible rfl
  rotate_left
  ·simp only [Act.put, List.setIfInBounds_toArray, List.set_cons_zero, List.set_cons_succ, i64_w, i32_w]
   rfl
  refine pure_ (i := 3) (N := some 15) (v := ?_) (a' := ?_) #[true, false, false, true, false, false, false, false, false] rfl rfl (any_of HT_.out (by kernel_rfl)) (fun _ _ _ h => h) (Or.inl ⟨by rfl, ?_⟩) ?_ ?_
  rotate_left
  ·intro w'
   go_simp
   with_reducible rfl
  rotate_left
  ·simp only [Act.put, List.setIfInBounds_toArray, List.set_cons_zero, List.set_cons_succ, i64_w, i32_w]
   rfl
  refine take_ (i := 1) (N := some 13) (v := ?_) (a' := ?_) #[true, true, false, true, false, false, false, false, false] rfl rfl (take_ofW HT_.out HW_.out (by kernel_rfl)) (fun _ _ _ h => h) (Or.inl ⟨by rfl, ?_⟩) hHeld ?_ ?_
  rotate_left
  ·rintro w' ⟨s0, s1, s2⟩
   go_simp
   with_reducible rfl
  rotate_left
  ·simp only [Act.put, List.setIfInBounds_toArray, List.set_cons_zero, List.set_cons_succ, i64_w, i32_w]
   rfl
  refine take_ (i := 4) (N := some 16) (v := ?_) (a' := ?_) #[true, true, false, true, true, false, false, false, false] rfl rfl (take_ofW HT_.out HW_.out (by kernel_rfl)) (fun _ _ _ h => h) (Or.inl ⟨by rfl, ?_⟩) hHeld ?_ ?_
  rotate_left
  ·rintro w' ⟨s0, s1, s2⟩
   go_simp
   with_reducible rfl
  rotate_left
  ·simp only [Act.put, List.setIfInBounds_toArray, List.set_cons_zero, List.set_cons_succ, i64_w, i32_w]
   rfl
  refine join_ (σ := Value × Value × Nat) 1 #[true, true, true, true, true, true, true, true, false] (fun s_ => [(14, s_.1), (17, s_.2.1), (4, .pointer (some ⟨s_.2.2, 0, none⟩)), (18, .agg #[.slice none 0 0, s_.1, s_.2.1])]) (fun s_ w' => (w'.cell? ⟨gb250, 0, none⟩ = some (.slice A0_0 l0_0.length c0_0) ∧ w'.cell? ⟨gb250, 1, none⟩ = some (.slice A0_1 l0_1.length c0_1) ∧ w'.cell? ⟨gb250, 2, none⟩ = some (.slice A0_2 l0_2.length c0_2)) ∧ (Kd.R (Kd.int .i64) 3 w' w.heap.size (fun k_ => some k_ ≠ (s_.2.1 : Value).ownBlock) s_.1 t253) ∧ (Kd.R (Kd.int .i64) 3 w' w.heap.size (fun k_ => some k_ ≠ (s_.1 : Value).ownBlock) s_.2.1 t256) ∧ (w'.heap[gb250]? = some (.cells #[.slice A0_0 l0_0.length c0_0, .slice A0_1 l0_1.length c0_1, .slice A0_2 l0_2.length c0_2] 29 (0, 0))) ∧ (w'.heap[gb251]? = some (.cells #[.slice none 0 0, .slice none 0 0, .slice none 0 0] 29 (0, 0))) ∧ (w'.heap[s_.2.2]? = some (.cells #[.slice none 0 0, .slice none 0 0, .slice none 0 0] 29 (0, 0))) ∧ (w.heap.size ≤ s_.2.2) ∧ (w.heap.size ≤ s_.2.2) ∧ (gb250 ≠ s_.2.2) ∧ (s_.2.2 ≠ gb250) ∧ (gb251 ≠ s_.2.2) ∧ (s_.2.2 ≠ gb251) ∧ (Below w.heap.size w w')) ?_ ?_
  rotate_left
  ·intro hCont
   refine two_ (i := 2) (j := 7) (Ni := some 14) (Nj := some 4) #[true, true, true, true, true, false, false, false, false] #[true, true, false, true, true, false, false, true, false] rfl rfl rfl rfl (two_of HT_.out (by kernel_rfl)) (by decide) (by decide) (fun K hK => ?_) (fun K hK => ?_)
   ·skip
    refine goes_ Try.func41 (by kernel_rfl) rfl #[.slice A0_1 l0_1.length c0_1] (by rfl) rfl rfl ar ?_
    with_reducible refine (slices_Clone_int_int.calls k _ _ l0_1 t253 _ ?side1 ?side2 A4.out).mono ?_
    (case side1 => exact cA (Kd.C_below HR0_1.out HB.out))
    (case side2 => exact HC0_1.out)
    rintro e w12 ⟨v254, rfl, ho0, hb⟩
    refine ⟨_, rfl, ?_⟩
    have n0_ := Aside0.mk (Kd.R_lower ho0 (below_size (hA HB.out)))
    have n1_ := Aside0.mk (bB BK250.out hb)
    have n2_ := Aside0.mk (bB BK251.out hb)
    have n3_ := Aside0.mk (below_step (hA HB.out) hb)
    clear BK250
    clear BK251
    clear HB
    have HO255 := n0_
    have BK250 := n1_
    have BK251 := n2_
    have HB := n3_
    clear n0_ n1_ n2_ n3_
    (try clear hb); (try clear hb2); (try clear hk); (try clear hi); (try clear ho0)
    refine hK.out _ _ ⟨(blk_cell BK250.out 0).trans rfl, (blk_cell BK250.out 1).trans rfl, (blk_cell BK250.out 2).trans rfl⟩ (fun hHeld => ?_)
    clear hK K
    refine norm_ (a' := ?_) ?_ ?_
    rotate_left
    ·show Act.put _ (some 14) _ = _
     simp only [Act.put, List.setIfInBounds_toArray, List.set_cons_zero, List.set_cons_succ, i64_w, i32_w]
     rfl
    refine two_ (i := 5) (j := 7) (Ni := some 17) (Nj := some 4) #[true, true, true, true, true, true, false, false, false] #[true, true, true, true, true, false, false, true, false] rfl rfl rfl rfl (two_of HT_.out (by kernel_rfl)) (by decide) (by decide) (fun K hK => ?_) (fun K hK => ?_)
    ·skip
     refine goes_ Try.func41 (by kernel_rfl) rfl #[.slice A0_2 l0_2.length c0_2] (by rfl) rfl rfl ar ?_
     with_reducible refine (slices_Clone_int_int.calls k _ _ l0_2 t256 _ ?side1 ?side2 A5.out).mono ?_
     (case side1 => exact cA (Kd.C_below HR0_2.out HB.out))
     (case side2 => exact HC0_2.out)
     rintro e w13 ⟨v257, rfl, ho0, hb⟩
     refine ⟨_, rfl, ?_⟩
     have n0_ := Aside0.mk (Kd.R_elder' (rA HO255.out) (Kd.R_base ho0) hb)
     have n1_ := Aside0.mk (Kd.R_lower (Kd.R_new' ho0 (Kd.R_lt (rA HO255.out))) (below_size (hA HB.out)))
     have n2_ := Aside0.mk (bB BK250.out hb)
     have n3_ := Aside0.mk (bB BK251.out hb)
     have n4_ := Aside0.mk (below_step (hA HB.out) hb)
     clear HO255
     clear BK250
     clear BK251
     clear HB
     have HO255 := n0_
     have HO258 := n1_
     have BK250 := n2_
     have BK251 := n3_
     have HB := n4_
     clear n0_ n1_ n2_ n3_ n4_
     (try clear hb); (try clear hb2); (try clear hk); (try clear hi); (try clear ho0)
     obtain ⟨Ao14, co14, eo14⟩ := Kd.R_slice HO258.out
     (first | subst eo14 | (injection eo14 with f1_ f2_ f3_; have f4_ := f1_.symm; have f5_ := f3_.symm; clear f1_ f2_ f3_; subst f4_; subst f5_))
     obtain ⟨Ao15, co15, eo15⟩ := Kd.R_slice HO255.out
     (first | subst eo15 | (injection eo15 with f1_ f2_ f3_; have f4_ := f1_.symm; have f5_ := f3_.symm; clear f1_ f2_ f3_; subst f4_; subst f5_))
     refine hK.out _ _ ⟨(blk_cell BK250.out 0).trans rfl, (blk_cell BK250.out 1).trans rfl, (blk_cell BK250.out 2).trans rfl⟩ (fun hHeld => ?_)
     clear hK K
     refine norm_ (a' := ?_) ?_ ?_
     rotate_left
     ·show Act.put _ (some 17) _ = _
      simp only [Act.put, List.setIfInBounds_toArray, List.set_cons_zero, List.set_cons_succ, i64_w, i32_w]
      rfl
     refine pure_ (i := 6) (N := some 18) (v := ?_) (a' := ?_) #[true, true, true, true, true, true, true, false, false] rfl rfl (any_of HT_.out (by kernel_rfl)) (fun _ _ _ h => h) (Or.inl ⟨by rfl, ?_⟩) ?_ ?_
     rotate_left
     ·intro w'
      go_simp
      with_reducible rfl
     rotate_left
     ·simp only [Act.put, List.setIfInBounds_toArray, List.set_cons_zero, List.set_cons_succ, i64_w, i32_w]
      rfl
     refine one_ (i := 7) (N := some 4) #[true, true, true, true, true, true, true, true, false] rfl rfl (one_of HT_.out (by kernel_rfl)) (by decide) (fun K hK => ?_)
     refine box_step ?hg (N := 4) ?hd (cs := #[.slice none 0 0, .slice none 0 0, .slice none 0 0]) (t := 29) ?hr ?_; (case hd => rfl); (case hg => rfl); (case hr => first | (go_simp; done) | (go_simp; rfl))
     intro gb259 hg w16 hbox hb
     have n0_ := Aside0.mk (Kd.R_below (rA HO255.out) hb)
     have n1_ := Aside0.mk (Kd.R_below (rA HO258.out) hb)
     have n2_ := Aside0.mk (bB BK250.out hb)
     have n3_ := Aside0.mk (bB BK251.out hb)
     have n4_ := Aside0.mk (below_step (hA HB.out) hb)
     have n5_ := Aside0.mk (hbox)
     have n6_ := Aside0.mk ((by rw [hg]; exact (below_size (hA HB.out)) : w.heap.size ≤ gb259))
     have n7_ := Aside0.mk ((by rw [hg]; exact (below_size (hA HB.out)) : w.heap.size ≤ gb259))
     have n8_ := Aside0.mk ((by rw [hg]; exact Nat.ne_of_lt (blk_lt (g := gb250) (o := .cells #[.slice A0_0 l0_0.length c0_0, .slice A0_1 l0_1.length c0_1, .slice A0_2 l0_2.length c0_2] 29 (0, 0)) (bA BK250.out)) : gb250 ≠ gb259))
     have n9_ := Aside0.mk ((by rw [hg]; exact Nat.ne_of_gt (blk_lt (g := gb250) (o := .cells #[.slice A0_0 l0_0.length c0_0, .slice A0_1 l0_1.length c0_1, .slice A0_2 l0_2.length c0_2] 29 (0, 0)) (bA BK250.out)) : gb259 ≠ gb250))
     have n10_ := Aside0.mk ((by rw [hg]; exact Nat.ne_of_lt (blk_lt (g := gb251) (o := .cells #[.slice none 0 0, .slice none 0 0, .slice none 0 0] 29 (0, 0)) (bA BK251.out)) : gb251 ≠ gb259))
     have n11_ := Aside0.mk ((by rw [hg]; exact Nat.ne_of_gt (blk_lt (g := gb251) (o := .cells #[.slice none 0 0, .slice none 0 0, .slice none 0 0] 29 (0, 0)) (bA BK251.out)) : gb259 ≠ gb251))
     clear HO255
     clear HO258
     clear BK250
     clear BK251
     clear HB
     have HO255 := n0_
     have HO258 := n1_
     have BK250 := n2_
     have BK251 := n3_
     have HB := n4_
     have BK259 := n5_
     have GW259 := n6_
     have GE259 := n7_
     have NB250_259 := n8_
     have NB259_250 := n9_
     have NB251_259 := n10_
     have NB259_251 := n11_
     clear n0_ n1_ n2_ n3_ n4_ n5_ n6_ n7_ n8_ n9_ n10_ n11_
     clear hb hbox hg
     refine hK.out _ _ ⟨(blk_cell BK250.out 0).trans rfl, (blk_cell BK250.out 1).trans rfl, (blk_cell BK250.out 2).trans rfl⟩ (fun hHeld => ?_)
     clear hK K
     refine norm_ (a' := ?_) ?_ ?_
     rotate_left
     ·show Act.put _ (some 4) _ = _
      simp only [Act.put, List.setIfInBounds_toArray, List.set_cons_zero, List.set_cons_succ, i64_w, i32_w]
      rfl
     exact norm_ (by simp only [putAll, Act.put, List.setIfInBounds_toArray, List.set_cons_zero, List.set_cons_succ]) (hCont (.slice Ao15 t253.length co15, .slice Ao14 t256.length co14, gb259) _ ⟨hHeld, (rC (a := by exact Kd.R_mono HO255.out (fun _ hk => hk.2))), (rC (a := by exact Kd.R_mono HO258.out (fun _ hk => hk.2))), (bA BK250.out), (bA BK251.out), (bA BK259.out), GW259.out, GE259.out, NB250_259.out, NB259_250.out, NB251_259.out, NB259_251.out, (hA HB.out)⟩)
    ·skip
     refine box_step ?hg (N := 4) ?hd (cs := #[.slice none 0 0, .slice none 0 0, .slice none 0 0]) (t := 29) ?hr ?_; (case hd => rfl); (case hg => rfl); (case hr => first | (go_simp; done) | (go_simp; rfl))
     intro gb259 hg w13 hbox hb
     have n0_ := Aside0.mk (Kd.R_below (rA HO255.out) hb)
     have n1_ := Aside0.mk (bB BK250.out hb)
     have n2_ := Aside0.mk (bB BK251.out hb)
     have n3_ := Aside0.mk (below_step (hA HB.out) hb)
     have n4_ := Aside0.mk (hbox)
     have n5_ := Aside0.mk ((by rw [hg]; exact (below_size (hA HB.out)) : w.heap.size ≤ gb259))
     have n6_ := Aside0.mk ((by rw [hg]; exact (below_size (hA HB.out)) : w.heap.size ≤ gb259))
     have n7_ := Aside0.mk ((by rw [hg]; exact Nat.ne_of_lt (blk_lt (g := gb250) (o := .cells #[.slice A0_0 l0_0.length c0_0, .slice A0_1 l0_1.length c0_1, .slice A0_2 l0_2.length c0_2] 29 (0, 0)) (bA BK250.out)) : gb250 ≠ gb259))
     have n8_ := Aside0.mk ((by rw [hg]; exact Nat.ne_of_gt (blk_lt (g := gb250) (o := .cells #[.slice A0_0 l0_0.length c0_0, .slice A0_1 l0_1.length c0_1, .slice A0_2 l0_2.length c0_2] 29 (0, 0)) (bA BK250.out)) : gb259 ≠ gb250))
     have n9_ := Aside0.mk ((by rw [hg]; exact Nat.ne_of_lt (blk_lt (g := gb251) (o := .cells #[.slice none 0 0, .slice none 0 0, .slice none 0 0] 29 (0, 0)) (bA BK251.out)) : gb251 ≠ gb259))
     have n10_ := Aside0.mk ((by rw [hg]; exact Nat.ne_of_gt (blk_lt (g := gb251) (o := .cells #[.slice none 0 0, .slice none 0 0, .slice none 0 0] 29 (0, 0)) (bA BK251.out)) : gb259 ≠ gb251))
     clear HO255
     clear BK250
     clear BK251
     clear HB
     have HO255 := n0_
     have BK250 := n1_
     have BK251 := n2_
     have HB := n3_
     have BK259 := n4_
     have GW259 := n5_
     have GE259 := n6_
     have NB250_259 := n7_
     have NB259_250 := n8_
     have NB251_259 := n9_
     have NB259_251 := n10_
     clear n0_ n1_ n2_ n3_ n4_ n5_ n6_ n7_ n8_ n9_ n10_
     clear hb hbox hg
     refine hK.out _ _ ⟨(blk_cell BK250.out 0).trans rfl, (blk_cell BK250.out 1).trans rfl, (blk_cell BK250.out 2).trans rfl⟩ (fun hHeld => ?_)
     clear hK K
     refine norm_ (a' := ?_) ?_ ?_
     rotate_left
     ·show Act.put _ (some 4) _ = _
      simp only [Act.put, List.setIfInBounds_toArray, List.set_cons_zero, List.set_cons_succ, i64_w, i32_w]
      rfl
     refine one_ (i := 5) (N := some 17) #[true, true, true, true, true, true, false, true, false] rfl rfl (one_of HT_.out (by kernel_rfl)) (by decide) (fun K hK => ?_)
     refine goes_ Try.func41 (by kernel_rfl) rfl #[.slice A0_2 l0_2.length c0_2] (by rfl) rfl rfl ar ?_
     with_reducible refine (slices_Clone_int_int.calls k _ _ l0_2 t256 _ ?side1 ?side2 A5.out).mono ?_
     (case side1 => exact cA (Kd.C_below HR0_2.out HB.out))
     (case side2 => exact HC0_2.out)
     rintro e w14 ⟨v257, rfl, ho0, hb⟩
     refine ⟨_, rfl, ?_⟩
     have n0_ := Aside0.mk (Kd.R_elder' (rA HO255.out) (Kd.R_base ho0) hb)
     have n1_ := Aside0.mk (Kd.R_lower (Kd.R_new' ho0 (Kd.R_lt (rA HO255.out))) (below_size (hA HB.out)))
     have n2_ := Aside0.mk (bB BK250.out hb)
     have n3_ := Aside0.mk (bB BK251.out hb)
     have n4_ := Aside0.mk (bB BK259.out hb)
     have n5_ := Aside0.mk (below_step (hA HB.out) hb)
     clear HO255
     clear BK250
     clear BK251
     clear BK259
     clear HB
     have HO255 := n0_
     have HO258 := n1_
     have BK250 := n2_
     have BK251 := n3_
     have BK259 := n4_
     have HB := n5_
     clear n0_ n1_ n2_ n3_ n4_ n5_
     (try clear hb); (try clear hb2); (try clear hk); (try clear hi); (try clear ho0)
     obtain ⟨Ao15, co15, eo15⟩ := Kd.R_slice HO258.out
     (first | subst eo15 | (injection eo15 with f1_ f2_ f3_; have f4_ := f1_.symm; have f5_ := f3_.symm; clear f1_ f2_ f3_; subst f4_; subst f5_))
     obtain ⟨Ao16, co16, eo16⟩ := Kd.R_slice HO255.out
     (first | subst eo16 | (injection eo16 with f1_ f2_ f3_; have f4_ := f1_.symm; have f5_ := f3_.symm; clear f1_ f2_ f3_; subst f4_; subst f5_))
     refine hK.out _ _ ⟨(blk_cell BK250.out 0).trans rfl, (blk_cell BK250.out 1).trans rfl, (blk_cell BK250.out 2).trans rfl⟩ (fun hHeld => ?_)
     clear hK K
     refine norm_ (a' := ?_) ?_ ?_
     rotate_left
     ·show Act.put _ (some 17) _ = _
      simp only [Act.put, List.setIfInBounds_toArray, List.set_cons_zero, List.set_cons_succ, i64_w, i32_w]
      rfl
     refine pure_ (i := 6) (N := some 18) (v := ?_) (a' := ?_) #[true, true, true, true, true, true, true, true, false] rfl rfl (any_of HT_.out (by kernel_rfl)) (fun _ _ _ h => h) (Or.inl ⟨by rfl, ?_⟩) ?_ ?_
     rotate_left
     ·intro w'
      go_simp
      with_reducible rfl
     rotate_left
     ·simp only [Act.put, List.setIfInBounds_toArray, List.set_cons_zero, List.set_cons_succ, i64_w, i32_w]
      rfl
     exact norm_ (by simp only [putAll, Act.put, List.setIfInBounds_toArray, List.set_cons_zero, List.set_cons_succ]) (hCont (.slice Ao16 t253.length co16, .slice Ao15 t256.length co15, gb259) _ ⟨hHeld, (rC (a := by exact Kd.R_mono HO255.out (fun _ hk => hk.2))), (rC (a := by exact Kd.R_mono HO258.out (fun _ hk => hk.2))), (bA BK250.out), (bA BK251.out), (bA BK259.out), GW259.out, GE259.out, NB250_259.out, NB259_250.out, NB251_259.out, NB259_251.out, (hA HB.out)⟩)
   ·skip
    refine box_step ?hg (N := 4) ?hd (cs := #[.slice none 0 0, .slice none 0 0, .slice none 0 0]) (t := 29) ?hr ?_; (case hd => rfl); (case hg => rfl); (case hr => first | (go_simp; done) | (go_simp; rfl))
    intro gb259 hg w12 hbox hb
    have n0_ := Aside0.mk (bB BK250.out hb)
    have n1_ := Aside0.mk (bB BK251.out hb)
    have n2_ := Aside0.mk (below_step (hA HB.out) hb)
    have n3_ := Aside0.mk (hbox)
    have n4_ := Aside0.mk ((by rw [hg]; exact (below_size (hA HB.out)) : w.heap.size ≤ gb259))
    have n5_ := Aside0.mk ((by rw [hg]; exact (below_size (hA HB.out)) : w.heap.size ≤ gb259))
    have n6_ := Aside0.mk ((by rw [hg]; exact Nat.ne_of_lt (blk_lt (g := gb250) (o := .cells #[.slice A0_0 l0_0.length c0_0, .slice A0_1 l0_1.length c0_1, .slice A0_2 l0_2.length c0_2] 29 (0, 0)) (bA BK250.out)) : gb250 ≠ gb259))
    have n7_ := Aside0.mk ((by rw [hg]; exact Nat.ne_of_gt (blk_lt (g := gb250) (o := .cells #[.slice A0_0 l0_0.length c0_0, .slice A0_1 l0_1.length c0_1, .slice A0_2 l0_2.length c0_2] 29 (0, 0)) (bA BK250.out)) : gb259 ≠ gb250))
    have n8_ := Aside0.mk ((by rw [hg]; exact Nat.ne_of_lt (blk_lt (g := gb251) (o := .cells #[.slice none 0 0, .slice none 0 0, .slice none 0 0] 29 (0, 0)) (bA BK251.out)) : gb251 ≠ gb259))
    have n9_ := Aside0.mk ((by rw [hg]; exact Nat.ne_of_gt (blk_lt (g := gb251) (o := .cells #[.slice none 0 0, .slice none 0 0, .slice none 0 0] 29 (0, 0)) (bA BK251.out)) : gb259 ≠ gb251))
    clear BK250
    clear BK251
    clear HB
    have BK250 := n0_
    have BK251 := n1_
    have HB := n2_
    have BK259 := n3_
    have GW259 := n4_
    have GE259 := n5_
    have NB250_259 := n6_
    have NB259_250 := n7_
    have NB251_259 := n8_
    have NB259_251 := n9_
    clear n0_ n1_ n2_ n3_ n4_ n5_ n6_ n7_ n8_ n9_
    clear hb hbox hg
    refine hK.out _ _ ⟨(blk_cell BK250.out 0).trans rfl, (blk_cell BK250.out 1).trans rfl, (blk_cell BK250.out 2).trans rfl⟩ (fun hHeld => ?_)
    clear hK K
    refine norm_ (a' := ?_) ?_ ?_
    rotate_left
    ·show Act.put _ (some 4) _ = _
     simp only [Act.put, List.setIfInBounds_toArray, List.set_cons_zero, List.set_cons_succ, i64_w, i32_w]
     rfl
    refine one_ (i := 2) (N := some 14) #[true, true, true, true, true, false, false, true, false] rfl rfl (one_of HT_.out (by kernel_rfl)) (by decide) (fun K hK => ?_)
    refine goes_ Try.func41 (by kernel_rfl) rfl #[.slice A0_1 l0_1.length c0_1] (by rfl) rfl rfl ar ?_
    with_reducible refine (slices_Clone_int_int.calls k _ _ l0_1 t253 _ ?side1 ?side2 A4.out).mono ?_
    (case side1 => exact cA (Kd.C_below HR0_1.out HB.out))
    (case side2 => exact HC0_1.out)
    rintro e w13 ⟨v254, rfl, ho0, hb⟩
    refine ⟨_, rfl, ?_⟩
    have n0_ := Aside0.mk (Kd.R_lower ho0 (below_size (hA HB.out)))
    have n1_ := Aside0.mk (bB BK250.out hb)
    have n2_ := Aside0.mk (bB BK251.out hb)
    have n3_ := Aside0.mk (bB BK259.out hb)
    have n4_ := Aside0.mk (below_step (hA HB.out) hb)
    clear BK250
    clear BK251
    clear BK259
    clear HB
    have HO255 := n0_
    have BK250 := n1_
    have BK251 := n2_
    have BK259 := n3_
    have HB := n4_
    clear n0_ n1_ n2_ n3_ n4_
    (try clear hb); (try clear hb2); (try clear hk); (try clear hi); (try clear ho0)
    refine hK.out _ _ ⟨(blk_cell BK250.out 0).trans rfl, (blk_cell BK250.out 1).trans rfl, (blk_cell BK250.out 2).trans rfl⟩ (fun hHeld => ?_)
    clear hK K
    refine norm_ (a' := ?_) ?_ ?_
    rotate_left
    ·show Act.put _ (some 14) _ = _
     simp only [Act.put, List.setIfInBounds_toArray, List.set_cons_zero, List.set_cons_succ, i64_w, i32_w]
     rfl
    refine one_ (i := 5) (N := some 17) #[true, true, true, true, true, true, false, true, false] rfl rfl (one_of HT_.out (by kernel_rfl)) (by decide) (fun K hK => ?_)
    refine goes_ Try.func41 (by kernel_rfl) rfl #[.slice A0_2 l0_2.length c0_2] (by rfl) rfl rfl ar ?_
    with_reducible refine (slices_Clone_int_int.calls k _ _ l0_2 t256 _ ?side1 ?side2 A5.out).mono ?_
    (case side1 => exact cA (Kd.C_below HR0_2.out HB.out))
    (case side2 => exact HC0_2.out)
    rintro e w14 ⟨v257, rfl, ho0, hb⟩
    refine ⟨_, rfl, ?_⟩
    have n0_ := Aside0.mk (Kd.R_elder' (rA HO255.out) (Kd.R_base ho0) hb)
    have n1_ := Aside0.mk (Kd.R_lower (Kd.R_new' ho0 (Kd.R_lt (rA HO255.out))) (below_size (hA HB.out)))
    have n2_ := Aside0.mk (bB BK250.out hb)
    have n3_ := Aside0.mk (bB BK251.out hb)
    have n4_ := Aside0.mk (bB BK259.out hb)
    have n5_ := Aside0.mk (below_step (hA HB.out) hb)
    clear HO255
    clear BK250
    clear BK251
    clear BK259
    clear HB
    have HO255 := n0_
    have HO258 := n1_
    have BK250 := n2_
    have BK251 := n3_
    have BK259 := n4_
    have HB := n5_
    clear n0_ n1_ n2_ n3_ n4_ n5_
    (try clear hb); (try clear hb2); (try clear hk); (try clear hi); (try clear ho0)
    obtain ⟨Ao15, co15, eo15⟩ := Kd.R_slice HO258.out
    (first | subst eo15 | (injection eo15 with f1_ f2_ f3_; have f4_ := f1_.symm; have f5_ := f3_.symm; clear f1_ f2_ f3_; subst f4_; subst f5_))
    obtain ⟨Ao16, co16, eo16⟩ := Kd.R_slice HO255.out
    (first | subst eo16 | (injection eo16 with f1_ f2_ f3_; have f4_ := f1_.symm; have f5_ := f3_.symm; clear f1_ f2_ f3_; subst f4_; subst f5_))
    refine hK.out _ _ ⟨(blk_cell BK250.out 0).trans rfl, (blk_cell BK250.out 1).trans rfl, (blk_cell BK250.out 2).trans rfl⟩ (fun hHeld => ?_)
    clear hK K
    refine norm_ (a' := ?_) ?_ ?_
    rotate_left
    ·show Act.put _ (some 17) _ = _
     simp only [Act.put, List.setIfInBounds_toArray, List.set_cons_zero, List.set_cons_succ, i64_w, i32_w]
     rfl
    refine pure_ (i := 6) (N := some 18) (v := ?_) (a' := ?_) #[true, true, true, true, true, true, true, true, false] rfl rfl (any_of HT_.out (by kernel_rfl)) (fun _ _ _ h => h) (Or.inl ⟨by rfl, ?_⟩) ?_ ?_
    rotate_left
    ·intro w'
     go_simp
     with_reducible rfl
    rotate_left
    ·simp only [Act.put, List.setIfInBounds_toArray, List.set_cons_zero, List.set_cons_succ, i64_w, i32_w]
     rfl
    exact norm_ (by simp only [putAll, Act.put, List.setIfInBounds_toArray, List.set_cons_zero, List.set_cons_succ]) (hCont (.slice Ao16 t253.length co16, .slice Ao15 t256.length co15, gb259) _ ⟨hHeld, (rC (a := by exact Kd.R_mono HO255.out (fun _ hk => hk.2))), (rC (a := by exact Kd.R_mono HO258.out (fun _ hk => hk.2))), (bA BK250.out), (bA BK251.out), (bA BK259.out), GW259.out, GE259.out, NB250_259.out, NB259_250.out, NB251_259.out, NB259_251.out, (hA HB.out)⟩)
  rintro ⟨v254, v257, gb259⟩ w17 ⟨hS_, h0_, h1_, h2_, h3_, h4_, h5_, h6_, h7_, h8_, h9_, h10_, h11_⟩
  have n0_ : Aside0 (Kd.R (Kd.int .i64) 3 w17 w.heap.size (fun k_ => some k_ ≠ (v257 : Value).ownBlock) v254 t253) := ⟨h0_⟩
  have n1_ : Aside0 (Kd.R (Kd.int .i64) 3 w17 w.heap.size (fun k_ => some k_ ≠ (v254 : Value).ownBlock) v257 t256) := ⟨h1_⟩
  have n2_ : Aside0 (w17.heap[gb250]? = some (.cells #[.slice A0_0 l0_0.length c0_0, .slice A0_1 l0_1.length c0_1, .slice A0_2 l0_2.length c0_2] 29 (0, 0))) := ⟨h2_⟩
  have n3_ : Aside0 (w17.heap[gb251]? = some (.cells #[.slice none 0 0, .slice none 0 0, .slice none 0 0] 29 (0, 0))) := ⟨h3_⟩
  have n4_ : Aside0 (w17.heap[gb259]? = some (.cells #[.slice none 0 0, .slice none 0 0, .slice none 0 0] 29 (0, 0))) := ⟨h4_⟩
  have n5_ : Aside0 (w.heap.size ≤ gb259) := ⟨h5_⟩
  have n6_ : Aside0 (w.heap.size ≤ gb259) := ⟨h6_⟩
  have n7_ : Aside0 (gb250 ≠ gb259) := ⟨h7_⟩
  have n8_ : Aside0 (gb259 ≠ gb250) := ⟨h8_⟩
  have n9_ : Aside0 (gb251 ≠ gb259) := ⟨h9_⟩
  have n10_ : Aside0 (gb259 ≠ gb251) := ⟨h10_⟩
  have n11_ : Aside0 (Below w.heap.size w w17) := ⟨h11_⟩
  clear BK250
  clear BK251
  clear HB
  clear h0_ h1_ h2_ h3_ h4_ h5_ h6_ h7_ h8_ h9_ h10_ h11_
  have HO255 := n0_
  have HO258 := n1_
  have BK250 := n2_
  have BK251 := n3_
  have BK259 := n4_
  have GW259 := n5_
  have GE259 := n6_
  have NB250_259 := n7_
  have NB259_250 := n8_
  have NB251_259 := n9_
  have NB259_251 := n10_
  have HB := n11_
  clear n0_ n1_ n2_ n3_ n4_ n5_ n6_ n7_ n8_ n9_ n10_ n11_
  have hHeld : w17.cell? ⟨gb250, 0, none⟩ = some (.slice A0_0 l0_0.length c0_0) ∧ w17.cell? ⟨gb250, 1, none⟩ = some (.slice A0_1 l0_1.length c0_1) ∧ w17.cell? ⟨gb250, 2, none⟩ = some (.slice A0_2 l0_2.length c0_2) := hS_
  obtain ⟨Ao18, co18, eo18⟩ := Kd.R_slice HO258.out
  (first | subst eo18 | (injection eo18 with f1_ f2_ f3_; have f4_ := f1_.symm; have f5_ := f3_.symm; clear f1_ f2_ f3_; subst f4_; subst f5_))
  obtain ⟨Ao19, co19, eo19⟩ := Kd.R_slice HO255.out
  (first | subst eo19 | (injection eo19 with f1_ f2_ f3_; have f4_ := f1_.symm; have f5_ := f3_.symm; clear f1_ f2_ f3_; subst f4_; subst f5_))
  refine norm_ (a' := ?_) ?_ ?_
  rotate_left
  ·simp only [putAll, Act.put, List.setIfInBounds_toArray, List.set_cons_zero, List.set_cons_succ]
   rfl
  refine one_ (i := 8) (N := none) #[true, true, true, true, true, true, true, true, true] rfl rfl (one_of HT_.out (by kernel_rfl)) (by decide) (fun K hK => ?_)
  have hs20 : w17.cell? ⟨gb259, 0, none⟩ = some (.slice none 0 0) := (blk_cell BK259.out 0).trans rfl
  have hfs20 := blk_frozen BK259.out 0
  have hns20_0 := NB250_259.out
  have hns20_1 := NB251_259.out
  have hms20_0 := NB259_250.out
  have hms20_1 := NB259_251.out
  have hs21 : w17.cell? ⟨gb259, 1, none⟩ = some (.slice none 0 0) := (blk_cell BK259.out 1).trans rfl
  have hfs21 := blk_frozen BK259.out 1
  have hns21_0 := NB250_259.out
  have hns21_1 := NB251_259.out
  have hms21_0 := NB259_250.out
  have hms21_1 := NB259_251.out
  have hs22 : w17.cell? ⟨gb259, 2, none⟩ = some (.slice none 0 0) := (blk_cell BK259.out 2).trans rfl
  have hfs22 := blk_frozen BK259.out 2
  have hns22_0 := NB250_259.out
  have hns22_1 := NB251_259.out
  have hms22_0 := NB259_250.out
  have hms22_1 := NB259_251.out
  refine skip_ (w1 := ?_) (by rfl) rfl ?_ ?_
  rotate_left
  ·go_simp
   rfl
  refine hK.out _ _ ⟨((cell_far (p := ⟨gb259, _, none⟩) NB250_259.out _).trans (((cell_far (p := ⟨gb259, _, none⟩) NB250_259.out _).trans (((cell_far (p := ⟨gb259, _, none⟩) NB250_259.out _).trans (hHeld.1)))))), ((cell_far (p := ⟨gb259, _, none⟩) NB250_259.out _).trans (((cell_far (p := ⟨gb259, _, none⟩) NB250_259.out _).trans (((cell_far (p := ⟨gb259, _, none⟩) NB250_259.out _).trans (hHeld.2.1)))))), ((cell_far (p := ⟨gb259, _, none⟩) NB250_259.out _).trans (((cell_far (p := ⟨gb259, _, none⟩) NB250_259.out _).trans (((cell_far (p := ⟨gb259, _, none⟩) NB250_259.out _).trans (hHeld.2.2))))))⟩ (fun hHeld => ?_)
  clear hK K
  refine done_ (done_of HT_.out (by kernel_rfl)) ?_
  have hnb23 := NB250_259.out
  have hnc23 := NB259_250.out
  have hcz24_0 : w17.cell? ⟨gb250, 0, none⟩ = some (.slice A0_0 l0_0.length c0_0) := (blk_cell BK250.out 0).trans rfl
  have hcz24_1 : w17.cell? ⟨gb250, 1, none⟩ = some (.slice A0_1 l0_1.length c0_1) := (blk_cell BK250.out 1).trans rfl
  have hcz24_2 : w17.cell? ⟨gb250, 2, none⟩ = some (.slice A0_2 l0_2.length c0_2) := (blk_cell BK250.out 2).trans rfl
  have hfz24_0 := blk_frozen BK250.out 0
  have hfz24_1 := blk_frozen BK250.out 1
  have hfz24_2 := blk_frozen BK250.out 2
  try go_wp2
  go_loopg [5, 22] k (fun kq v5 v22 w' => ∃ (x5_1 : List Int) (x22_1 : Int) (x260000_1 : List (S50)) (u260000 : Value), v22 = .int .i64 x22_1 ∧ Aside0 (impl_MendBook.l0 kq x5_1 l0_0 (l0_0.length : Int) x22_1 x260000_1 t253 t256 = some (r1, r2, r3, r4)) ∧ Aside0 (kq ≤ k) ∧ Aside0 (Kd.R (Kd.int .i64) 3 w' w.heap.size (fun k_ => some k_ ≠ ((.slice Ao19 t253.length co19) : Value).ownBlock ∧ some k_ ≠ ((.slice Ao18 t256.length co18) : Value).ownBlock) v5 x5_1) ∧ Aside0 (Kd.R k50 50 w' w.heap.size (fun _ => True) u260000 x260000_1) ∧ Aside0 (Kd.R (Kd.int .i64) 3 w' w.heap.size (fun k_ => some k_ ≠ (v5 : Value).ownBlock ∧ some k_ ≠ ((.slice Ao18 t256.length co18) : Value).ownBlock) (.slice Ao19 t253.length co19) t253) ∧ Aside0 (Kd.R (Kd.int .i64) 3 w' w.heap.size (fun k_ => some k_ ≠ (v5 : Value).ownBlock ∧ some k_ ≠ ((.slice Ao19 t253.length co19) : Value).ownBlock) (.slice Ao18 t256.length co18) t256) ∧ Aside0 (w'.heap[gb250]? = some (.cells #[(.slice A0_0 l0_0.length c0_0), (.slice A0_1 l0_1.length c0_1), (.slice A0_2 l0_2.length c0_2)] 29 (0, 0))) ∧ Aside0 (w'.heap[gb251]? = some (.cells #[(.slice none 0 0), (.slice none 0 0), (.slice none 0 0)] 29 (0, 0))) ∧ Aside0 (w'.heap[gb259]? = some (.cells #[u260000, (.slice Ao19 t253.length co19), (.slice Ao18 t256.length co18)] 29 (0, 0))) ∧ Aside0 (Below w.heap.size w w'))
  case atStart => exact ⟨(([] : List Int)), (0), (([] : List (S50))), (.slice none 0 0), rs, H', ⟨Nat.le_refl _⟩, ⟨by first | exact Kd.R_nil _ _ _ _ _ | exact Kd.N_nil _ _ _ _ _ | exact Kd.V_nil _ _ _ _ _ | exact Kd.Q_nil _ _ _ _ _ | exact Kd.S_nil _ _ _ _ _⟩, ⟨by first | exact Kd.R_nil _ _ _ _ _ | exact Kd.N_nil _ _ _ _ _ | exact Kd.V_nil _ _ _ _ _ | exact Kd.Q_nil _ _ _ _ _ | exact Kd.S_nil _ _ _ _ _⟩, ⟨by refine rC (a := ?_); exact Kd.R_mono (Kd.R_far (p := ⟨gb259, 2, none⟩) (Kd.R_far (p := ⟨gb259, 1, none⟩) (Kd.R_far (p := ⟨gb259, 0, none⟩) (Kd.R_types HO255.out BK259.out (by decide)) (fun _ hk => hk.2) (.slice none 0 0)) (fun _ hk => hk.2) (.slice Ao19 t253.length co19)) (fun _ hk => hk.2) (.slice Ao18 t256.length co18)) (fun _ hk => ⟨(by simp [Value.ownBlock]), hk.1⟩)⟩, ⟨by refine rC (a := ?_); exact Kd.R_mono (Kd.R_far (p := ⟨gb259, 2, none⟩) (Kd.R_far (p := ⟨gb259, 1, none⟩) (Kd.R_far (p := ⟨gb259, 0, none⟩) (Kd.R_types HO258.out BK259.out (by decide)) (fun _ hk => hk.2) (.slice none 0 0)) (fun _ hk => hk.2) (.slice Ao19 t253.length co19)) (fun _ hk => hk.2) (.slice Ao18 t256.length co18)) (fun _ hk => ⟨(by simp [Value.ownBlock]), hk.1⟩)⟩, ⟨by refine bC (a := ?_); refine blk_far ?_ NB250_259.out _; refine bC (a := ?_); refine blk_far ?_ NB250_259.out _; refine bC (a := ?_); refine blk_far ?_ NB250_259.out _; refine bC (a := ?_); exact BK250.out⟩, ⟨by refine bC (a := ?_); refine blk_far ?_ NB251_259.out _; refine bC (a := ?_); refine blk_far ?_ NB251_259.out _; refine bC (a := ?_); refine blk_far ?_ NB251_259.out _; refine bC (a := ?_); exact BK251.out⟩, ⟨by refine bC (a := ?_); refine blk_put (cs := #[.slice none 0 0, .slice Ao19 t253.length co19, .slice none 0 0]) ?_ 2 _ rfl; refine bC (a := ?_); refine blk_put (cs := #[.slice none 0 0, .slice none 0 0, .slice none 0 0]) ?_ 1 _ rfl; refine bC (a := ?_); refine blk_put (cs := #[.slice none 0 0, .slice none 0 0, .slice none 0 0]) ?_ 0 _ rfl; refine bC (a := ?_); exact BK259.out⟩, ⟨hA HB.out⟩⟩
  case round =>
   clear H'
   (try clear c1); (try clear c2); (try clear p2); (try clear c3); (try clear c4); (try clear c8); (try clear c12); (try clear c23); (try clear hcz24_0); (try clear hcz24_1); (try clear hcz24_2); (try clear hcz9_0); (try clear hcz9_1); (try clear hcz9_2); (try clear hfz24_0); (try clear hfz24_1); (try clear hfz24_2); (try clear hfz9_0); (try clear hfz9_1); (try clear hfz9_2)
   obtain ⟨x5_1, x22_1, x260000_1, u260000, rfl, HA, HK1, HO_5, HO_260000, HO_260001, HO_260002, BK250, BK251, BK259, HB⟩ := hrel
   cases gk with
   | zero => exact absurd HA.out (by simp [impl_MendBook.l0])
   | succ k1 =>
    have H := HA.out
    clear HA
    simp only [impl_MendBook.l0] at H
    by_cases c25 : x22_1 < (l0_0.length : Int)
    ·rw [if_pos c25] at H
     have c25b0 : decide (x22_1 < (l0_0.length : Int)) = true := decide_eq_true c25
     clear c25
     by_cases c26 : 0 ≤ x22_1
     ·rw [if_pos c26] at H
      have c26b0 : decide (0 ≤ x22_1) = true := decide_eq_true c26
      clear c26
      by_cases c27 : x22_1 < (l0_0.length : Int)
      ·rw [if_pos c27] at H
       have c27b0 : decide (x22_1 < (l0_0.length : Int)) = true := decide_eq_true c27
       clear c27
       by_cases c28 : ((rd_T50 l0_0 x22_1).f0) = ((rd_T50 l0_0 x22_1).f1)
       ·rw [if_pos c28] at H
        have c28b0 : (((rd_T50 l0_0 x22_1).f0) == ((rd_T50 l0_0 x22_1).f1)) = true := beq_iff_eq.mpr c28
        have c28b1 : (((rd_T50 l0_0 x22_1).f0) != ((rd_T50 l0_0 x22_1).f1)) = false := bne_eq_false_iff_eq.mpr c28
        clear c28
        by_cases c29 : x5_1.length < 17592186044416
        ·rw [if_pos c29] at H
         have LMc29 := Aside0.mk c29
         clear c29
         obtain ⟨y262, hy262⟩ : ∃ y_ : List Int, y_ = (x5_1 ++ [x22_1]) := ⟨_, rfl⟩
         replace H : (impl_MendBook.l0 k1 y262 l0_0 (l0_0.length : Int) (wrap64 (x22_1 + 1)) x260000_1 t253 t256) = some (r1, r2, r3, r4) := by first | (rw [hy262]; with_reducible exact H) | (have H2_ := (Option.bind_some _ _).symm.trans H; rw [hy262]; with_reducible exact H2_) | (have H2_ := (Option.bind_some _ _).symm.trans H; with_reducible exact H2_) | with_reducible exact H | (rw [hy262]; exact H) | exact H
         have Ny262 := Aside0.mk hy262
         clear hy262
         have H' := Aside0.mk H
         clear H
         have p260 : 0 ≤ (x22_1 : Int) := of_decide_eq_true sm
         have q260 : x22_1 < (l0_0.length : Int) := of_decide_eq_true sm
         obtain ⟨ad260, e260, hx260_0, hx260_1, hx260_2⟩ := at_T50 HR0_0.out x22_1 p260 q260
         cases e260
         try (replace hx260_0 := (HB.out.cell (World.block_lt_of_cell? w _ hx260_0)).trans hx260_0)
         try (replace hx260_1 := (HB.out.cell (World.block_lt_of_cell? w _ hx260_1)).trans hx260_1)
         try (replace hx260_2 := (HB.out.cell (World.block_lt_of_cell? w _ hx260_2)).trans hx260_2)
         replace p260 := eq_true p260
         replace q260 := eq_true q260
         go_wp2_with (first | ((with_reducible refine gate_dst (N := 7) rfl ?_); refine box_event ?hg (N := 7) ?hd (cs := #[.int .i64 0, .int .i64 0, .int .i64 0]) (t := 50) ?hr ?_; (case hd => rfl); (case hg => rfl); (case hr => first | (go_simp; done) | (go_simp; rfl)); intro gb261 hg w30 hbox hb; have n0_ := Aside0.mk (Kd.R_below (rA HO_5.out) hb); have n1_ := Aside0.mk (Kd.R_below (Kd.R_elderB (rA HO_260000.out) gb261 (Nat.le_of_eq hg.symm)) hb); have n2_ := Aside0.mk (Kd.R_below (rA HO_260001.out) hb); have n3_ := Aside0.mk (Kd.R_below (rA HO_260002.out) hb); have n4_ := Aside0.mk (bB BK250.out hb); have n5_ := Aside0.mk (bB BK251.out hb); have n6_ := Aside0.mk (bB BK259.out hb); have n7_ := Aside0.mk (below_step (hA HB.out) hb); have n8_ := Aside0.mk (hbox); have n9_ := Aside0.mk ((by rw [hg]; exact (below_size (hA HB.out)) : w.heap.size ≤ gb261)); have n10_ := Aside0.mk ((by rw [hg]; exact (below_size (hA HB.out)) : w.heap.size ≤ gb261)); have n11_ := Aside0.mk ((by rw [hg]; exact Nat.ne_of_lt (blk_lt (g := gb250) (o := .cells #[.slice (some ad260) l0_0.length c0_0, .slice A0_1 l0_1.length c0_1, .slice A0_2 l0_2.length c0_2] 29 (0, 0)) (bA BK250.out)) : gb250 ≠ gb261)); have n12_ := Aside0.mk ((by rw [hg]; exact Nat.ne_of_gt (blk_lt (g := gb250) (o := .cells #[.slice (some ad260) l0_0.length c0_0, .slice A0_1 l0_1.length c0_1, .slice A0_2 l0_2.length c0_2] 29 (0, 0)) (bA BK250.out)) : gb261 ≠ gb250)); have n13_ := Aside0.mk ((by rw [hg]; exact Nat.ne_of_lt (blk_lt (g := gb251) (o := .cells #[.slice none 0 0, .slice none 0 0, .slice none 0 0] 29 (0, 0)) (bA BK251.out)) : gb251 ≠ gb261)); have n14_ := Aside0.mk ((by rw [hg]; exact Nat.ne_of_gt (blk_lt (g := gb251) (o := .cells #[.slice none 0 0, .slice none 0 0, .slice none 0 0] 29 (0, 0)) (bA BK251.out)) : gb261 ≠ gb251)); have n15_ := Aside0.mk ((by rw [hg]; exact Nat.ne_of_lt (blk_lt (g := gb259) (o := .cells #[u260000, .slice Ao19 t253.length co19, .slice Ao18 t256.length co18] 29 (0, 0)) (bA BK259.out)) : gb259 ≠ gb261)); have n16_ := Aside0.mk ((by rw [hg]; exact Nat.ne_of_gt (blk_lt (g := gb259) (o := .cells #[u260000, .slice Ao19 t253.length co19, .slice Ao18 t256.length co18] 29 (0, 0)) (bA BK259.out)) : gb261 ≠ gb259)); clear HO_5; clear HO_260000; clear HO_260001; clear HO_260002; clear BK250; clear BK251; clear BK259; clear HB; have HO_5 := n0_; have HO_260000 := n1_; have HO_260001 := n2_; have HO_260002 := n3_; have BK250 := n4_; have BK251 := n5_; have BK259 := n6_; have HB := n7_; have BK261 := n8_; have GW261 := n9_; have GE261 := n10_; have NB250_261 := n11_; have NB261_250 := n12_; have NB251_261 := n13_; have NB261_251 := n14_; have NB259_261 := n15_; have NB261_259 := n16_; clear n0_ n1_ n2_ n3_ n4_ n5_ n6_ n7_ n8_ n9_ n10_ n11_ n12_ n13_ n14_ n15_ n16_; clear hb hbox hg; have hnb31 := NB261_250.out; have hnc31 := NB250_261.out; have hnb32 := NB261_251.out; have hnc32 := NB251_261.out; have hnb33 := NB261_259.out; have hnc33 := NB259_261.out; have hcz34_0 : w30.cell? ⟨gb261, 0, none⟩ = some (.int .i64 0) := (blk_cell BK261.out 0).trans rfl; have hcz34_1 : w30.cell? ⟨gb261, 1, none⟩ = some (.int .i64 0) := (blk_cell BK261.out 1).trans rfl; have hcz34_2 : w30.cell? ⟨gb261, 2, none⟩ = some (.int .i64 0) := (blk_cell BK261.out 2).trans rfl; have hfz34_0 := blk_frozen BK261.out 0; have hfz34_1 := blk_frozen BK261.out 1; have hfz34_2 := blk_frozen BK261.out 2) | ((with_reducible refine gate_builtin (b := .append) (xs := #[.tmp 39, .tmp 41]) rfl ?_); at_builtin; refine Kd.R_append (Kd.int .i64) (w0 := w) w.heap.size rfl (.tmp 39) (.tmp 41) 23 3 (.int .i64 0) 8 rfl Try.underlying23 info3 rfl (by decide) (by omega) u5 x5_1 x22_1 [.int .i64 x22_1] (fun k_ => some k_ ≠ (.slice Ao19 t253.length co19 : Value).ownBlock ∧ some k_ ≠ (.slice Ao18 t256.length co18 : Value).ownBlock) (fun _ => False) rfl (by first | (go_simp; done) | (go_simp; rfl)) ?aP (fun _ hk => hk.elim) ?aF ?aO ?aB ?aS ?aL ?_; (case aP => exact rfl); (case aB => exact (hA HB.out)); (case aF => exact (fun k_ hk => ⟨Kd.fresh' (Kd.R_lt (rC (a := by exact (Kd.R_mono (Kd.R_far (p := ⟨gb261, 2, none⟩) (Kd.R_far (p := ⟨gb261, 1, none⟩) (Kd.R_far (p := ⟨gb261, 0, none⟩) (Kd.R_types HO_260001.out BK261.out (by decide)) (fun _ hk => hk.2) (.int .i64 ((rd_T50 l0_0 x22_1).f0))) (fun _ hk => hk.2) (.int .i64 ((rd_T50 l0_0 x22_1).f1))) (fun _ hk => hk.2) (.int .i64 ((rd_T50 l0_0 x22_1).f2))) (fun _ h_ => h_.1))))) k_ hk, Kd.fresh' (Kd.R_lt (rC (a := by exact (Kd.R_mono (Kd.R_far (p := ⟨gb261, 2, none⟩) (Kd.R_far (p := ⟨gb261, 1, none⟩) (Kd.R_far (p := ⟨gb261, 0, none⟩) (Kd.R_types HO_260002.out BK261.out (by decide)) (fun _ hk => hk.2) (.int .i64 ((rd_T50 l0_0 x22_1).f0))) (fun _ hk => hk.2) (.int .i64 ((rd_T50 l0_0 x22_1).f1))) (fun _ hk => hk.2) (.int .i64 ((rd_T50 l0_0 x22_1).f2))) (fun _ h_ => h_.1))))) k_ hk⟩)); (case aO => exact (rC (a := by exact Kd.R_mono (Kd.R_far (p := ⟨gb261, 2, none⟩) (Kd.R_far (p := ⟨gb261, 1, none⟩) (Kd.R_far (p := ⟨gb261, 0, none⟩) (Kd.R_types HO_5.out BK261.out (by decide)) (fun _ hk => hk.2) (.int .i64 ((rd_T50 l0_0 x22_1).f0))) (fun _ hk => hk.2) (.int .i64 ((rd_T50 l0_0 x22_1).f1))) (fun _ hk => hk.2) (.int .i64 ((rd_T50 l0_0 x22_1).f2))) (fun _ hk => ⟨hk.1.1, hk.1.2⟩)))); (case aS => exact (below_size (hA HB.out))); (case aL => have := LMc29.out; omega); intro v263 w35 ho hb hg hat; rw [← Ny262.out] at ho; have n0_ := Aside0.mk (Kd.R_over' (rC (a := by exact (Kd.R_mono (Kd.R_far (p := ⟨gb261, 2, none⟩) (Kd.R_far (p := ⟨gb261, 1, none⟩) (Kd.R_far (p := ⟨gb261, 0, none⟩) (Kd.R_mono HO_260000.out (fun k_ hk => (⟨hk, hk.2⟩ : _ ∧ k_ ≠ gb261))) (fun _ hk => hk.2) (.int .i64 ((rd_T50 l0_0 x22_1).f0))) (fun _ hk => hk.2) (.int .i64 ((rd_T50 l0_0 x22_1).f1))) (fun _ hk => hk.2) (.int .i64 ((rd_T50 l0_0 x22_1).f2))) (fun _ h_ => h_.1)))) (Kd.R_typed (rC (a := by exact (Kd.R_mono (Kd.R_far (p := ⟨gb261, 2, none⟩) (Kd.R_far (p := ⟨gb261, 1, none⟩) (Kd.R_far (p := ⟨gb261, 0, none⟩) (Kd.R_types HO_5.out BK261.out (by decide)) (fun _ hk => hk.2) (.int .i64 ((rd_T50 l0_0 x22_1).f0))) (fun _ hk => hk.2) (.int .i64 ((rd_T50 l0_0 x22_1).f1))) (fun _ hk => hk.2) (.int .i64 ((rd_T50 l0_0 x22_1).f2))) (fun _ h_ => h_.1))))) (by decide) hg); have n1_ := Aside0.mk (Kd.R_after (ok := (fun k_ => some k_ ≠ (.slice Ao18 t256.length co18 : Value).ownBlock)) (rC (a := by exact Kd.R_mono (Kd.R_far (p := ⟨gb261, 2, none⟩) (Kd.R_far (p := ⟨gb261, 1, none⟩) (Kd.R_far (p := ⟨gb261, 0, none⟩) (Kd.R_types HO_260001.out BK261.out (by decide)) (fun _ hk => hk.2) (.int .i64 ((rd_T50 l0_0 x22_1).f0))) (fun _ hk => hk.2) (.int .i64 ((rd_T50 l0_0 x22_1).f1))) (fun _ hk => hk.2) (.int .i64 ((rd_T50 l0_0 x22_1).f2))) (fun _ hk => ⟨hk.1.2, hk.1.1⟩))) hg hat); have n2_ := Aside0.mk (Kd.R_after (ok := (fun k_ => some k_ ≠ (.slice Ao19 t253.length co19 : Value).ownBlock)) (rC (a := by exact Kd.R_mono (Kd.R_far (p := ⟨gb261, 2, none⟩) (Kd.R_far (p := ⟨gb261, 1, none⟩) (Kd.R_far (p := ⟨gb261, 0, none⟩) (Kd.R_types HO_260002.out BK261.out (by decide)) (fun _ hk => hk.2) (.int .i64 ((rd_T50 l0_0 x22_1).f0))) (fun _ hk => hk.2) (.int .i64 ((rd_T50 l0_0 x22_1).f1))) (fun _ hk => hk.2) (.int .i64 ((rd_T50 l0_0 x22_1).f2))) (fun _ hk => ⟨hk.1.2, hk.1.1⟩))) hg hat); have n3_ := Aside0.mk (blk_grown (g := gb250) (o := .cells #[.slice (some ad260) l0_0.length c0_0, .slice A0_1 l0_1.length c0_1, .slice A0_2 l0_2.length c0_2] 29 (0, 0)) (by refine bC (a := ?_); refine blk_far ?_ NB250_261.out _; refine bC (a := ?_); refine blk_far ?_ NB250_261.out _; refine bC (a := ?_); refine blk_far ?_ NB250_261.out _; refine bC (a := ?_); exact BK250.out) hg (Kd.R_ne HO_5.out BK250.out (by decide))); have n4_ := Aside0.mk (blk_grown (g := gb251) (o := .cells #[.slice none 0 0, .slice none 0 0, .slice none 0 0] 29 (0, 0)) (by refine bC (a := ?_); refine blk_far ?_ NB251_261.out _; refine bC (a := ?_); refine blk_far ?_ NB251_261.out _; refine bC (a := ?_); refine blk_far ?_ NB251_261.out _; refine bC (a := ?_); exact BK251.out) hg (Kd.R_ne HO_5.out BK251.out (by decide))); have n5_ := Aside0.mk (blk_grown (g := gb259) (o := .cells #[u260000, .slice Ao19 t253.length co19, .slice Ao18 t256.length co18] 29 (0, 0)) (by refine bC (a := ?_); refine blk_far ?_ NB259_261.out _; refine bC (a := ?_); refine blk_far ?_ NB259_261.out _; refine bC (a := ?_); refine blk_far ?_ NB259_261.out _; refine bC (a := ?_); exact BK259.out) hg (Kd.R_ne HO_5.out BK259.out (by decide))); have n6_ := Aside0.mk (blk_grown (g := gb261) (o := .cells #[.int .i64 ((rd_T50 l0_0 x22_1).f0), .int .i64 ((rd_T50 l0_0 x22_1).f1), .int .i64 ((rd_T50 l0_0 x22_1).f2)] 50 (0, 0)) (by refine bC (a := ?_); refine blk_put (cs := #[.int .i64 ((rd_T50 l0_0 x22_1).f0), .int .i64 ((rd_T50 l0_0 x22_1).f1), .int .i64 0]) ?_ 2 _ rfl; refine bC (a := ?_); refine blk_put (cs := #[.int .i64 ((rd_T50 l0_0 x22_1).f0), .int .i64 0, .int .i64 0]) ?_ 1 _ rfl; refine bC (a := ?_); refine blk_put (cs := #[.int .i64 0, .int .i64 0, .int .i64 0]) ?_ 0 _ rfl; refine bC (a := ?_); exact BK261.out) hg (Kd.R_ne HO_5.out BK261.out (by decide))); have n7_ := Aside0.mk (hb); have n8_ := Aside0.mk (ho); clear HO_260000; clear HO_260001; clear HO_260002; clear BK250; clear BK251; clear BK259; clear BK261; clear HB; clear HO_5; have HO_260000 := n0_; have HO_260001 := n1_; have HO_260002 := n2_; have BK250 := n3_; have BK251 := n4_; have BK259 := n5_; have BK261 := n6_; have HB := n7_; have HO264 := n8_; clear n0_ n1_ n2_ n3_ n4_ n5_ n6_ n7_ n8_; clear ho hb hg hat))
         go_roundg k1
         case measure => have := HK1.out; omega
         case rel => exact ⟨(y262), (wrap64 (x22_1 + 1)), (x260000_1), (u260000), rs, H', ⟨by have := HK1.out; omega⟩, ⟨by refine rC (a := ?_); exact HO264.out⟩, ⟨by refine rC (a := ?_); exact Kd.R_mono HO_260000.out (fun _ hk => trivial)⟩, ⟨by refine rC (a := ?_); exact Kd.R_mono HO_260001.out (fun _ hk => ⟨hk.2, hk.1⟩)⟩, ⟨by refine rC (a := ?_); exact Kd.R_mono HO_260002.out (fun _ hk => ⟨hk.2, hk.1⟩)⟩, ⟨by refine bC (a := ?_); exact BK250.out⟩, ⟨by refine bC (a := ?_); exact BK251.out⟩, ⟨by refine bC (a := ?_); exact BK259.out⟩, ⟨hA HB.out⟩⟩
        ·rw [if_neg c29] at H
         exact absurd H (by simp)
       ·rw [if_neg c28] at H
        have c28b0 : (((rd_T50 l0_0 x22_1).f0) == ((rd_T50 l0_0 x22_1).f1)) = false := beq_eq_false_iff_ne.mpr c28
        have c28b1 : (((rd_T50 l0_0 x22_1).f0) != ((rd_T50 l0_0 x22_1).f1)) = true := bne_iff_ne.mpr c28
        replace H := Option.bind_eq_some_iff.mp H
        obtain ⟨t265, A360, H⟩ := H
        replace H : (if t265 = true then (if x5_1.length < 17592186044416 then (impl_MendBook.l0 k1 (x5_1 ++ [x22_1]) l0_0 (l0_0.length : Int) (wrap64 (x22_1 + 1)) x260000_1 t253 t256) else (none)) else (if x260000_1.length < 5864062014805 then (impl_MendBook.l0 k1 x5_1 l0_0 (l0_0.length : Int) (wrap64 (x22_1 + 1)) (x260000_1 ++ [(⟨(rd_T50 l0_0 x22_1).f0, (rd_T50 l0_0 x22_1).f1, (rd_T50 l0_0 x22_1).f2⟩ : S50)]) t253 t256) else (none))) = some (r1, r2, r3, r4) := H
        have A36 := Aside0.mk A360
        clear A360
        by_cases c37 : t265 = true
        ·subst c37
         have H1 : (if x5_1.length < 17592186044416 then (impl_MendBook.l0 k1 (x5_1 ++ [x22_1]) l0_0 (l0_0.length : Int) (wrap64 (x22_1 + 1)) x260000_1 t253 t256) else (none)) = some (r1, r2, r3, r4) := by rw [if_pos rfl] at H; exact H
         clear H
         have H := H1
         clear H1
         by_cases c38 : x5_1.length < 17592186044416
         ·rw [if_pos c38] at H
          have LMc38 := Aside0.mk c38
          clear c38
          obtain ⟨y266, hy266⟩ : ∃ y_ : List Int, y_ = (x5_1 ++ [x22_1]) := ⟨_, rfl⟩
          replace H : (impl_MendBook.l0 k1 y266 l0_0 (l0_0.length : Int) (wrap64 (x22_1 + 1)) x260000_1 t253 t256) = some (r1, r2, r3, r4) := by first | (rw [hy266]; with_reducible exact H) | (have H2_ := (Option.bind_some _ _).symm.trans H; rw [hy266]; with_reducible exact H2_) | (have H2_ := (Option.bind_some _ _).symm.trans H; with_reducible exact H2_) | with_reducible exact H | (rw [hy266]; exact H) | exact H
          have Ny266 := Aside0.mk hy266
          clear hy266
          have H' := Aside0.mk H
          clear H
          have p260 : 0 ≤ (x22_1 : Int) := of_decide_eq_true sm
          have q260 : x22_1 < (l0_0.length : Int) := of_decide_eq_true sm
          obtain ⟨ad260, e260, hx260_0, hx260_1, hx260_2⟩ := at_T50 HR0_0.out x22_1 p260 q260
          cases e260
          try (replace hx260_0 := (HB.out.cell (World.block_lt_of_cell? w _ hx260_0)).trans hx260_0)
          try (replace hx260_1 := (HB.out.cell (World.block_lt_of_cell? w _ hx260_1)).trans hx260_1)
          try (replace hx260_2 := (HB.out.cell (World.block_lt_of_cell? w _ hx260_2)).trans hx260_2)
          replace p260 := eq_true p260
          replace q260 := eq_true q260
          go_wp2_with (first | ((with_reducible refine gate_dst (N := 7) rfl ?_); refine box_event ?hg (N := 7) ?hd (cs := #[.int .i64 0, .int .i64 0, .int .i64 0]) (t := 50) ?hr ?_; (case hd => rfl); (case hg => rfl); (case hr => first | (go_simp; done) | (go_simp; rfl)); intro gb261 hg w39 hbox hb; have n0_ := Aside0.mk (Kd.R_below (rA HO_5.out) hb); have n1_ := Aside0.mk (Kd.R_below (Kd.R_elderB (rA HO_260000.out) gb261 (Nat.le_of_eq hg.symm)) hb); have n2_ := Aside0.mk (Kd.R_below (rA HO_260001.out) hb); have n3_ := Aside0.mk (Kd.R_below (rA HO_260002.out) hb); have n4_ := Aside0.mk (bB BK250.out hb); have n5_ := Aside0.mk (bB BK251.out hb); have n6_ := Aside0.mk (bB BK259.out hb); have n7_ := Aside0.mk (below_step (hA HB.out) hb); have n8_ := Aside0.mk (hbox); have n9_ := Aside0.mk ((by rw [hg]; exact (below_size (hA HB.out)) : w.heap.size ≤ gb261)); have n10_ := Aside0.mk ((by rw [hg]; exact (below_size (hA HB.out)) : w.heap.size ≤ gb261)); have n11_ := Aside0.mk ((by rw [hg]; exact Nat.ne_of_lt (blk_lt (g := gb250) (o := .cells #[.slice (some ad260) l0_0.length c0_0, .slice A0_1 l0_1.length c0_1, .slice A0_2 l0_2.length c0_2] 29 (0, 0)) (bA BK250.out)) : gb250 ≠ gb261)); have n12_ := Aside0.mk ((by rw [hg]; exact Nat.ne_of_gt (blk_lt (g := gb250) (o := .cells #[.slice (some ad260) l0_0.length c0_0, .slice A0_1 l0_1.length c0_1, .slice A0_2 l0_2.length c0_2] 29 (0, 0)) (bA BK250.out)) : gb261 ≠ gb250)); have n13_ := Aside0.mk ((by rw [hg]; exact Nat.ne_of_lt (blk_lt (g := gb251) (o := .cells #[.slice none 0 0, .slice none 0 0, .slice none 0 0] 29 (0, 0)) (bA BK251.out)) : gb251 ≠ gb261)); have n14_ := Aside0.mk ((by rw [hg]; exact Nat.ne_of_gt (blk_lt (g := gb251) (o := .cells #[.slice none 0 0, .slice none 0 0, .slice none 0 0] 29 (0, 0)) (bA BK251.out)) : gb261 ≠ gb251)); have n15_ := Aside0.mk ((by rw [hg]; exact Nat.ne_of_lt (blk_lt (g := gb259) (o := .cells #[u260000, .slice Ao19 t253.length co19, .slice Ao18 t256.length co18] 29 (0, 0)) (bA BK259.out)) : gb259 ≠ gb261)); have n16_ := Aside0.mk ((by rw [hg]; exact Nat.ne_of_gt (blk_lt (g := gb259) (o := .cells #[u260000, .slice Ao19 t253.length co19, .slice Ao18 t256.length co18] 29 (0, 0)) (bA BK259.out)) : gb261 ≠ gb259)); clear HO_5; clear HO_260000; clear HO_260001; clear HO_260002; clear BK250; clear BK251; clear BK259; clear HB; have HO_5 := n0_; have HO_260000 := n1_; have HO_260001 := n2_; have HO_260002 := n3_; have BK250 := n4_; have BK251 := n5_; have BK259 := n6_; have HB := n7_; have BK261 := n8_; have GW261 := n9_; have GE261 := n10_; have NB250_261 := n11_; have NB261_250 := n12_; have NB251_261 := n13_; have NB261_251 := n14_; have NB259_261 := n15_; have NB261_259 := n16_; clear n0_ n1_ n2_ n3_ n4_ n5_ n6_ n7_ n8_ n9_ n10_ n11_ n12_ n13_ n14_ n15_ n16_; clear hb hbox hg; have hnb40 := NB261_250.out; have hnc40 := NB250_261.out; have hnb41 := NB261_251.out; have hnc41 := NB251_261.out; have hnb42 := NB261_259.out; have hnc42 := NB259_261.out; have hcz43_0 : w39.cell? ⟨gb261, 0, none⟩ = some (.int .i64 0) := (blk_cell BK261.out 0).trans rfl; have hcz43_1 : w39.cell? ⟨gb261, 1, none⟩ = some (.int .i64 0) := (blk_cell BK261.out 1).trans rfl; have hcz43_2 : w39.cell? ⟨gb261, 2, none⟩ = some (.int .i64 0) := (blk_cell BK261.out 2).trans rfl; have hfz43_0 := blk_frozen BK261.out 0; have hfz43_1 := blk_frozen BK261.out 1; have hfz43_2 := blk_frozen BK261.out 2; have hnb44 := NB259_250.out; have hnc44 := NB250_259.out; have hnb45 := NB259_251.out; have hnc45 := NB251_259.out; have hcz46_0 : w39.cell? ⟨gb259, 0, none⟩ = some (u260000) := (blk_cell BK259.out 0).trans rfl; have hcz46_1 : w39.cell? ⟨gb259, 1, none⟩ = some (.slice Ao19 t253.length co19) := (blk_cell BK259.out 1).trans rfl; have hcz46_2 : w39.cell? ⟨gb259, 2, none⟩ = some (.slice Ao18 t256.length co18) := (blk_cell BK259.out 2).trans rfl; have hfz46_0 := blk_frozen BK259.out 0; have hfz46_1 := blk_frozen BK259.out 1; have hfz46_2 := blk_frozen BK259.out 2; obtain ⟨Ao47, co47, eo47⟩ := Kd.R_slice HO_260000.out; subst eo47) | (go_at_call 42; (with_reducible refine (impl_Talk_42.calls k1 _ _ x260000_1 ((rd_T50 l0_0 x22_1).f0) ((rd_T50 l0_0 x22_1).f1) ((rd_T50 l0_0 x22_1).f2) true _ ?side1 ?side2 A36.out).mono ?_); (case side1 => refine (Kd.R_reads' (e := 50) (base := w.heap.size) (ok := fun k_ => (True ∧ k_ ≠ gb261)) (n := x260000_1.length) (c := co47) ?_).2.2; exact (rC (a := by exact (Kd.R_mono (Kd.R_far (p := ⟨gb261, 2, none⟩) (Kd.R_far (p := ⟨gb261, 1, none⟩) (Kd.R_far (p := ⟨gb261, 0, none⟩) (Kd.R_mono HO_260000.out (fun k_ hk => (⟨hk, hk.2⟩ : _ ∧ k_ ≠ gb261))) (fun _ hk => hk.2) (.int .i64 ((rd_T50 l0_0 x22_1).f0))) (fun _ hk => hk.2) (.int .i64 ((rd_T50 l0_0 x22_1).f1))) (fun _ hk => hk.2) (.int .i64 ((rd_T50 l0_0 x22_1).f2))) (fun _ h_ => h_.1))))); (case side2 => exact (Kd.R_reads' HO_260000.out).2.1); rintro e w48 ⟨rfl, hb⟩; have n0_ := Aside0.mk (Kd.R_below (rC (a := by exact (Kd.R_mono (Kd.R_far (p := ⟨gb261, 2, none⟩) (Kd.R_far (p := ⟨gb261, 1, none⟩) (Kd.R_far (p := ⟨gb261, 0, none⟩) (Kd.R_types HO_5.out BK261.out (by decide)) (fun _ hk => hk.2) (.int .i64 ((rd_T50 l0_0 x22_1).f0))) (fun _ hk => hk.2) (.int .i64 ((rd_T50 l0_0 x22_1).f1))) (fun _ hk => hk.2) (.int .i64 ((rd_T50 l0_0 x22_1).f2))) (fun _ h_ => h_.1)))) hb); have n1_ := Aside0.mk (Kd.R_below (rC (a := by exact (Kd.R_mono (Kd.R_far (p := ⟨gb261, 2, none⟩) (Kd.R_far (p := ⟨gb261, 1, none⟩) (Kd.R_far (p := ⟨gb261, 0, none⟩) (Kd.R_mono HO_260000.out (fun k_ hk => (⟨hk, hk.2⟩ : _ ∧ k_ ≠ gb261))) (fun _ hk => hk.2) (.int .i64 ((rd_T50 l0_0 x22_1).f0))) (fun _ hk => hk.2) (.int .i64 ((rd_T50 l0_0 x22_1).f1))) (fun _ hk => hk.2) (.int .i64 ((rd_T50 l0_0 x22_1).f2))) (fun _ h_ => h_.1)))) hb); have n2_ := Aside0.mk (Kd.R_below (rC (a := by exact (Kd.R_mono (Kd.R_far (p := ⟨gb261, 2, none⟩) (Kd.R_far (p := ⟨gb261, 1, none⟩) (Kd.R_far (p := ⟨gb261, 0, none⟩) (Kd.R_types HO_260001.out BK261.out (by decide)) (fun _ hk => hk.2) (.int .i64 ((rd_T50 l0_0 x22_1).f0))) (fun _ hk => hk.2) (.int .i64 ((rd_T50 l0_0 x22_1).f1))) (fun _ hk => hk.2) (.int .i64 ((rd_T50 l0_0 x22_1).f2))) (fun _ h_ => h_.1)))) hb); have n3_ := Aside0.mk (Kd.R_below (rC (a := by exact (Kd.R_mono (Kd.R_far (p := ⟨gb261, 2, none⟩) (Kd.R_far (p := ⟨gb261, 1, none⟩) (Kd.R_far (p := ⟨gb261, 0, none⟩) (Kd.R_types HO_260002.out BK261.out (by decide)) (fun _ hk => hk.2) (.int .i64 ((rd_T50 l0_0 x22_1).f0))) (fun _ hk => hk.2) (.int .i64 ((rd_T50 l0_0 x22_1).f1))) (fun _ hk => hk.2) (.int .i64 ((rd_T50 l0_0 x22_1).f2))) (fun _ h_ => h_.1)))) hb); have n4_ := Aside0.mk (blk_below (g := gb250) (o := .cells #[.slice (some ad260) l0_0.length c0_0, .slice A0_1 l0_1.length c0_1, .slice A0_2 l0_2.length c0_2] 29 (0, 0)) (by refine bC (a := ?_); refine blk_far ?_ NB250_261.out _; refine bC (a := ?_); refine blk_far ?_ NB250_261.out _; refine bC (a := ?_); refine blk_far ?_ NB250_261.out _; refine bC (a := ?_); exact BK250.out) hb); have n5_ := Aside0.mk (blk_below (g := gb251) (o := .cells #[.slice none 0 0, .slice none 0 0, .slice none 0 0] 29 (0, 0)) (by refine bC (a := ?_); refine blk_far ?_ NB251_261.out _; refine bC (a := ?_); refine blk_far ?_ NB251_261.out _; refine bC (a := ?_); refine blk_far ?_ NB251_261.out _; refine bC (a := ?_); exact BK251.out) hb); have n6_ := Aside0.mk (blk_below (g := gb259) (o := .cells #[.slice Ao47 x260000_1.length co47, .slice Ao19 t253.length co19, .slice Ao18 t256.length co18] 29 (0, 0)) (by refine bC (a := ?_); refine blk_far ?_ NB259_261.out _; refine bC (a := ?_); refine blk_far ?_ NB259_261.out _; refine bC (a := ?_); refine blk_far ?_ NB259_261.out _; refine bC (a := ?_); exact BK259.out) hb); have n7_ := Aside0.mk (blk_below (g := gb261) (o := .cells #[.int .i64 ((rd_T50 l0_0 x22_1).f0), .int .i64 ((rd_T50 l0_0 x22_1).f1), .int .i64 ((rd_T50 l0_0 x22_1).f2)] 50 (0, 0)) (by refine bC (a := ?_); refine blk_put (cs := #[.int .i64 ((rd_T50 l0_0 x22_1).f0), .int .i64 ((rd_T50 l0_0 x22_1).f1), .int .i64 0]) ?_ 2 _ rfl; refine bC (a := ?_); refine blk_put (cs := #[.int .i64 ((rd_T50 l0_0 x22_1).f0), .int .i64 0, .int .i64 0]) ?_ 1 _ rfl; refine bC (a := ?_); refine blk_put (cs := #[.int .i64 0, .int .i64 0, .int .i64 0]) ?_ 0 _ rfl; refine bC (a := ?_); exact BK261.out) hb); have n8_ := Aside0.mk (below_step (hA HB.out) hb); clear HO_5; clear HO_260000; clear HO_260001; clear HO_260002; clear BK250; clear BK251; clear BK259; clear BK261; clear HB; have HO_5 := n0_; have HO_260000 := n1_; have HO_260001 := n2_; have HO_260002 := n3_; have BK250 := n4_; have BK251 := n5_; have BK259 := n6_; have BK261 := n7_; have HB := n8_; clear n0_ n1_ n2_ n3_ n4_ n5_ n6_ n7_ n8_; (try clear hb); (try clear hb2); (try clear hk); (try clear hi)) | ((with_reducible refine gate_builtin (b := .append) (xs := #[.tmp 39, .tmp 41]) rfl ?_); at_builtin; refine Kd.R_append (Kd.int .i64) (w0 := w) w.heap.size rfl (.tmp 39) (.tmp 41) 23 3 (.int .i64 0) 8 rfl Try.underlying23 info3 rfl (by decide) (by omega) u5 x5_1 x22_1 [.int .i64 x22_1] (fun k_ => some k_ ≠ (.slice Ao19 t253.length co19 : Value).ownBlock ∧ some k_ ≠ (.slice Ao18 t256.length co18 : Value).ownBlock) (fun _ => False) rfl rfl ?aP (fun _ hk => hk.elim) ?aF ?aO ?aB ?aS ?aL ?_; (case aP => exact rfl); (case aB => exact (hA HB.out)); (case aF => exact (fun k_ hk => ⟨Kd.fresh' (Kd.R_lt (rA HO_260001.out)) k_ hk, Kd.fresh' (Kd.R_lt (rA HO_260002.out)) k_ hk⟩)); (case aO => exact (rA HO_5.out)); (case aS => exact (below_size (hA HB.out))); (case aL => have := LMc38.out; omega); intro v267 w49 ho hb hg hat; rw [← Ny266.out] at ho; have n0_ := Aside0.mk (Kd.R_over' (rA HO_260000.out) (Kd.R_typed (rA HO_5.out)) (by decide) hg); have n1_ := Aside0.mk (Kd.R_after (ok := (fun k_ => some k_ ≠ (.slice Ao18 t256.length co18 : Value).ownBlock)) (rC (a := by exact Kd.R_mono HO_260001.out (fun _ hk => ⟨hk.2, hk.1⟩))) hg hat); have n2_ := Aside0.mk (Kd.R_after (ok := (fun k_ => some k_ ≠ (.slice Ao19 t253.length co19 : Value).ownBlock)) (rC (a := by exact Kd.R_mono HO_260002.out (fun _ hk => ⟨hk.2, hk.1⟩))) hg hat); have n3_ := Aside0.mk (blk_grown (g := gb250) (o := .cells #[.slice (some ad260) l0_0.length c0_0, .slice A0_1 l0_1.length c0_1, .slice A0_2 l0_2.length c0_2] 29 (0, 0)) (bA BK250.out) hg (Kd.R_ne HO_5.out BK250.out (by decide))); have n4_ := Aside0.mk (blk_grown (g := gb251) (o := .cells #[.slice none 0 0, .slice none 0 0, .slice none 0 0] 29 (0, 0)) (bA BK251.out) hg (Kd.R_ne HO_5.out BK251.out (by decide))); have n5_ := Aside0.mk (blk_grown (g := gb259) (o := .cells #[.slice Ao47 x260000_1.length co47, .slice Ao19 t253.length co19, .slice Ao18 t256.length co18] 29 (0, 0)) (bA BK259.out) hg (Kd.R_ne HO_5.out BK259.out (by decide))); have n6_ := Aside0.mk (blk_grown (g := gb261) (o := .cells #[.int .i64 ((rd_T50 l0_0 x22_1).f0), .int .i64 ((rd_T50 l0_0 x22_1).f1), .int .i64 ((rd_T50 l0_0 x22_1).f2)] 50 (0, 0)) (bA BK261.out) hg (Kd.R_ne HO_5.out BK261.out (by decide))); have n7_ := Aside0.mk (hb); have n8_ := Aside0.mk (ho); clear HO_260000; clear HO_260001; clear HO_260002; clear BK250; clear BK251; clear BK259; clear BK261; clear HB; clear HO_5; have HO_260000 := n0_; have HO_260001 := n1_; have HO_260002 := n2_; have BK250 := n3_; have BK251 := n4_; have BK259 := n5_; have BK261 := n6_; have HB := n7_; have HO268 := n8_; clear n0_ n1_ n2_ n3_ n4_ n5_ n6_ n7_ n8_; clear ho hb hg hat))
          go_roundg k1
          case measure => have := HK1.out; omega
          case rel => exact ⟨(y266), (wrap64 (x22_1 + 1)), (x260000_1), (.slice Ao47 x260000_1.length co47), rs, H', ⟨by have := HK1.out; omega⟩, ⟨by refine rC (a := ?_); exact HO268.out⟩, ⟨by refine rC (a := ?_); exact Kd.R_mono HO_260000.out (fun _ hk => trivial)⟩, ⟨by refine rC (a := ?_); exact Kd.R_mono HO_260001.out (fun _ hk => ⟨hk.2, hk.1⟩)⟩, ⟨by refine rC (a := ?_); exact Kd.R_mono HO_260002.out (fun _ hk => ⟨hk.2, hk.1⟩)⟩, ⟨by refine bC (a := ?_); exact BK250.out⟩, ⟨by refine bC (a := ?_); exact BK251.out⟩, ⟨by refine bC (a := ?_); exact BK259.out⟩, ⟨hA HB.out⟩⟩
         ·rw [if_neg c38] at H
          exact absurd H (by simp)
        ·replace c37 := Bool.eq_false_iff.mpr c37
         subst c37
         have H1 : (if x260000_1.length < 5864062014805 then (impl_MendBook.l0 k1 x5_1 l0_0 (l0_0.length : Int) (wrap64 (x22_1 + 1)) (x260000_1 ++ [(⟨(rd_T50 l0_0 x22_1).f0, (rd_T50 l0_0 x22_1).f1, (rd_T50 l0_0 x22_1).f2⟩ : S50)]) t253 t256) else (none)) = some (r1, r2, r3, r4) := by rw [if_neg (show ¬ (false = true) by decide)] at H; exact H
         clear H
         have H := H1
         clear H1
         by_cases c50 : x260000_1.length < 5864062014805
         ·rw [if_pos c50] at H
          have LMc50 := Aside0.mk c50
          clear c50
          obtain ⟨y269, hy269⟩ : ∃ y_ : List (S50), y_ = (x260000_1 ++ [(⟨(rd_T50 l0_0 x22_1).f0, (rd_T50 l0_0 x22_1).f1, (rd_T50 l0_0 x22_1).f2⟩ : S50)]) := ⟨_, rfl⟩
          replace H : (impl_MendBook.l0 k1 x5_1 l0_0 (l0_0.length : Int) (wrap64 (x22_1 + 1)) y269 t253 t256) = some (r1, r2, r3, r4) := by first | (rw [hy269]; with_reducible exact H) | (have H2_ := (Option.bind_some _ _).symm.trans H; rw [hy269]; with_reducible exact H2_) | (have H2_ := (Option.bind_some _ _).symm.trans H; with_reducible exact H2_) | with_reducible exact H | (rw [hy269]; exact H) | exact H
          have Ny269 := Aside0.mk hy269
          clear hy269
          have H' := Aside0.mk H
          clear H
          have p260 : 0 ≤ (x22_1 : Int) := of_decide_eq_true sm
          have q260 : x22_1 < (l0_0.length : Int) := of_decide_eq_true sm
          obtain ⟨ad260, e260, hx260_0, hx260_1, hx260_2⟩ := at_T50 HR0_0.out x22_1 p260 q260
          cases e260
          try (replace hx260_0 := (HB.out.cell (World.block_lt_of_cell? w _ hx260_0)).trans hx260_0)
          try (replace hx260_1 := (HB.out.cell (World.block_lt_of_cell? w _ hx260_1)).trans hx260_1)
          try (replace hx260_2 := (HB.out.cell (World.block_lt_of_cell? w _ hx260_2)).trans hx260_2)
          replace p260 := eq_true p260
          replace q260 := eq_true q260
          go_wp2_with (first | ((with_reducible refine gate_dst (N := 7) rfl ?_); refine box_event ?hg (N := 7) ?hd (cs := #[.int .i64 0, .int .i64 0, .int .i64 0]) (t := 50) ?hr ?_; (case hd => rfl); (case hg => rfl); (case hr => first | (go_simp; done) | (go_simp; rfl)); intro gb261 hg w51 hbox hb; have n0_ := Aside0.mk (Kd.R_below (rA HO_5.out) hb); have n1_ := Aside0.mk (Kd.R_below (Kd.R_elderB (rA HO_260000.out) gb261 (Nat.le_of_eq hg.symm)) hb); have n2_ := Aside0.mk (Kd.R_below (rA HO_260001.out) hb); have n3_ := Aside0.mk (Kd.R_below (rA HO_260002.out) hb); have n4_ := Aside0.mk (bB BK250.out hb); have n5_ := Aside0.mk (bB BK251.out hb); have n6_ := Aside0.mk (bB BK259.out hb); have n7_ := Aside0.mk (below_step (hA HB.out) hb); have n8_ := Aside0.mk (hbox); have n9_ := Aside0.mk ((by rw [hg]; exact (below_size (hA HB.out)) : w.heap.size ≤ gb261)); have n10_ := Aside0.mk ((by rw [hg]; exact (below_size (hA HB.out)) : w.heap.size ≤ gb261)); have n11_ := Aside0.mk ((by rw [hg]; exact Nat.ne_of_lt (blk_lt (g := gb250) (o := .cells #[.slice (some ad260) l0_0.length c0_0, .slice A0_1 l0_1.length c0_1, .slice A0_2 l0_2.length c0_2] 29 (0, 0)) (bA BK250.out)) : gb250 ≠ gb261)); have n12_ := Aside0.mk ((by rw [hg]; exact Nat.ne_of_gt (blk_lt (g := gb250) (o := .cells #[.slice (some ad260) l0_0.length c0_0, .slice A0_1 l0_1.length c0_1, .slice A0_2 l0_2.length c0_2] 29 (0, 0)) (bA BK250.out)) : gb261 ≠ gb250)); have n13_ := Aside0.mk ((by rw [hg]; exact Nat.ne_of_lt (blk_lt (g := gb251) (o := .cells #[.slice none 0 0, .slice none 0 0, .slice none 0 0] 29 (0, 0)) (bA BK251.out)) : gb251 ≠ gb261)); have n14_ := Aside0.mk ((by rw [hg]; exact Nat.ne_of_gt (blk_lt (g := gb251) (o := .cells #[.slice none 0 0, .slice none 0 0, .slice none 0 0] 29 (0, 0)) (bA BK251.out)) : gb261 ≠ gb251)); have n15_ := Aside0.mk ((by rw [hg]; exact Nat.ne_of_lt (blk_lt (g := gb259) (o := .cells #[u260000, .slice Ao19 t253.length co19, .slice Ao18 t256.length co18] 29 (0, 0)) (bA BK259.out)) : gb259 ≠ gb261)); have n16_ := Aside0.mk ((by rw [hg]; exact Nat.ne_of_gt (blk_lt (g := gb259) (o := .cells #[u260000, .slice Ao19 t253.length co19, .slice Ao18 t256.length co18] 29 (0, 0)) (bA BK259.out)) : gb261 ≠ gb259)); clear HO_5; clear HO_260000; clear HO_260001; clear HO_260002; clear BK250; clear BK251; clear BK259; clear HB; have HO_5 := n0_; have HO_260000 := n1_; have HO_260001 := n2_; have HO_260002 := n3_; have BK250 := n4_; have BK251 := n5_; have BK259 := n6_; have HB := n7_; have BK261 := n8_; have GW261 := n9_; have GE261 := n10_; have NB250_261 := n11_; have NB261_250 := n12_; have NB251_261 := n13_; have NB261_251 := n14_; have NB259_261 := n15_; have NB261_259 := n16_; clear n0_ n1_ n2_ n3_ n4_ n5_ n6_ n7_ n8_ n9_ n10_ n11_ n12_ n13_ n14_ n15_ n16_; clear hb hbox hg; have hnb52 := NB261_250.out; have hnc52 := NB250_261.out; have hnb53 := NB261_251.out; have hnc53 := NB251_261.out; have hnb54 := NB261_259.out; have hnc54 := NB259_261.out; have hcz55_0 : w51.cell? ⟨gb261, 0, none⟩ = some (.int .i64 0) := (blk_cell BK261.out 0).trans rfl; have hcz55_1 : w51.cell? ⟨gb261, 1, none⟩ = some (.int .i64 0) := (blk_cell BK261.out 1).trans rfl; have hcz55_2 : w51.cell? ⟨gb261, 2, none⟩ = some (.int .i64 0) := (blk_cell BK261.out 2).trans rfl; have hfz55_0 := blk_frozen BK261.out 0; have hfz55_1 := blk_frozen BK261.out 1; have hfz55_2 := blk_frozen BK261.out 2; have hnb56 := NB259_250.out; have hnc56 := NB250_259.out; have hnb57 := NB259_251.out; have hnc57 := NB251_259.out; have hcz58_0 : w51.cell? ⟨gb259, 0, none⟩ = some (u260000) := (blk_cell BK259.out 0).trans rfl; have hcz58_1 : w51.cell? ⟨gb259, 1, none⟩ = some (.slice Ao19 t253.length co19) := (blk_cell BK259.out 1).trans rfl; have hcz58_2 : w51.cell? ⟨gb259, 2, none⟩ = some (.slice Ao18 t256.length co18) := (blk_cell BK259.out 2).trans rfl; have hfz58_0 := blk_frozen BK259.out 0; have hfz58_1 := blk_frozen BK259.out 1; have hfz58_2 := blk_frozen BK259.out 2; obtain ⟨Ao59, co59, eo59⟩ := Kd.R_slice HO_260000.out; subst eo59) | (go_at_call 42; (with_reducible refine (impl_Talk_42.calls k1 _ _ x260000_1 ((rd_T50 l0_0 x22_1).f0) ((rd_T50 l0_0 x22_1).f1) ((rd_T50 l0_0 x22_1).f2) false _ ?side1 ?side2 A36.out).mono ?_); (case side1 => refine (Kd.R_reads' (e := 50) (base := w.heap.size) (ok := fun k_ => (True ∧ k_ ≠ gb261)) (n := x260000_1.length) (c := co59) ?_).2.2; exact (rC (a := by exact (Kd.R_mono (Kd.R_far (p := ⟨gb261, 2, none⟩) (Kd.R_far (p := ⟨gb261, 1, none⟩) (Kd.R_far (p := ⟨gb261, 0, none⟩) (Kd.R_mono HO_260000.out (fun k_ hk => (⟨hk, hk.2⟩ : _ ∧ k_ ≠ gb261))) (fun _ hk => hk.2) (.int .i64 ((rd_T50 l0_0 x22_1).f0))) (fun _ hk => hk.2) (.int .i64 ((rd_T50 l0_0 x22_1).f1))) (fun _ hk => hk.2) (.int .i64 ((rd_T50 l0_0 x22_1).f2))) (fun _ h_ => h_.1))))); (case side2 => exact (Kd.R_reads' HO_260000.out).2.1); rintro e w60 ⟨rfl, hb⟩; have n0_ := Aside0.mk (Kd.R_below (rC (a := by exact (Kd.R_mono (Kd.R_far (p := ⟨gb261, 2, none⟩) (Kd.R_far (p := ⟨gb261, 1, none⟩) (Kd.R_far (p := ⟨gb261, 0, none⟩) (Kd.R_types HO_5.out BK261.out (by decide)) (fun _ hk => hk.2) (.int .i64 ((rd_T50 l0_0 x22_1).f0))) (fun _ hk => hk.2) (.int .i64 ((rd_T50 l0_0 x22_1).f1))) (fun _ hk => hk.2) (.int .i64 ((rd_T50 l0_0 x22_1).f2))) (fun _ h_ => h_.1)))) hb); have n1_ := Aside0.mk (Kd.R_below (rC (a := by exact (Kd.R_mono (Kd.R_far (p := ⟨gb261, 2, none⟩) (Kd.R_far (p := ⟨gb261, 1, none⟩) (Kd.R_far (p := ⟨gb261, 0, none⟩) (Kd.R_mono HO_260000.out (fun k_ hk => (⟨hk, hk.2⟩ : _ ∧ k_ ≠ gb261))) (fun _ hk => hk.2) (.int .i64 ((rd_T50 l0_0 x22_1).f0))) (fun _ hk => hk.2) (.int .i64 ((rd_T50 l0_0 x22_1).f1))) (fun _ hk => hk.2) (.int .i64 ((rd_T50 l0_0 x22_1).f2))) (fun _ h_ => h_.1)))) hb); have n2_ := Aside0.mk (Kd.R_below (rC (a := by exact (Kd.R_mono (Kd.R_far (p := ⟨gb261, 2, none⟩) (Kd.R_far (p := ⟨gb261, 1, none⟩) (Kd.R_far (p := ⟨gb261, 0, none⟩) (Kd.R_types HO_260001.out BK261.out (by decide)) (fun _ hk => hk.2) (.int .i64 ((rd_T50 l0_0 x22_1).f0))) (fun _ hk => hk.2) (.int .i64 ((rd_T50 l0_0 x22_1).f1))) (fun _ hk => hk.2) (.int .i64 ((rd_T50 l0_0 x22_1).f2))) (fun _ h_ => h_.1)))) hb); have n3_ := Aside0.mk (Kd.R_below (rC (a := by exact (Kd.R_mono (Kd.R_far (p := ⟨gb261, 2, none⟩) (Kd.R_far (p := ⟨gb261, 1, none⟩) (Kd.R_far (p := ⟨gb261, 0, none⟩) (Kd.R_types HO_260002.out BK261.out (by decide)) (fun _ hk => hk.2) (.int .i64 ((rd_T50 l0_0 x22_1).f0))) (fun _ hk => hk.2) (.int .i64 ((rd_T50 l0_0 x22_1).f1))) (fun _ hk => hk.2) (.int .i64 ((rd_T50 l0_0 x22_1).f2))) (fun _ h_ => h_.1)))) hb); have n4_ := Aside0.mk (blk_below (g := gb250) (o := .cells #[.slice (some ad260) l0_0.length c0_0, .slice A0_1 l0_1.length c0_1, .slice A0_2 l0_2.length c0_2] 29 (0, 0)) (by refine bC (a := ?_); refine blk_far ?_ NB250_261.out _; refine bC (a := ?_); refine blk_far ?_ NB250_261.out _; refine bC (a := ?_); refine blk_far ?_ NB250_261.out _; refine bC (a := ?_); exact BK250.out) hb); have n5_ := Aside0.mk (blk_below (g := gb251) (o := .cells #[.slice none 0 0, .slice none 0 0, .slice none 0 0] 29 (0, 0)) (by refine bC (a := ?_); refine blk_far ?_ NB251_261.out _; refine bC (a := ?_); refine blk_far ?_ NB251_261.out _; refine bC (a := ?_); refine blk_far ?_ NB251_261.out _; refine bC (a := ?_); exact BK251.out) hb); have n6_ := Aside0.mk (blk_below (g := gb259) (o := .cells #[.slice Ao59 x260000_1.length co59, .slice Ao19 t253.length co19, .slice Ao18 t256.length co18] 29 (0, 0)) (by refine bC (a := ?_); refine blk_far ?_ NB259_261.out _; refine bC (a := ?_); refine blk_far ?_ NB259_261.out _; refine bC (a := ?_); refine blk_far ?_ NB259_261.out _; refine bC (a := ?_); exact BK259.out) hb); have n7_ := Aside0.mk (blk_below (g := gb261) (o := .cells #[.int .i64 ((rd_T50 l0_0 x22_1).f0), .int .i64 ((rd_T50 l0_0 x22_1).f1), .int .i64 ((rd_T50 l0_0 x22_1).f2)] 50 (0, 0)) (by refine bC (a := ?_); refine blk_put (cs := #[.int .i64 ((rd_T50 l0_0 x22_1).f0), .int .i64 ((rd_T50 l0_0 x22_1).f1), .int .i64 0]) ?_ 2 _ rfl; refine bC (a := ?_); refine blk_put (cs := #[.int .i64 ((rd_T50 l0_0 x22_1).f0), .int .i64 0, .int .i64 0]) ?_ 1 _ rfl; refine bC (a := ?_); refine blk_put (cs := #[.int .i64 0, .int .i64 0, .int .i64 0]) ?_ 0 _ rfl; refine bC (a := ?_); exact BK261.out) hb); have n8_ := Aside0.mk (below_step (hA HB.out) hb); clear HO_5; clear HO_260000; clear HO_260001; clear HO_260002; clear BK250; clear BK251; clear BK259; clear BK261; clear HB; have HO_5 := n0_; have HO_260000 := n1_; have HO_260001 := n2_; have HO_260002 := n3_; have BK250 := n4_; have BK251 := n5_; have BK259 := n6_; have BK261 := n7_; have HB := n8_; clear n0_ n1_ n2_ n3_ n4_ n5_ n6_ n7_ n8_; (try clear hb); (try clear hb2); (try clear hk); (try clear hi); have hcz61_0 : w60.cell? ⟨gb259, 0, none⟩ = some (.slice Ao59 x260000_1.length co59) := (blk_cell BK259.out 0).trans rfl; have hcz61_1 : w60.cell? ⟨gb259, 1, none⟩ = some (.slice Ao19 t253.length co19) := (blk_cell BK259.out 1).trans rfl; have hcz61_2 : w60.cell? ⟨gb259, 2, none⟩ = some (.slice Ao18 t256.length co18) := (blk_cell BK259.out 2).trans rfl; have hfz61_0 := blk_frozen BK259.out 0; have hfz61_1 := blk_frozen BK259.out 1; have hfz61_2 := blk_frozen BK259.out 2; have hcz62_0 : w60.cell? ⟨gb261, 0, none⟩ = some (.int .i64 ((rd_T50 l0_0 x22_1).f0)) := (blk_cell BK261.out 0).trans rfl; have hcz62_1 : w60.cell? ⟨gb261, 1, none⟩ = some (.int .i64 ((rd_T50 l0_0 x22_1).f1)) := (blk_cell BK261.out 1).trans rfl; have hcz62_2 : w60.cell? ⟨gb261, 2, none⟩ = some (.int .i64 ((rd_T50 l0_0 x22_1).f2)) := (blk_cell BK261.out 2).trans rfl; have hfz62_0 := blk_frozen BK261.out 0; have hfz62_1 := blk_frozen BK261.out 1; have hfz62_2 := blk_frozen BK261.out 2) | ((with_reducible refine gate_builtin (b := .append) (xs := #[.tmp 44, .tmp 46]) rfl ?_); at_builtin; refine Kd.R_append k50 (w0 := w) w.heap.size rfl (.tmp 44) (.tmp 46) 27 50 (.agg #[(.int .i64 0), (.int .i64 0), (.int .i64 0)]) 24 rfl Try.underlying27 info50 rfl (by decide) (by omega) (.slice Ao59 x260000_1.length co59) x260000_1 (⟨(rd_T50 l0_0 x22_1).f0, (rd_T50 l0_0 x22_1).f1, (rd_T50 l0_0 x22_1).f2⟩ : S50) [.int .i64 ((rd_T50 l0_0 x22_1).f0), .int .i64 ((rd_T50 l0_0 x22_1).f1), .int .i64 ((rd_T50 l0_0 x22_1).f2)] (fun k_ => k_ ≠ gb261) (fun _ => False) rfl rfl ?aP (fun _ hk => hk.elim) ?aF ?aO ?aB ?aS ?aL ?_; (case aP => exact k50_mkM _ _ _ (⟨(rd_T50 l0_0 x22_1).f0, (rd_T50 l0_0 x22_1).f1, (rd_T50 l0_0 x22_1).f2⟩ : S50)); (case aB => exact (hA HB.out)); (case aF => exact (fun k_ hk => Kd.freshB (g := gb261) (o := .cells #[.int .i64 ((rd_T50 l0_0 x22_1).f0), .int .i64 ((rd_T50 l0_0 x22_1).f1), .int .i64 ((rd_T50 l0_0 x22_1).f2)] 50 (0, 0)) (bA BK261.out) k_ hk)); (case aO => exact (rC (a := by exact Kd.R_mono HO_260000.out (fun _ hk => hk.2)))); (case aS => exact (below_size (hA HB.out))); (case aL => have := LMc50.out; omega); intro v270 w63 ho hb hg hat; rw [← Ny269.out] at ho; have n0_ := Aside0.mk (Kd.R_over' (rA HO_5.out) (Kd.R_typed (rA HO_260000.out)) (by decide) hg); have n1_ := Aside0.mk (Kd.R_over' (rA HO_260001.out) (Kd.R_typed (rA HO_260000.out)) (by decide) hg); have n2_ := Aside0.mk (Kd.R_over' (rA HO_260002.out) (Kd.R_typed (rA HO_260000.out)) (by decide) hg); have n3_ := Aside0.mk (blk_grown (g := gb250) (o := .cells #[.slice (some ad260) l0_0.length c0_0, .slice A0_1 l0_1.length c0_1, .slice A0_2 l0_2.length c0_2] 29 (0, 0)) (bA BK250.out) hg (Kd.R_ne HO_260000.out BK250.out (by decide))); have n4_ := Aside0.mk (blk_grown (g := gb251) (o := .cells #[.slice none 0 0, .slice none 0 0, .slice none 0 0] 29 (0, 0)) (bA BK251.out) hg (Kd.R_ne HO_260000.out BK251.out (by decide))); have n5_ := Aside0.mk (blk_grown (g := gb259) (o := .cells #[.slice Ao59 x260000_1.length co59, .slice Ao19 t253.length co19, .slice Ao18 t256.length co18] 29 (0, 0)) (bA BK259.out) hg (Kd.R_ne HO_260000.out BK259.out (by decide))); have n6_ := Aside0.mk (blk_grown (g := gb261) (o := .cells #[.int .i64 ((rd_T50 l0_0 x22_1).f0), .int .i64 ((rd_T50 l0_0 x22_1).f1), .int .i64 ((rd_T50 l0_0 x22_1).f2)] 50 (0, 0)) (bA BK261.out) hg (Kd.R_away HO_260000.out (fun _ hk => hk.2))); have n7_ := Aside0.mk (hb); have n8_ := Aside0.mk (ho); clear HO_5; clear HO_260001; clear HO_260002; clear BK250; clear BK251; clear BK259; clear BK261; clear HB; clear HO_260000; have HO_5 := n0_; have HO_260001 := n1_; have HO_260002 := n2_; have BK250 := n3_; have BK251 := n4_; have BK259 := n5_; have BK261 := n6_; have HB := n7_; have HO271 := n8_; clear n0_ n1_ n2_ n3_ n4_ n5_ n6_ n7_ n8_; clear ho hb hg hat; obtain ⟨Ao64, co64, eo64⟩ := Kd.R_slice HO271.out; subst eo64; have hcz65_0 : w63.cell? ⟨gb259, 0, none⟩ = some (.slice Ao59 x260000_1.length co59) := (blk_cell BK259.out 0).trans rfl; have hcz65_1 : w63.cell? ⟨gb259, 1, none⟩ = some (.slice Ao19 t253.length co19) := (blk_cell BK259.out 1).trans rfl; have hcz65_2 : w63.cell? ⟨gb259, 2, none⟩ = some (.slice Ao18 t256.length co18) := (blk_cell BK259.out 2).trans rfl; have hfz65_0 := blk_frozen BK259.out 0; have hfz65_1 := blk_frozen BK259.out 1; have hfz65_2 := blk_frozen BK259.out 2))
          go_roundg k1
          case measure => have := HK1.out; omega
          case rel => exact ⟨(x5_1), (wrap64 (x22_1 + 1)), (y269), (.slice Ao64 y269.length co64), rs, H', ⟨by have := HK1.out; omega⟩, ⟨by refine rC (a := ?_); exact Kd.R_mono (Kd.R_far (p := ⟨gb259, 0, none⟩) (Kd.R_types HO_5.out BK259.out (by decide)) (fun _ hk => hk.2) (.slice Ao64 y269.length co64)) (fun _ hk => ⟨hk.1.1, hk.1.2⟩)⟩, ⟨by refine rC (a := ?_); exact Kd.R_mono (Kd.R_far (p := ⟨gb259, 0, none⟩) (Kd.R_types HO271.out BK259.out (by decide)) (fun _ hk => hk.2) (.slice Ao64 y269.length co64)) (fun _ hk => trivial)⟩, ⟨by refine rC (a := ?_); exact Kd.R_mono (Kd.R_far (p := ⟨gb259, 0, none⟩) (Kd.R_types HO_260001.out BK259.out (by decide)) (fun _ hk => hk.2) (.slice Ao64 y269.length co64)) (fun _ hk => ⟨hk.1.1, hk.1.2⟩)⟩, ⟨by refine rC (a := ?_); exact Kd.R_mono (Kd.R_far (p := ⟨gb259, 0, none⟩) (Kd.R_types HO_260002.out BK259.out (by decide)) (fun _ hk => hk.2) (.slice Ao64 y269.length co64)) (fun _ hk => ⟨hk.1.1, hk.1.2⟩)⟩, ⟨by refine bC (a := ?_); refine blk_far ?_ NB250_259.out _; refine bC (a := ?_); exact BK250.out⟩, ⟨by refine bC (a := ?_); refine blk_far ?_ NB251_259.out _; refine bC (a := ?_); exact BK251.out⟩, ⟨by refine bC (a := ?_); refine blk_put (cs := #[.slice Ao59 x260000_1.length co59, .slice Ao19 t253.length co19, .slice Ao18 t256.length co18]) ?_ 0 _ rfl; refine bC (a := ?_); exact BK259.out⟩, ⟨hA HB.out⟩⟩
         ·rw [if_neg c50] at H
          exact absurd H (by simp)
      ·rw [if_neg c27] at H
       exact absurd H (by simp)
     ·rw [if_neg c26] at H
      exact absurd H (by simp)
    ·rw [if_neg c25] at H
     have c25b0 : decide (x22_1 < (l0_0.length : Int)) = false := decide_eq_false c25
     clear c25
     replace H := Option.bind_eq_some_iff.mp H
     obtain ⟨⟨t272, t275⟩, A660, H⟩ := H
     replace H : (some (x260000_1, t272, t275, x5_1)) = some (r1, r2, r3, r4) := H
     have A66 := Aside0.mk A660
     clear A660
     simp only [Option.some.injEq, Prod.mk.injEq] at H
     obtain ⟨rfl, rfl, rfl, rfl⟩ := H
     have hnb67 := NB259_250.out
     have hnc67 := NB250_259.out
     have hnb68 := NB259_251.out
     have hnc68 := NB251_259.out
     have hcz69_0 : wr.cell? ⟨gb259, 0, none⟩ = some (u260000) := (blk_cell BK259.out 0).trans rfl
     have hcz69_1 : wr.cell? ⟨gb259, 1, none⟩ = some (.slice Ao19 t253.length co19) := (blk_cell BK259.out 1).trans rfl
     have hcz69_2 : wr.cell? ⟨gb259, 2, none⟩ = some (.slice Ao18 t256.length co18) := (blk_cell BK259.out 2).trans rfl
     have hfz69_0 := blk_frozen BK259.out 0
     have hfz69_1 := blk_frozen BK259.out 1
     have hfz69_2 := blk_frozen BK259.out 2
     obtain ⟨Ao70, co70, eo70⟩ := Kd.R_slice HO_260000.out
     subst eo70
     go_wp2_with (first | ((with_reducible refine gate_callee (f := 44) rfl ?_); refine goesL_ (some 52) rfl rfl Try.func44 (by kernel_rfl) rfl #[.agg #[.slice Ao70 x260000_1.length co70, .slice Ao19 t253.length co19, .slice Ao18 t256.length co18]] rfl ar ?_; (with_reducible refine (impl_said.calls k1 _ _ x260000_1 _ _ t253 _ _ t256 t272 t275 _ ?side1 ?side2 ?side3 ?side4 ?side5 ?side6 A66.out).mono ?_); (case side1 => exact cA (Kd.R_reads' HO_260000.out).2.2); (case side2 => exact (Kd.R_reads' HO_260000.out).2.1); (case side3 => exact cA (Kd.R_reads' HO_260001.out).2.2); (case side4 => exact (Kd.R_reads' HO_260001.out).2.1); (case side5 => exact cA (Kd.R_reads' HO_260002.out).2.2); (case side6 => exact (Kd.R_reads' HO_260002.out).2.1); rintro e w71 ⟨v273, v276, rfl, ho0, ho1, hb⟩; refine ⟨_, rfl, ?_⟩; have n0_ := Aside0.mk (Kd.R_mono (Kd.R_told (Kd.R_told (Kd.R_old (rA HO_5.out) hb) (Kd.R_base ho0)) (Kd.R_base ho1)) (fun _ h_ => h_.1)); have n1_ := Aside0.mk (Kd.R_below (rA HO_260000.out) hb); have n2_ := Aside0.mk (Kd.R_mono (Kd.R_told (Kd.R_told (Kd.R_old (rA HO_260001.out) hb) (Kd.R_base ho0)) (Kd.R_base ho1)) (fun _ h_ => h_.1)); have n3_ := Aside0.mk (Kd.R_mono (Kd.R_told (Kd.R_told (Kd.R_old (rA HO_260002.out) hb) (Kd.R_base ho0)) (Kd.R_base ho1)) (fun _ h_ => h_.1)); have n4_ := Aside0.mk (Kd.R_lower (Kd.R_new' (Kd.R_new' (Kd.R_new' ho0 (Kd.R_lt (rA HO_5.out))) (Kd.R_lt (rA HO_260001.out))) (Kd.R_lt (rA HO_260002.out))) (below_size (hA HB.out))); have n5_ := Aside0.mk (Kd.R_lower (Kd.R_new' (Kd.R_new' (Kd.R_new' ho1 (Kd.R_lt (rA HO_5.out))) (Kd.R_lt (rA HO_260001.out))) (Kd.R_lt (rA HO_260002.out))) (below_size (hA HB.out))); have n6_ := Aside0.mk (bB BK250.out hb); have n7_ := Aside0.mk (bB BK251.out hb); have n8_ := Aside0.mk (bB BK259.out hb); have n9_ := Aside0.mk (below_step (hA HB.out) hb); clear HO_5; clear HO_260000; clear HO_260001; clear HO_260002; clear BK250; clear BK251; clear BK259; clear HB; have HO_5 := n0_; have HO_260000 := n1_; have HO_260001 := n2_; have HO_260002 := n3_; have HO274 := n4_; have HO277 := n5_; have BK250 := n6_; have BK251 := n7_; have BK259 := n8_; have HB := n9_; clear n0_ n1_ n2_ n3_ n4_ n5_ n6_ n7_ n8_ n9_; (try clear hb); (try clear hb2); (try clear hk); (try clear hi); (try clear ho0); (try clear ho1); obtain ⟨Ao72, co72, eo72⟩ := Kd.R_slice HO274.out; subst eo72; have hcz73_0 : w71.cell? ⟨gb259, 0, none⟩ = some (.slice Ao70 x260000_1.length co70) := (blk_cell BK259.out 0).trans rfl; have hcz73_1 : w71.cell? ⟨gb259, 1, none⟩ = some (.slice Ao19 t253.length co19) := (blk_cell BK259.out 1).trans rfl; have hcz73_2 : w71.cell? ⟨gb259, 2, none⟩ = some (.slice Ao18 t256.length co18) := (blk_cell BK259.out 2).trans rfl; have hfz73_0 := blk_frozen BK259.out 0; have hfz73_1 := blk_frozen BK259.out 1; have hfz73_2 := blk_frozen BK259.out 2; obtain ⟨Ao74, co74, eo74⟩ := Kd.R_slice HO277.out; subst eo74; have hnb75 := NB251_250.out; have hnc75 := NB250_251.out; have hcz76_0 : w71.cell? ⟨gb251, 0, none⟩ = some (.slice none 0 0) := (blk_cell BK251.out 0).trans rfl; have hcz76_1 : w71.cell? ⟨gb251, 1, none⟩ = some (.slice none 0 0) := (blk_cell BK251.out 1).trans rfl; have hcz76_2 : w71.cell? ⟨gb251, 2, none⟩ = some (.slice none 0 0) := (blk_cell BK251.out 2).trans rfl; have hfz76_0 := blk_frozen BK251.out 0; have hfz76_1 := blk_frozen BK251.out 1; have hfz76_2 := blk_frozen BK251.out 2))
     refine bodyPost_ret (results_ct rfl _ _ gb251 29 #[.slice Ao70 x260000_1.length co70, .slice Ao72 t272.length co72, .slice Ao74 t275.length co74] (0, 0) _ rfl (by refine bC (a := ?_); refine blk_put (cs := #[.slice Ao70 x260000_1.length co70, .slice Ao72 t272.length co72, .slice none 0 0]) ?_ 2 _ rfl; refine bC (a := ?_); refine blk_put (cs := #[.slice Ao70 x260000_1.length co70, .slice none 0 0, .slice none 0 0]) ?_ 1 _ rfl; refine bC (a := ?_); refine blk_put (cs := #[.slice none 0 0, .slice none 0 0, .slice none 0 0]) ?_ 0 _ rfl; refine bC (a := ?_); refine blk_far ?_ NB251_259.out _; refine bC (a := ?_); refine blk_far ?_ NB251_259.out _; refine bC (a := ?_); exact BK251.out) Try.underlying29 rfl (by kernel_rfl)) rfl ?_
     exact ⟨_, _, _, _, er, by refine rC (a := ?_); exact Kd.R_mono (Kd.R_far (p := ⟨gb251, 2, none⟩) (Kd.R_far (p := ⟨gb251, 1, none⟩) (Kd.R_far (p := ⟨gb251, 0, none⟩) (Kd.R_far (p := ⟨gb259, 2, none⟩) (Kd.R_far (p := ⟨gb259, 1, none⟩) (Kd.R_types (Kd.R_types HO_260000.out BK259.out (by decide)) BK251.out (by decide)) (fun _ hk => hk.1.2) (.slice Ao72 t272.length co72)) (fun _ hk => hk.1.2) (.slice Ao74 t275.length co74)) (fun _ hk => hk.2) (.slice Ao70 x260000_1.length co70)) (fun _ hk => hk.2) (.slice Ao72 t272.length co72)) (fun _ hk => hk.2) (.slice Ao74 t275.length co74)) (fun _ hk => trivial), by refine rC (a := ?_); exact Kd.R_mono (Kd.R_far (p := ⟨gb251, 2, none⟩) (Kd.R_far (p := ⟨gb251, 1, none⟩) (Kd.R_far (p := ⟨gb251, 0, none⟩) (Kd.R_far (p := ⟨gb259, 2, none⟩) (Kd.R_far (p := ⟨gb259, 1, none⟩) (Kd.R_types (Kd.R_types HO274.out BK259.out (by decide)) BK251.out (by decide)) (fun _ hk => hk.1.2) (.slice Ao72 t272.length co72)) (fun _ hk => hk.1.2) (.slice Ao74 t275.length co74)) (fun _ hk => hk.2) (.slice Ao70 x260000_1.length co70)) (fun _ hk => hk.2) (.slice Ao72 t272.length co72)) (fun _ hk => hk.2) (.slice Ao74 t275.length co74)) (fun _ hk => ⟨hk.1.1.1.1.1, hk.1.1.1.1.2⟩), by refine rC (a := ?_); exact Kd.R_mono (Kd.R_far (p := ⟨gb251, 2, none⟩) (Kd.R_far (p := ⟨gb251, 1, none⟩) (Kd.R_far (p := ⟨gb251, 0, none⟩) (Kd.R_far (p := ⟨gb259, 2, none⟩) (Kd.R_far (p := ⟨gb259, 1, none⟩) (Kd.R_types (Kd.R_types HO277.out BK259.out (by decide)) BK251.out (by decide)) (fun _ hk => hk.1.2) (.slice Ao72 t272.length co72)) (fun _ hk => hk.1.2) (.slice Ao74 t275.length co74)) (fun _ hk => hk.2) (.slice Ao70 x260000_1.length co70)) (fun _ hk => hk.2) (.slice Ao72 t272.length co72)) (fun _ hk => hk.2) (.slice Ao74 t275.length co74)) (fun _ hk => ⟨hk.1.1.1.1.1, hk.1.1.1.1.2⟩), by refine rC (a := ?_); exact Kd.R_mono (Kd.R_far (p := ⟨gb251, 2, none⟩) (Kd.R_far (p := ⟨gb251, 1, none⟩) (Kd.R_far (p := ⟨gb251, 0, none⟩) (Kd.R_far (p := ⟨gb259, 2, none⟩) (Kd.R_far (p := ⟨gb259, 1, none⟩) (Kd.R_types (Kd.R_types HO_5.out BK259.out (by decide)) BK251.out (by decide)) (fun _ hk => hk.1.2) (.slice Ao72 t272.length co72)) (fun _ hk => hk.1.2) (.slice Ao74 t275.length co74)) (fun _ hk => hk.2) (.slice Ao70 x260000_1.length co70)) (fun _ hk => hk.2) (.slice Ao72 t272.length co72)) (fun _ hk => hk.2) (.slice Ao74 t275.length co74)) (fun _ hk => ⟨hk.1.1.1.2, hk.1.1.2⟩), hA HB.out⟩
 ·replace c3 := Bool.eq_false_iff.mpr c3
  subst c3
  have H1 : (some (([] : List (S50)), ([] : List Int), ([] : List Int), ([] : List Int))) = some (r1, r2, r3, r4) := by rw [if_neg (show ¬ (false = true) by decide)] at H; exact H
  clear H
  have H := H1
  clear H1
  simp only [Option.some.injEq, Prod.mk.injEq] at H
  obtain ⟨rfl, rfl, rfl, rfl⟩ := H
  go_enter Try.func12, Try.ntmps12
  go_wp2_with (first | ((with_reducible refine gate_dst (N := 1) rfl ?_); refine box_event ?hg (N := 1) ?hd (cs := #[.slice A0_0 l0_0.length c0_0, .slice A0_1 l0_1.length c0_1, .slice A0_2 l0_2.length c0_2]) (t := 29) ?hr ?_; (case hd => rfl); (case hg => rfl); (case hr => first | (go_simp; done) | (go_simp; rfl)); intro gb250 hg w77 hbox hb; have n0_ := Aside0.mk (below_step (hA HB.out) hb); have n1_ := Aside0.mk (hbox); have n2_ := Aside0.mk ((by rw [hg]; exact (below_size (hA HB.out)) : w.heap.size ≤ gb250)); have n3_ := Aside0.mk ((by rw [hg]; exact (below_size (hA HB.out)) : w.heap.size ≤ gb250)); clear HB; have HB := n0_; have BK250 := n1_; have GW250 := n2_; have GE250 := n3_; clear n0_ n1_ n2_ n3_; clear hb hbox hg) | ((with_reducible refine gate_dst (N := 2) rfl ?_); refine box_event ?hg (N := 2) ?hd (cs := #[.slice none 0 0, .slice none 0 0, .slice none 0 0]) (t := 29) ?hr ?_; (case hd => rfl); (case hg => rfl); (case hr => first | (go_simp; done) | (go_simp; rfl)); intro gb251 hg w78 hbox hb; have n0_ := Aside0.mk (bB BK250.out hb); have n1_ := Aside0.mk (below_step (hA HB.out) hb); have n2_ := Aside0.mk (hbox); have n3_ := Aside0.mk ((by rw [hg]; exact (below_size (hA HB.out)) : w.heap.size ≤ gb251)); have n4_ := Aside0.mk ((by rw [hg]; exact (below_size (hA HB.out)) : w.heap.size ≤ gb251)); have n5_ := Aside0.mk ((by rw [hg]; exact Nat.ne_of_lt (blk_lt (g := gb250) (o := .cells #[.slice A0_0 l0_0.length c0_0, .slice A0_1 l0_1.length c0_1, .slice A0_2 l0_2.length c0_2] 29 (0, 0)) (bA BK250.out)) : gb250 ≠ gb251)); have n6_ := Aside0.mk ((by rw [hg]; exact Nat.ne_of_gt (blk_lt (g := gb250) (o := .cells #[.slice A0_0 l0_0.length c0_0, .slice A0_1 l0_1.length c0_1, .slice A0_2 l0_2.length c0_2] 29 (0, 0)) (bA BK250.out)) : gb251 ≠ gb250)); clear BK250; clear HB; have BK250 := n0_; have HB := n1_; have BK251 := n2_; have GW251 := n3_; have GE251 := n4_; have NB250_251 := n5_; have NB251_250 := n6_; clear n0_ n1_ n2_ n3_ n4_ n5_ n6_; clear hb hbox hg; have hnb79 := NB250_251.out; have hnc79 := NB251_250.out; have hcz80_0 : w78.cell? ⟨gb250, 0, none⟩ = some (.slice A0_0 l0_0.length c0_0) := (blk_cell BK250.out 0).trans rfl; have hcz80_1 : w78.cell? ⟨gb250, 1, none⟩ = some (.slice A0_1 l0_1.length c0_1) := (blk_cell BK250.out 1).trans rfl; have hcz80_2 : w78.cell? ⟨gb250, 2, none⟩ = some (.slice A0_2 l0_2.length c0_2) := (blk_cell BK250.out 2).trans rfl; have hfz80_0 := blk_frozen BK250.out 0; have hfz80_1 := blk_frozen BK250.out 1; have hfz80_2 := blk_frozen BK250.out 2) | ((with_reducible refine gate_callee (f := 40) rfl ?_); refine goesL_ (some 9) rfl rfl Try.func40 (by kernel_rfl) rfl #[.agg #[.slice A0_0 l0_0.length c0_0, .slice A0_1 l0_1.length c0_1, .slice A0_2 l0_2.length c0_2]] rfl ar ?_; (with_reducible refine (impl_BookOk.calls k _ _ l0_0 (fun k_ => k_ < w.heap.size) _ _ l0_1 (fun k_ => k_ < w.heap.size) _ _ l0_2 false _ ?side1 ?side2 ?side3 ?side4 A2.out).mono ?_); (case side1 => exact cA (Kd.C_below HR0_0.out HB.out)); (case side2 => exact HC0_0.out); (case side3 => exact Kd.V_mk HC0_1.out (Kd.F_below (Kd.C_F (Kd.heap_int .i64) HR0_1.out) (hA HB.out))); (case side4 => exact Kd.V_mk HC0_2.out (Kd.F_below (Kd.C_F (Kd.heap_int .i64) HR0_2.out) (hA HB.out))); rintro e w81 ⟨rfl, hb⟩; refine ⟨_, rfl, ?_⟩; have n0_ := Aside0.mk (bB BK250.out hb); have n1_ := Aside0.mk (bB BK251.out hb); have n2_ := Aside0.mk (below_step (hA HB.out) hb); clear BK250; clear BK251; clear HB; have BK250 := n0_; have BK251 := n1_; have HB := n2_; clear n0_ n1_ n2_; (try clear hb); (try clear hb2); (try clear hk); (try clear hi); have hcz82_0 : w81.cell? ⟨gb251, 0, none⟩ = some (.slice none 0 0) := (blk_cell BK251.out 0).trans rfl; have hcz82_1 : w81.cell? ⟨gb251, 1, none⟩ = some (.slice none 0 0) := (blk_cell BK251.out 1).trans rfl; have hcz82_2 : w81.cell? ⟨gb251, 2, none⟩ = some (.slice none 0 0) := (blk_cell BK251.out 2).trans rfl; have hfz82_0 := blk_frozen BK251.out 0; have hfz82_1 := blk_frozen BK251.out 1; have hfz82_2 := blk_frozen BK251.out 2))
  refine bodyPost_ret (results_ct rfl _ _ gb251 29 #[.slice none 0 0, .slice none 0 0, .slice none 0 0] (0, 0) _ rfl (by refine bC (a := ?_); refine blk_put (cs := #[.slice none 0 0, .slice none 0 0, .slice none 0 0]) ?_ 2 _ rfl; refine bC (a := ?_); refine blk_put (cs := #[.slice none 0 0, .slice none 0 0, .slice none 0 0]) ?_ 1 _ rfl; refine bC (a := ?_); refine blk_put (cs := #[.slice none 0 0, .slice none 0 0, .slice none 0 0]) ?_ 0 _ rfl; refine bC (a := ?_); exact BK251.out) Try.underlying29 rfl (by kernel_rfl)) rfl ?_
  exact ⟨_, _, _, _, er, by first | exact Kd.R_nil _ _ _ _ _ | exact Kd.N_nil _ _ _ _ _ | exact Kd.V_nil _ _ _ _ _ | exact Kd.Q_nil _ _ _ _ _ | exact Kd.S_nil _ _ _ _ _, by first | exact Kd.R_nil _ _ _ _ _ | exact Kd.N_nil _ _ _ _ _ | exact Kd.V_nil _ _ _ _ _ | exact Kd.Q_nil _ _ _ _ _ | exact Kd.S_nil _ _ _ _ _, by first | exact Kd.R_nil _ _ _ _ _ | exact Kd.N_nil _ _ _ _ _ | exact Kd.V_nil _ _ _ _ _ | exact Kd.Q_nil _ _ _ _ _ | exact Kd.S_nil _ _ _ _ _, by first | exact Kd.R_nil _ _ _ _ _ | exact Kd.N_nil _ _ _ _ _ | exact Kd.V_nil _ _ _ _ _ | exact Kd.Q_nil _ _ _ _ _ | exact Kd.S_nil _ _ _ _ _, hA HB.out⟩

end Go.Proofs.Ytngnkfpciloamaa.MFnMendedBook
