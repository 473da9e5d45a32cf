/- The functions that the law FnExactMendBook reaches, as plain functions, and that the code comes to them. Begun as a text of the print over stubs; turned by wip/handstub.py and wip/mend.py. -/
import Derived.Test.YtngnkfpciloamaaShortFnExactMendBook
import Derived.Test.YtngnkfpciloamaaMFnExactMendBookx0
import Derived.Test.YtngnkfpciloamaaMFnExactMendBookx5
import Derived.Test.YtngnkfpciloamaaMFnExactMendBookx6
namespace Go.Proofs.Ytngnkfpciloamaa.MFnExactMendBook
open Go.RowKit Go.Proofs.YtngnkfpciloamaaW.PrintWords Go.Proofs.YtngnkfpciloamaaW.PrintLast Go.Proofs.YtngnkfpciloamaaW.PrintMore
attribute [local go_sem] max2_int min2_int max_two min_two max_three min_three max_four min_four   -- for this text's walks alone
set_option linter.unusedVariables false
set_option linter.unusedSimpArgs false

/-! ### impl_MendBook: function 12 -/
def impl_MendBook.l0 : Nat → List Int → List (S50) → Int → Int → List (S50) → List Int → List Int → Option ((List (S50)) × List Int × List Int × List Int)
 | 0, _, _, _, _, _, _, _ => none
 | k + 1, x5, x20, x21, x22, x247000, x247001, x247002 => if x22 < x21 then (if 0 ≤ x22 then (if x22 < (x20.length : Int) then (if ((rd_T50 x20 x22).f0) = ((rd_T50 x20 x22).f1) then (if x5.length < 17592186044416 then (impl_MendBook.l0 k (x5 ++ [x22]) x20 x21 (wrap64 (x22 + 1)) x247000 x247001 x247002) else (none)) else ((impl_Talk_42.f k x247000 ((rd_T50 x20 x22).f0) ((rd_T50 x20 x22).f1) ((rd_T50 x20 x22).f2)).bind fun t252 => (if t252 = true then (if x5.length < 17592186044416 then (impl_MendBook.l0 k (x5 ++ [x22]) x20 x21 (wrap64 (x22 + 1)) x247000 x247001 x247002) else (none)) else (if x247000.length < 5864062014805 then (impl_MendBook.l0 k x5 x20 x21 (wrap64 (x22 + 1)) (x247000 ++ [(⟨(rd_T50 x20 x22).f0, (rd_T50 x20 x22).f1, (rd_T50 x20 x22).f2⟩ : S50)]) x247001 x247002) else (none))))) else (none)) else (none)) else ((impl_said.f k x247000 x247001 x247002).bind fun bt259 => (some (x247000, bt259.1, bt259.2, x5)))
def impl_MendBook.f (k : Nat) (l0_0 : List (S50)) (l0_1 : List Int) (l0_2 : List Int) : Option ((List (S50)) × List Int × List Int × List Int) := (impl_BookOk.f k l0_0 l0_1 l0_2).bind fun t239 => (if t239 = true then ((slices_Clone_int_int.f k l0_1).bind fun t240 => ((slices_Clone_int_int.f k l0_2).bind fun t243 => (impl_MendBook.l0 k ([] : List Int) l0_0 (l0_0.length : Int) 0 ([] : List (S50)) t240 t243))) else (some (([] : List (S50)), ([] : List Int), ([] : List Int), ([] : List Int))))
theorem impl_MendBook.mono_l : ∀ k, (∀ y0 y1 y2 y3 y4 y5 y6, LeO (impl_MendBook.l0 k y0 y1 y2 y3 y4 y5 y6) (impl_MendBook.l0 (k + 1) y0 y1 y2 y3 y4 y5 y6))
 | 0 => fun _ _ _ _ _ _ _ r h => by simp [impl_MendBook.l0] at h
 | k + 1 => by
  have ih0 := impl_MendBook.mono_l k
  ·intro y0 y1 y2 y3 y4 y5 y6
   unfold impl_MendBook.l0
   repeat' first
   | (with_reducible exact ih0 _ _ _ _ _ _ _)
   | (with_reducible exact impl_BookOk.mono _ _ _ _)
   | (with_reducible exact impl_Talk_42.mono _ _ _ _ _)
   | (with_reducible exact impl_said.mono _ _ _ _)
   | (with_reducible exact slices_Clone_int_int.mono _ _)
   | (with_reducible exact LeO.refl _)
   | (with_reducible exact LeO.none _)
   | (with_reducible refine LeO.ite ?_ ?_)
   | (with_reducible refine LeO.bind ?_ (fun _ => ?_))
   | exact ih0 _ _ _ _ _ _ _
   | exact impl_BookOk.mono _ _ _ _
   | exact impl_Talk_42.mono _ _ _ _ _
   | exact impl_said.mono _ _ _ _
   | exact slices_Clone_int_int.mono _ _
   | exact LeO.none _
   | refine LeO.ite ?_ ?_
   | refine LeO.bind ?_ (fun _ => ?_)
theorem impl_MendBook.mono : ∀ a0 a1 a2 k, LeO (impl_MendBook.f k a0 a1 a2) (impl_MendBook.f (k + 1) a0 a1 a2) := by
 intro a0 a1 a2 k
 have ih0 := impl_MendBook.mono_l k
 unfold impl_MendBook.f
 repeat' first
   | (with_reducible exact ih0 _ _ _ _ _ _ _)
   | (with_reducible exact impl_BookOk.mono _ _ _ _)
   | (with_reducible exact impl_Talk_42.mono _ _ _ _ _)
   | (with_reducible exact impl_said.mono _ _ _ _)
   | (with_reducible exact slices_Clone_int_int.mono _ _)
   | (with_reducible exact LeO.refl _)
   | (with_reducible exact LeO.none _)
   | (with_reducible refine LeO.ite ?_ ?_)
   | (with_reducible refine LeO.bind ?_ (fun _ => ?_))
   | exact ih0 _ _ _ _ _ _ _
   | exact impl_BookOk.mono _ _ _ _
   | exact impl_Talk_42.mono _ _ _ _ _
   | exact impl_said.mono _ _ _ _
   | exact slices_Clone_int_int.mono _ _
   | exact LeO.none _
   | refine LeO.ite ?_ ?_
   | refine LeO.bind ?_ (fun _ => ?_)
def impl_MendBook.T3 : Bool × List (List Nat × List Nat) := (true, [([], []), ([0], [0]), ([1], [1]), ([], []), ([3], [3]), ([4, 2], [4]), ([2, 5], [2, 5]), ([], []), ([7, 6, 5, 0, 1, 2, 3, 4, 5, 6, 7], [6, 7])])
def impl_MendBook.B3 : List Nat := [0, 1, 3, 0, 8, 31, 63, 0, 255]
theorem impl_MendBook.tab3 : rtab .any (opsOf Try.f12 3) = impl_MendBook.T3 := by kernel_rfl
theorem impl_MendBook.bits3 : waitsOk impl_MendBook.T3.2 impl_MendBook.B3 = true := by kernel_rfl
set_option maxHeartbeats 8000000 in
set_option maxRecDepth 100000 in
theorem impl_MendBook.calls (k : Nat) (A0_0 : Option Addr) (c0_0 : Nat) (l0_0 : List (S50)) (A0_1 : Option Addr) (c0_1 : Nat) (l0_1 : List Int) (A0_2 : Option Addr) (c0_2 : Nat) (l0_2 : List Int) (r1 : List (S50)) (r2 : List Int) (r3 : List Int) (r4 : List Int) (w : World) (hr0_0 : Kd.C k50 w A0_0 l0_0.length l0_0) (hc0_0 : l0_0.length ≤ c0_0) (hr0_1 : Kd.C (Kd.int .i64) w A0_1 l0_1.length l0_1) (hc0_1 : l0_1.length ≤ c0_1) (hr0_2 : Kd.C (Kd.int .i64) w A0_2 l0_2.length l0_2) (hc0_2 : l0_2.length ≤ c0_2) (h : impl_MendBook.f k l0_0 l0_1 l0_2 = some (r1, r2, r3, r4)) :
  Calls Try.prog 12 #[.agg #[.slice A0_0 l0_0.length c0_0, .slice A0_1 l0_1.length c0_1, .slice A0_2 l0_2.length c0_2]] w fun e w' => ∃ v0_ v1_ v2_ v3_ : Value, e = .returned (.tuple #[.agg #[v0_, v1_, v2_], v3_]) ∧ Kd.R k50 50 w' w.heap.size (fun _ => True) v0_ r1 ∧ Kd.R (Kd.int .i64) 3 w' w.heap.size (fun k_ => some k_ ≠ (v2_ : Value).ownBlock ∧ some k_ ≠ (v3_ : Value).ownBlock) v1_ r2 ∧ Kd.R (Kd.int .i64) 3 w' w.heap.size (fun k_ => some k_ ≠ (v1_ : Value).ownBlock ∧ some k_ ≠ (v3_ : Value).ownBlock) v2_ r3 ∧ Kd.R (Kd.int .i64) 3 w' w.heap.size (fun k_ => some k_ ≠ (v1_ : Value).ownBlock ∧ some k_ ≠ (v2_ : Value).ownBlock) v3_ r4 ∧ Below w.heap.size w w' := by
 have hu29 := Try.underlying29
 have hu50 := Try.underlying50
 have HR0_0 := Aside0.mk hr0_0
 have HC0_0 := Aside0.mk hc0_0
 clear hr0_0 hc0_0
 have HR0_1 := Aside0.mk hr0_1
 have HC0_1 := Aside0.mk hc0_1
 clear hr0_1 hc0_1
 have HR0_2 := Aside0.mk hr0_2
 have HC0_2 := Aside0.mk hc0_2
 clear hr0_2 hc0_2
 have HB := Aside0.mk (Below.refl w.heap.size w)
 have H : ((impl_BookOk.f k l0_0 l0_1 l0_2).bind fun t239 => (if t239 = true then ((slices_Clone_int_int.f k l0_1).bind fun t240 => ((slices_Clone_int_int.f k l0_2).bind fun t243 => (impl_MendBook.l0 k ([] : List Int) l0_0 (l0_0.length : Int) 0 ([] : List (S50)) t240 t243))) else (some (([] : List (S50)), ([] : List Int), ([] : List Int), ([] : List Int))))) = some (r1, r2, r3, r4) := h
 clear h
 replace H := Option.bind_eq_some_iff.mp H
 obtain ⟨t239, A20, H⟩ := H
 replace H : (if t239 = true then ((slices_Clone_int_int.f k l0_1).bind fun t240 => ((slices_Clone_int_int.f k l0_2).bind fun t243 => (impl_MendBook.l0 k ([] : List Int) l0_0 (l0_0.length : Int) 0 ([] : List (S50)) t240 t243))) else (some (([] : List (S50)), ([] : List Int), ([] : List Int), ([] : List Int)))) = some (r1, r2, r3, r4) := H
 have A2 := Aside0.mk A20
 clear A20
 by_cases c3 : t239 = true
 ·subst c3
  have H1 : ((slices_Clone_int_int.f k l0_1).bind fun t240 => ((slices_Clone_int_int.f k l0_2).bind fun t243 => (impl_MendBook.l0 k ([] : List Int) l0_0 (l0_0.length : Int) 0 ([] : List (S50)) t240 t243))) = some (r1, r2, r3, r4) := by rw [if_pos rfl] at H; exact H
  clear H
  have H := H1
  clear H1
  replace H := Option.bind_eq_some_iff.mp H
  obtain ⟨t240, A40, H⟩ := H
  replace H : ((slices_Clone_int_int.f k l0_2).bind fun t243 => (impl_MendBook.l0 k ([] : List Int) l0_0 (l0_0.length : Int) 0 ([] : List (S50)) t240 t243)) = some (r1, r2, r3, r4) := H
  have A4 := Aside0.mk A40
  clear A40
  replace H := Option.bind_eq_some_iff.mp H
  obtain ⟨t243, A50, H⟩ := H
  replace H : (impl_MendBook.l0 k ([] : List Int) l0_0 (l0_0.length : Int) 0 ([] : List (S50)) t240 t243) = some (r1, r2, r3, r4) := H
  have A5 := Aside0.mk A50
  clear A50
  have H' := Aside0.mk H
  clear H
  go_enter Try.func12, Try.ntmps12
  try go_wp2_with (first | ((with_reducible refine gate_dst (N := 1) rfl ?_); refine box_event ?hg (N := 1) ?hd (cs := #[.slice A0_0 l0_0.length c0_0, .slice A0_1 l0_1.length c0_1, .slice A0_2 l0_2.length c0_2]) (t := 29) ?hr ?_; (case hd => rfl); (case hg => rfl); (case hr => first | (go_simp; done) | (go_simp; rfl)); intro gb237 hg w6 hbox hb; have n0_ := Aside0.mk (below_step (hA HB.out) hb); have n1_ := Aside0.mk (hbox); have n2_ := Aside0.mk ((by rw [hg]; exact (below_size (hA HB.out)) : w.heap.size ≤ gb237)); have n3_ := Aside0.mk ((by rw [hg]; exact (below_size (hA HB.out)) : w.heap.size ≤ gb237)); clear HB; have HB := n0_; have BK237 := n1_; have GW237 := n2_; have GE237 := n3_; clear n0_ n1_ n2_ n3_; clear hb hbox hg) | ((with_reducible refine gate_dst (N := 2) rfl ?_); refine box_event ?hg (N := 2) ?hd (cs := #[.slice none 0 0, .slice none 0 0, .slice none 0 0]) (t := 29) ?hr ?_; (case hd => rfl); (case hg => rfl); (case hr => first | (go_simp; done) | (go_simp; rfl)); intro gb238 hg w7 hbox hb; have n0_ := Aside0.mk (blk_below (g := gb237) (o := .cells #[.slice A0_0 l0_0.length c0_0, .slice A0_1 l0_1.length c0_1, .slice A0_2 l0_2.length c0_2] 29 (0, 0)) (bA BK237.out) hb); have n1_ := Aside0.mk (below_step (hA HB.out) hb); have n2_ := Aside0.mk (hbox); have n3_ := Aside0.mk ((by rw [hg]; exact (below_size (hA HB.out)) : w.heap.size ≤ gb238)); have n4_ := Aside0.mk ((by rw [hg]; exact (below_size (hA HB.out)) : w.heap.size ≤ gb238)); have n5_ := Aside0.mk ((by rw [hg]; exact Nat.ne_of_lt (blk_lt (g := gb237) (o := .cells #[.slice A0_0 l0_0.length c0_0, .slice A0_1 l0_1.length c0_1, .slice A0_2 l0_2.length c0_2] 29 (0, 0)) (bA BK237.out)) : gb237 ≠ gb238)); have n6_ := Aside0.mk ((by rw [hg]; exact Nat.ne_of_gt (blk_lt (g := gb237) (o := .cells #[.slice A0_0 l0_0.length c0_0, .slice A0_1 l0_1.length c0_1, .slice A0_2 l0_2.length c0_2] 29 (0, 0)) (bA BK237.out)) : gb238 ≠ gb237)); clear BK237; clear HB; have BK237 := n0_; have HB := n1_; have BK238 := n2_; have GW238 := n3_; have GE238 := n4_; have NB237_238 := n5_; have NB238_237 := n6_; clear n0_ n1_ n2_ n3_ n4_ n5_ n6_; clear hb hbox hg; have hnb8 := NB237_238.out; have hnc8 := NB238_237.out; have hcz9_0 : w7.cell? ⟨gb237, 0, none⟩ = some (.slice A0_0 l0_0.length c0_0) := (blk_cell BK237.out 0).trans rfl; have hcz9_1 : w7.cell? ⟨gb237, 1, none⟩ = some (.slice A0_1 l0_1.length c0_1) := (blk_cell BK237.out 1).trans rfl; have hcz9_2 : w7.cell? ⟨gb237, 2, none⟩ = some (.slice A0_2 l0_2.length c0_2) := (blk_cell BK237.out 2).trans rfl; have hfz9_0 := blk_frozen BK237.out 0; have hfz9_1 := blk_frozen BK237.out 1; have hfz9_2 := blk_frozen BK237.out 2) | ((with_reducible refine gate_callee (f := 40) rfl ?_); refine goesL_ (some 9) rfl rfl Try.func40 (by kernel_rfl) rfl #[.agg #[.slice A0_0 l0_0.length c0_0, .slice A0_1 l0_1.length c0_1, .slice A0_2 l0_2.length c0_2]] rfl ar ?_; (with_reducible refine (impl_BookOk.calls k _ _ l0_0 (fun k_ => k_ < w.heap.size) _ _ l0_1 (fun k_ => k_ < w.heap.size) _ _ l0_2 true _ ?side1 ?side2 ?side3 ?side4 A2.out).mono ?_); (case side1 => repeat (first | exact (Kd.C_below HR0_0.out HB.out) | (with_reducible refine Kd.C_alloc ?_ _) | (with_reducible refine Kd.C_drewN ?_ _) | (with_reducible refine Kd.C_drew ?_))); (case side2 => exact HC0_0.out); (case side3 => exact Kd.V_mk HC0_1.out (Kd.F_below (Kd.C_F (Kd.heap_int .i64) HR0_1.out) (hA HB.out))); (case side4 => exact Kd.V_mk HC0_2.out (Kd.F_below (Kd.C_F (Kd.heap_int .i64) HR0_2.out) (hA HB.out))); rintro e w10 ⟨rfl, hb⟩; refine ⟨_, rfl, ?_⟩; have n0_ := Aside0.mk (blk_below (g := gb237) (o := .cells #[.slice A0_0 l0_0.length c0_0, .slice A0_1 l0_1.length c0_1, .slice A0_2 l0_2.length c0_2] 29 (0, 0)) (bA BK237.out) hb); have n1_ := Aside0.mk (blk_below (g := gb238) (o := .cells #[.slice none 0 0, .slice none 0 0, .slice none 0 0] 29 (0, 0)) (bA BK238.out) hb); have n2_ := Aside0.mk (below_step (hA HB.out) hb); clear BK237; clear BK238; clear HB; have BK237 := n0_; have BK238 := n1_; have HB := n2_; clear n0_ n1_ n2_; (try clear hb); (try clear hb2); (try clear hk); (try clear hi)))
  have n0_ := Aside0.mk (blk_drew BK237.out)
  have n1_ := Aside0.mk (blk_drew BK238.out)
  have n2_ := Aside0.mk (below_drew1 HB.out)
  clear BK237
  clear BK238
  clear HB
  have BK237 := n0_
  have BK238 := n1_
  have HB := n2_
  clear n0_ n1_ n2_
  refine start_ (n := 9) (S := fun w' => w'.cell? ⟨gb237, 0, none⟩ = some (.slice A0_0 l0_0.length c0_0) ∧ w'.cell? ⟨gb237, 1, none⟩ = some (.slice A0_1 l0_1.length c0_1) ∧ w'.cell? ⟨gb237, 2, none⟩ = some (.slice A0_2 l0_2.length c0_2)) (ds := []) #[false, false, false, false, false, false, false, false, false] (by kernel_rfl) rfl rfl ⟨(blk_cell BK237.out 0).trans rfl, (blk_cell BK237.out 1).trans rfl, (blk_cell BK237.out 2).trans rfl⟩ (fun hHeld => ?_); refine with_tabW impl_MendBook.tab3 impl_MendBook.bits3 (fun HT_ HW_ => ?_)
  generalize w10.drew = w11 at BK237 BK238 HB hHeld ⊢
  refine pure_ (i := 0) (N := some 12) (v := ?_) (a' := ?_) #[true, false, false, false, false, false, false, false, false] rfl rfl (any_of HT_.out (by kernel_rfl)) (fun _ _ _ h => h) (Or.inl ⟨by rfl, ?_⟩) ?_ ?_
  rotate_left
  ·intro w'
   go_simp
   with_reducible rfl
  rotate_left
  ·simp only [Act.put, List.setIfInBounds_toArray, List.set_cons_zero, List.set_cons_succ, i64_w, i32_w]
   rfl
  refine pure_ (i := 3) (N := some 15) (v := ?_) (a' := ?_) #[true, false, false, true, false, false, false, false, false] rfl rfl (any_of HT_.out (by kernel_rfl)) (fun _ _ _ h => h) (Or.inl ⟨by rfl, ?_⟩) ?_ ?_
  rotate_left
  ·intro w'
   go_simp
   with_reducible rfl
  rotate_left
  ·simp only [Act.put, List.setIfInBounds_toArray, List.set_cons_zero, List.set_cons_succ, i64_w, i32_w]
   rfl
  refine take_ (i := 1) (N := some 13) (v := ?_) (a' := ?_) #[true, true, false, true, false, false, false, false, false] rfl rfl (take_ofW HT_.out HW_.out (by kernel_rfl)) (fun _ _ _ h => h) (Or.inl ⟨by rfl, ?_⟩) hHeld ?_ ?_
  rotate_left
  ·rintro w' ⟨s0, s1, s2⟩
   go_simp
   with_reducible rfl
  rotate_left
  ·simp only [Act.put, List.setIfInBounds_toArray, List.set_cons_zero, List.set_cons_succ, i64_w, i32_w]
   rfl
  refine take_ (i := 4) (N := some 16) (v := ?_) (a' := ?_) #[true, true, false, true, true, false, false, false, false] rfl rfl (take_ofW HT_.out HW_.out (by kernel_rfl)) (fun _ _ _ h => h) (Or.inl ⟨by rfl, ?_⟩) hHeld ?_ ?_
  rotate_left
  ·rintro w' ⟨s0, s1, s2⟩
   go_simp
   with_reducible rfl
  rotate_left
  ·simp only [Act.put, List.setIfInBounds_toArray, List.set_cons_zero, List.set_cons_succ, i64_w, i32_w]
   rfl
  refine join_ (σ := Value × Value × Nat) 1 #[true, true, true, true, true, true, true, true, false] (fun s_ => [(14, s_.1), (17, s_.2.1), (4, .pointer (some ⟨s_.2.2, 0, none⟩)), (18, .agg #[.slice none 0 0, s_.1, s_.2.1])]) (fun s_ w' => (w'.cell? ⟨gb237, 0, none⟩ = some (.slice A0_0 l0_0.length c0_0) ∧ w'.cell? ⟨gb237, 1, none⟩ = some (.slice A0_1 l0_1.length c0_1) ∧ w'.cell? ⟨gb237, 2, none⟩ = some (.slice A0_2 l0_2.length c0_2)) ∧ (Kd.R (Kd.int .i64) 3 w' w.heap.size (fun k_ => some k_ ≠ (s_.2.1 : Value).ownBlock) s_.1 t240) ∧ (Kd.R (Kd.int .i64) 3 w' w.heap.size (fun k_ => some k_ ≠ (s_.1 : Value).ownBlock) s_.2.1 t243) ∧ (w'.heap[gb237]? = some (.cells #[.slice A0_0 l0_0.length c0_0, .slice A0_1 l0_1.length c0_1, .slice A0_2 l0_2.length c0_2] 29 (0, 0))) ∧ (w'.heap[gb238]? = some (.cells #[.slice none 0 0, .slice none 0 0, .slice none 0 0] 29 (0, 0))) ∧ (w'.heap[s_.2.2]? = some (.cells #[.slice none 0 0, .slice none 0 0, .slice none 0 0] 29 (0, 0))) ∧ (w.heap.size ≤ s_.2.2) ∧ (w.heap.size ≤ s_.2.2) ∧ (gb237 ≠ s_.2.2) ∧ (s_.2.2 ≠ gb237) ∧ (gb238 ≠ s_.2.2) ∧ (s_.2.2 ≠ gb238) ∧ (Below w.heap.size w w')) ?_ ?_
  rotate_left
  ·intro hCont
   refine two_ (i := 2) (j := 7) (Ni := some 14) (Nj := some 4) #[true, true, true, true, true, false, false, false, false] #[true, true, false, true, true, false, false, true, false] rfl rfl rfl rfl (two_of HT_.out (by kernel_rfl)) (by decide) (by decide) (fun K hK => ?_) (fun K hK => ?_)
   ·skip
    refine goes_ Try.func41 (by kernel_rfl) rfl #[.slice A0_1 l0_1.length c0_1] (by rfl) rfl rfl ar ?_
    with_reducible refine (slices_Clone_int_int.calls k _ _ l0_1 t240 _ ?side1 ?side2 A4.out).mono ?_
    (case side1 => repeat (first | exact (Kd.C_below HR0_1.out HB.out) | (with_reducible refine Kd.C_alloc ?_ _) | (with_reducible refine Kd.C_drewN ?_ _) | (with_reducible refine Kd.C_drew ?_)))
    (case side2 => exact HC0_1.out)
    rintro e w12 ⟨v241, rfl, ho0, hb⟩
    refine ⟨_, rfl, ?_⟩
    have n0_ := Aside0.mk (Kd.R_lower ho0 (below_size (hA HB.out)))
    have n1_ := Aside0.mk (blk_below (g := gb237) (o := .cells #[.slice A0_0 l0_0.length c0_0, .slice A0_1 l0_1.length c0_1, .slice A0_2 l0_2.length c0_2] 29 (0, 0)) (bA BK237.out) hb)
    have n2_ := Aside0.mk (blk_below (g := gb238) (o := .cells #[.slice none 0 0, .slice none 0 0, .slice none 0 0] 29 (0, 0)) (bA BK238.out) hb)
    have n3_ := Aside0.mk (below_step (hA HB.out) hb)
    clear BK237
    clear BK238
    clear HB
    have HO242 := n0_
    have BK237 := n1_
    have BK238 := n2_
    have HB := n3_
    clear n0_ n1_ n2_ n3_
    (try clear hb)
    (try clear hb2)
    (try clear hk)
    (try clear hi)
    (try clear ho0)
    refine hK.out _ _ ⟨(blk_cell BK237.out 0).trans rfl, (blk_cell BK237.out 1).trans rfl, (blk_cell BK237.out 2).trans rfl⟩ (fun hHeld => ?_)
    clear hK K
    refine norm_ (a' := ?_) ?_ ?_
    rotate_left
    ·show Act.put _ (some 14) _ = _
     simp only [Act.put, List.setIfInBounds_toArray, List.set_cons_zero, List.set_cons_succ, i64_w, i32_w]
     rfl
    refine two_ (i := 5) (j := 7) (Ni := some 17) (Nj := some 4) #[true, true, true, true, true, true, false, false, false] #[true, true, true, true, true, false, false, true, false] rfl rfl rfl rfl (two_of HT_.out (by kernel_rfl)) (by decide) (by decide) (fun K hK => ?_) (fun K hK => ?_)
    ·skip
     refine goes_ Try.func41 (by kernel_rfl) rfl #[.slice A0_2 l0_2.length c0_2] (by rfl) rfl rfl ar ?_
     with_reducible refine (slices_Clone_int_int.calls k _ _ l0_2 t243 _ ?side1 ?side2 A5.out).mono ?_
     (case side1 => repeat (first | exact (Kd.C_below HR0_2.out HB.out) | (with_reducible refine Kd.C_alloc ?_ _) | (with_reducible refine Kd.C_drewN ?_ _) | (with_reducible refine Kd.C_drew ?_)))
     (case side2 => exact HC0_2.out)
     rintro e w13 ⟨v244, rfl, ho0, hb⟩
     refine ⟨_, rfl, ?_⟩
     have n0_ := Aside0.mk (Kd.R_elder' (rA HO242.out) (Kd.R_base ho0) hb)
     have n1_ := Aside0.mk (Kd.R_lower (Kd.R_new' ho0 (Kd.R_lt (rA HO242.out))) (below_size (hA HB.out)))
     have n2_ := Aside0.mk (blk_below (g := gb237) (o := .cells #[.slice A0_0 l0_0.length c0_0, .slice A0_1 l0_1.length c0_1, .slice A0_2 l0_2.length c0_2] 29 (0, 0)) (bA BK237.out) hb)
     have n3_ := Aside0.mk (blk_below (g := gb238) (o := .cells #[.slice none 0 0, .slice none 0 0, .slice none 0 0] 29 (0, 0)) (bA BK238.out) hb)
     have n4_ := Aside0.mk (below_step (hA HB.out) hb)
     clear HO242
     clear BK237
     clear BK238
     clear HB
     have HO242 := n0_
     have HO245 := n1_
     have BK237 := n2_
     have BK238 := n3_
     have HB := n4_
     clear n0_ n1_ n2_ n3_ n4_
     (try clear hb)
     (try clear hb2)
     (try clear hk)
     (try clear hi)
     (try clear ho0)
     obtain ⟨Ao14, co14, eo14⟩ := Kd.R_slice HO245.out
     (first | subst eo14 | (injection eo14 with f1_ f2_ f3_; have f4_ := f1_.symm; have f5_ := f3_.symm; clear f1_ f2_ f3_; subst f4_; subst f5_))
     obtain ⟨Ao15, co15, eo15⟩ := Kd.R_slice HO242.out
     (first | subst eo15 | (injection eo15 with f1_ f2_ f3_; have f4_ := f1_.symm; have f5_ := f3_.symm; clear f1_ f2_ f3_; subst f4_; subst f5_))
     refine hK.out _ _ ⟨(blk_cell BK237.out 0).trans rfl, (blk_cell BK237.out 1).trans rfl, (blk_cell BK237.out 2).trans rfl⟩ (fun hHeld => ?_)
     clear hK K
     refine norm_ (a' := ?_) ?_ ?_
     rotate_left
     ·show Act.put _ (some 17) _ = _
      simp only [Act.put, List.setIfInBounds_toArray, List.set_cons_zero, List.set_cons_succ, i64_w, i32_w]
      rfl
     refine pure_ (i := 6) (N := some 18) (v := ?_) (a' := ?_) #[true, true, true, true, true, true, true, false, false] rfl rfl (any_of HT_.out (by kernel_rfl)) (fun _ _ _ h => h) (Or.inl ⟨by rfl, ?_⟩) ?_ ?_
     rotate_left
     ·intro w'
      go_simp
      with_reducible rfl
     rotate_left
     ·simp only [Act.put, List.setIfInBounds_toArray, List.set_cons_zero, List.set_cons_succ, i64_w, i32_w]
      rfl
     refine one_ (i := 7) (N := some 4) #[true, true, true, true, true, true, true, true, false] rfl rfl (one_of HT_.out (by kernel_rfl)) (by decide) (fun K hK => ?_)
     refine box_step ?hg (N := 4) ?hd (cs := #[.slice none 0 0, .slice none 0 0, .slice none 0 0]) (t := 29) ?hr ?_; (case hd => rfl); (case hg => rfl); (case hr => first | (go_simp; done) | (go_simp; rfl))
     intro gb246 hg w16 hbox hb
     have n0_ := Aside0.mk (Kd.R_below (rA HO242.out) hb)
     have n1_ := Aside0.mk (Kd.R_below (rA HO245.out) hb)
     have n2_ := Aside0.mk (blk_below (g := gb237) (o := .cells #[.slice A0_0 l0_0.length c0_0, .slice A0_1 l0_1.length c0_1, .slice A0_2 l0_2.length c0_2] 29 (0, 0)) (bA BK237.out) hb)
     have n3_ := Aside0.mk (blk_below (g := gb238) (o := .cells #[.slice none 0 0, .slice none 0 0, .slice none 0 0] 29 (0, 0)) (bA BK238.out) hb)
     have n4_ := Aside0.mk (below_step (hA HB.out) hb)
     have n5_ := Aside0.mk (hbox)
     have n6_ := Aside0.mk ((by rw [hg]; exact (below_size (hA HB.out)) : w.heap.size ≤ gb246))
     have n7_ := Aside0.mk ((by rw [hg]; exact (below_size (hA HB.out)) : w.heap.size ≤ gb246))
     have n8_ := Aside0.mk ((by rw [hg]; exact Nat.ne_of_lt (blk_lt (g := gb237) (o := .cells #[.slice A0_0 l0_0.length c0_0, .slice A0_1 l0_1.length c0_1, .slice A0_2 l0_2.length c0_2] 29 (0, 0)) (bA BK237.out)) : gb237 ≠ gb246))
     have n9_ := Aside0.mk ((by rw [hg]; exact Nat.ne_of_gt (blk_lt (g := gb237) (o := .cells #[.slice A0_0 l0_0.length c0_0, .slice A0_1 l0_1.length c0_1, .slice A0_2 l0_2.length c0_2] 29 (0, 0)) (bA BK237.out)) : gb246 ≠ gb237))
     have n10_ := Aside0.mk ((by rw [hg]; exact Nat.ne_of_lt (blk_lt (g := gb238) (o := .cells #[.slice none 0 0, .slice none 0 0, .slice none 0 0] 29 (0, 0)) (bA BK238.out)) : gb238 ≠ gb246))
     have n11_ := Aside0.mk ((by rw [hg]; exact Nat.ne_of_gt (blk_lt (g := gb238) (o := .cells #[.slice none 0 0, .slice none 0 0, .slice none 0 0] 29 (0, 0)) (bA BK238.out)) : gb246 ≠ gb238))
     clear HO242
     clear HO245
     clear BK237
     clear BK238
     clear HB
     have HO242 := n0_
     have HO245 := n1_
     have BK237 := n2_
     have BK238 := n3_
     have HB := n4_
     have BK246 := n5_
     have GW246 := n6_
     have GE246 := n7_
     have NB237_246 := n8_
     have NB246_237 := n9_
     have NB238_246 := n10_
     have NB246_238 := n11_
     clear n0_ n1_ n2_ n3_ n4_ n5_ n6_ n7_ n8_ n9_ n10_ n11_
     clear hb hbox hg
     refine hK.out _ _ ⟨(blk_cell BK237.out 0).trans rfl, (blk_cell BK237.out 1).trans rfl, (blk_cell BK237.out 2).trans rfl⟩ (fun hHeld => ?_)
     clear hK K
     refine norm_ (a' := ?_) ?_ ?_
     rotate_left
     ·show Act.put _ (some 4) _ = _
      simp only [Act.put, List.setIfInBounds_toArray, List.set_cons_zero, List.set_cons_succ, i64_w, i32_w]
      rfl
     exact norm_ (by simp only [putAll, Act.put, List.setIfInBounds_toArray, List.set_cons_zero, List.set_cons_succ]) (hCont (.slice Ao15 t240.length co15, .slice Ao14 t243.length co14, gb246) _ ⟨hHeld, (rC (a := by exact Kd.R_mono HO242.out (fun _ hk => hk.2))), (rC (a := by exact Kd.R_mono HO245.out (fun _ hk => hk.2))), (bA BK237.out), (bA BK238.out), (bA BK246.out), GW246.out, GE246.out, NB237_246.out, NB246_237.out, NB238_246.out, NB246_238.out, (hA HB.out)⟩)
    ·skip
     refine box_step ?hg (N := 4) ?hd (cs := #[.slice none 0 0, .slice none 0 0, .slice none 0 0]) (t := 29) ?hr ?_; (case hd => rfl); (case hg => rfl); (case hr => first | (go_simp; done) | (go_simp; rfl))
     intro gb246 hg w13 hbox hb
     have n0_ := Aside0.mk (Kd.R_below (rA HO242.out) hb)
     have n1_ := Aside0.mk (blk_below (g := gb237) (o := .cells #[.slice A0_0 l0_0.length c0_0, .slice A0_1 l0_1.length c0_1, .slice A0_2 l0_2.length c0_2] 29 (0, 0)) (bA BK237.out) hb)
     have n2_ := Aside0.mk (blk_below (g := gb238) (o := .cells #[.slice none 0 0, .slice none 0 0, .slice none 0 0] 29 (0, 0)) (bA BK238.out) hb)
     have n3_ := Aside0.mk (below_step (hA HB.out) hb)
     have n4_ := Aside0.mk (hbox)
     have n5_ := Aside0.mk ((by rw [hg]; exact (below_size (hA HB.out)) : w.heap.size ≤ gb246))
     have n6_ := Aside0.mk ((by rw [hg]; exact (below_size (hA HB.out)) : w.heap.size ≤ gb246))
     have n7_ := Aside0.mk ((by rw [hg]; exact Nat.ne_of_lt (blk_lt (g := gb237) (o := .cells #[.slice A0_0 l0_0.length c0_0, .slice A0_1 l0_1.length c0_1, .slice A0_2 l0_2.length c0_2] 29 (0, 0)) (bA BK237.out)) : gb237 ≠ gb246))
     have n8_ := Aside0.mk ((by rw [hg]; exact Nat.ne_of_gt (blk_lt (g := gb237) (o := .cells #[.slice A0_0 l0_0.length c0_0, .slice A0_1 l0_1.length c0_1, .slice A0_2 l0_2.length c0_2] 29 (0, 0)) (bA BK237.out)) : gb246 ≠ gb237))
     have n9_ := Aside0.mk ((by rw [hg]; exact Nat.ne_of_lt (blk_lt (g := gb238) (o := .cells #[.slice none 0 0, .slice none 0 0, .slice none 0 0] 29 (0, 0)) (bA BK238.out)) : gb238 ≠ gb246))
     have n10_ := Aside0.mk ((by rw [hg]; exact Nat.ne_of_gt (blk_lt (g := gb238) (o := .cells #[.slice none 0 0, .slice none 0 0, .slice none 0 0] 29 (0, 0)) (bA BK238.out)) : gb246 ≠ gb238))
     clear HO242
     clear BK237
     clear BK238
     clear HB
     have HO242 := n0_
     have BK237 := n1_
     have BK238 := n2_
     have HB := n3_
     have BK246 := n4_
     have GW246 := n5_
     have GE246 := n6_
     have NB237_246 := n7_
     have NB246_237 := n8_
     have NB238_246 := n9_
     have NB246_238 := n10_
     clear n0_ n1_ n2_ n3_ n4_ n5_ n6_ n7_ n8_ n9_ n10_
     clear hb hbox hg
     refine hK.out _ _ ⟨(blk_cell BK237.out 0).trans rfl, (blk_cell BK237.out 1).trans rfl, (blk_cell BK237.out 2).trans rfl⟩ (fun hHeld => ?_)
     clear hK K
     refine norm_ (a' := ?_) ?_ ?_
     rotate_left
     ·show Act.put _ (some 4) _ = _
      simp only [Act.put, List.setIfInBounds_toArray, List.set_cons_zero, List.set_cons_succ, i64_w, i32_w]
      rfl
     refine one_ (i := 5) (N := some 17) #[true, true, true, true, true, true, false, true, false] rfl rfl (one_of HT_.out (by kernel_rfl)) (by decide) (fun K hK => ?_)
     refine goes_ Try.func41 (by kernel_rfl) rfl #[.slice A0_2 l0_2.length c0_2] (by rfl) rfl rfl ar ?_
     with_reducible refine (slices_Clone_int_int.calls k _ _ l0_2 t243 _ ?side1 ?side2 A5.out).mono ?_
     (case side1 => repeat (first | exact (Kd.C_below HR0_2.out HB.out) | (with_reducible refine Kd.C_alloc ?_ _) | (with_reducible refine Kd.C_drewN ?_ _) | (with_reducible refine Kd.C_drew ?_)))
     (case side2 => exact HC0_2.out)
     rintro e w14 ⟨v244, rfl, ho0, hb⟩
     refine ⟨_, rfl, ?_⟩
     have n0_ := Aside0.mk (Kd.R_elder' (rA HO242.out) (Kd.R_base ho0) hb)
     have n1_ := Aside0.mk (Kd.R_lower (Kd.R_new' ho0 (Kd.R_lt (rA HO242.out))) (below_size (hA HB.out)))
     have n2_ := Aside0.mk (blk_below (g := gb237) (o := .cells #[.slice A0_0 l0_0.length c0_0, .slice A0_1 l0_1.length c0_1, .slice A0_2 l0_2.length c0_2] 29 (0, 0)) (bA BK237.out) hb)
     have n3_ := Aside0.mk (blk_below (g := gb238) (o := .cells #[.slice none 0 0, .slice none 0 0, .slice none 0 0] 29 (0, 0)) (bA BK238.out) hb)
     have n4_ := Aside0.mk (blk_below (g := gb246) (o := .cells #[.slice none 0 0, .slice none 0 0, .slice none 0 0] 29 (0, 0)) (bA BK246.out) hb)
     have n5_ := Aside0.mk (below_step (hA HB.out) hb)
     clear HO242
     clear BK237
     clear BK238
     clear BK246
     clear HB
     have HO242 := n0_
     have HO245 := n1_
     have BK237 := n2_
     have BK238 := n3_
     have BK246 := n4_
     have HB := n5_
     clear n0_ n1_ n2_ n3_ n4_ n5_
     (try clear hb)
     (try clear hb2)
     (try clear hk)
     (try clear hi)
     (try clear ho0)
     obtain ⟨Ao15, co15, eo15⟩ := Kd.R_slice HO245.out
     (first | subst eo15 | (injection eo15 with f1_ f2_ f3_; have f4_ := f1_.symm; have f5_ := f3_.symm; clear f1_ f2_ f3_; subst f4_; subst f5_))
     obtain ⟨Ao16, co16, eo16⟩ := Kd.R_slice HO242.out
     (first | subst eo16 | (injection eo16 with f1_ f2_ f3_; have f4_ := f1_.symm; have f5_ := f3_.symm; clear f1_ f2_ f3_; subst f4_; subst f5_))
     refine hK.out _ _ ⟨(blk_cell BK237.out 0).trans rfl, (blk_cell BK237.out 1).trans rfl, (blk_cell BK237.out 2).trans rfl⟩ (fun hHeld => ?_)
     clear hK K
     refine norm_ (a' := ?_) ?_ ?_
     rotate_left
     ·show Act.put _ (some 17) _ = _
      simp only [Act.put, List.setIfInBounds_toArray, List.set_cons_zero, List.set_cons_succ, i64_w, i32_w]
      rfl
     refine pure_ (i := 6) (N := some 18) (v := ?_) (a' := ?_) #[true, true, true, true, true, true, true, true, false] rfl rfl (any_of HT_.out (by kernel_rfl)) (fun _ _ _ h => h) (Or.inl ⟨by rfl, ?_⟩) ?_ ?_
     rotate_left
     ·intro w'
      go_simp
      with_reducible rfl
     rotate_left
     ·simp only [Act.put, List.setIfInBounds_toArray, List.set_cons_zero, List.set_cons_succ, i64_w, i32_w]
      rfl
     exact norm_ (by simp only [putAll, Act.put, List.setIfInBounds_toArray, List.set_cons_zero, List.set_cons_succ]) (hCont (.slice Ao16 t240.length co16, .slice Ao15 t243.length co15, gb246) _ ⟨hHeld, (rC (a := by exact Kd.R_mono HO242.out (fun _ hk => hk.2))), (rC (a := by exact Kd.R_mono HO245.out (fun _ hk => hk.2))), (bA BK237.out), (bA BK238.out), (bA BK246.out), GW246.out, GE246.out, NB237_246.out, NB246_237.out, NB238_246.out, NB246_238.out, (hA HB.out)⟩)
   ·skip
    refine box_step ?hg (N := 4) ?hd (cs := #[.slice none 0 0, .slice none 0 0, .slice none 0 0]) (t := 29) ?hr ?_; (case hd => rfl); (case hg => rfl); (case hr => first | (go_simp; done) | (go_simp; rfl))
    intro gb246 hg w12 hbox hb
    have n0_ := Aside0.mk (blk_below (g := gb237) (o := .cells #[.slice A0_0 l0_0.length c0_0, .slice A0_1 l0_1.length c0_1, .slice A0_2 l0_2.length c0_2] 29 (0, 0)) (bA BK237.out) hb)
    have n1_ := Aside0.mk (blk_below (g := gb238) (o := .cells #[.slice none 0 0, .slice none 0 0, .slice none 0 0] 29 (0, 0)) (bA BK238.out) hb)
    have n2_ := Aside0.mk (below_step (hA HB.out) hb)
    have n3_ := Aside0.mk (hbox)
    have n4_ := Aside0.mk ((by rw [hg]; exact (below_size (hA HB.out)) : w.heap.size ≤ gb246))
    have n5_ := Aside0.mk ((by rw [hg]; exact (below_size (hA HB.out)) : w.heap.size ≤ gb246))
    have n6_ := Aside0.mk ((by rw [hg]; exact Nat.ne_of_lt (blk_lt (g := gb237) (o := .cells #[.slice A0_0 l0_0.length c0_0, .slice A0_1 l0_1.length c0_1, .slice A0_2 l0_2.length c0_2] 29 (0, 0)) (bA BK237.out)) : gb237 ≠ gb246))
    have n7_ := Aside0.mk ((by rw [hg]; exact Nat.ne_of_gt (blk_lt (g := gb237) (o := .cells #[.slice A0_0 l0_0.length c0_0, .slice A0_1 l0_1.length c0_1, .slice A0_2 l0_2.length c0_2] 29 (0, 0)) (bA BK237.out)) : gb246 ≠ gb237))
    have n8_ := Aside0.mk ((by rw [hg]; exact Nat.ne_of_lt (blk_lt (g := gb238) (o := .cells #[.slice none 0 0, .slice none 0 0, .slice none 0 0] 29 (0, 0)) (bA BK238.out)) : gb238 ≠ gb246))
    have n9_ := Aside0.mk ((by rw [hg]; exact Nat.ne_of_gt (blk_lt (g := gb238) (o := .cells #[.slice none 0 0, .slice none 0 0, .slice none 0 0] 29 (0, 0)) (bA BK238.out)) : gb246 ≠ gb238))
    clear BK237
    clear BK238
    clear HB
    have BK237 := n0_
    have BK238 := n1_
    have HB := n2_
    have BK246 := n3_
    have GW246 := n4_
    have GE246 := n5_
    have NB237_246 := n6_
    have NB246_237 := n7_
    have NB238_246 := n8_
    have NB246_238 := n9_
    clear n0_ n1_ n2_ n3_ n4_ n5_ n6_ n7_ n8_ n9_
    clear hb hbox hg
    refine hK.out _ _ ⟨(blk_cell BK237.out 0).trans rfl, (blk_cell BK237.out 1).trans rfl, (blk_cell BK237.out 2).trans rfl⟩ (fun hHeld => ?_)
    clear hK K
    refine norm_ (a' := ?_) ?_ ?_
    rotate_left
    ·show Act.put _ (some 4) _ = _
     simp only [Act.put, List.setIfInBounds_toArray, List.set_cons_zero, List.set_cons_succ, i64_w, i32_w]
     rfl
    refine one_ (i := 2) (N := some 14) #[true, true, true, true, true, false, false, true, false] rfl rfl (one_of HT_.out (by kernel_rfl)) (by decide) (fun K hK => ?_)
    refine goes_ Try.func41 (by kernel_rfl) rfl #[.slice A0_1 l0_1.length c0_1] (by rfl) rfl rfl ar ?_
    with_reducible refine (slices_Clone_int_int.calls k _ _ l0_1 t240 _ ?side1 ?side2 A4.out).mono ?_
    (case side1 => repeat (first | exact (Kd.C_below HR0_1.out HB.out) | (with_reducible refine Kd.C_alloc ?_ _) | (with_reducible refine Kd.C_drewN ?_ _) | (with_reducible refine Kd.C_drew ?_)))
    (case side2 => exact HC0_1.out)
    rintro e w13 ⟨v241, rfl, ho0, hb⟩
    refine ⟨_, rfl, ?_⟩
    have n0_ := Aside0.mk (Kd.R_lower ho0 (below_size (hA HB.out)))
    have n1_ := Aside0.mk (blk_below (g := gb237) (o := .cells #[.slice A0_0 l0_0.length c0_0, .slice A0_1 l0_1.length c0_1, .slice A0_2 l0_2.length c0_2] 29 (0, 0)) (bA BK237.out) hb)
    have n2_ := Aside0.mk (blk_below (g := gb238) (o := .cells #[.slice none 0 0, .slice none 0 0, .slice none 0 0] 29 (0, 0)) (bA BK238.out) hb)
    have n3_ := Aside0.mk (blk_below (g := gb246) (o := .cells #[.slice none 0 0, .slice none 0 0, .slice none 0 0] 29 (0, 0)) (bA BK246.out) hb)
    have n4_ := Aside0.mk (below_step (hA HB.out) hb)
    clear BK237
    clear BK238
    clear BK246
    clear HB
    have HO242 := n0_
    have BK237 := n1_
    have BK238 := n2_
    have BK246 := n3_
    have HB := n4_
    clear n0_ n1_ n2_ n3_ n4_
    (try clear hb)
    (try clear hb2)
    (try clear hk)
    (try clear hi)
    (try clear ho0)
    refine hK.out _ _ ⟨(blk_cell BK237.out 0).trans rfl, (blk_cell BK237.out 1).trans rfl, (blk_cell BK237.out 2).trans rfl⟩ (fun hHeld => ?_)
    clear hK K
    refine norm_ (a' := ?_) ?_ ?_
    rotate_left
    ·show Act.put _ (some 14) _ = _
     simp only [Act.put, List.setIfInBounds_toArray, List.set_cons_zero, List.set_cons_succ, i64_w, i32_w]
     rfl
    refine one_ (i := 5) (N := some 17) #[true, true, true, true, true, true, false, true, false] rfl rfl (one_of HT_.out (by kernel_rfl)) (by decide) (fun K hK => ?_)
    refine goes_ Try.func41 (by kernel_rfl) rfl #[.slice A0_2 l0_2.length c0_2] (by rfl) rfl rfl ar ?_
    with_reducible refine (slices_Clone_int_int.calls k _ _ l0_2 t243 _ ?side1 ?side2 A5.out).mono ?_
    (case side1 => repeat (first | exact (Kd.C_below HR0_2.out HB.out) | (with_reducible refine Kd.C_alloc ?_ _) | (with_reducible refine Kd.C_drewN ?_ _) | (with_reducible refine Kd.C_drew ?_)))
    (case side2 => exact HC0_2.out)
    rintro e w14 ⟨v244, rfl, ho0, hb⟩
    refine ⟨_, rfl, ?_⟩
    have n0_ := Aside0.mk (Kd.R_elder' (rA HO242.out) (Kd.R_base ho0) hb)
    have n1_ := Aside0.mk (Kd.R_lower (Kd.R_new' ho0 (Kd.R_lt (rA HO242.out))) (below_size (hA HB.out)))
    have n2_ := Aside0.mk (blk_below (g := gb237) (o := .cells #[.slice A0_0 l0_0.length c0_0, .slice A0_1 l0_1.length c0_1, .slice A0_2 l0_2.length c0_2] 29 (0, 0)) (bA BK237.out) hb)
    have n3_ := Aside0.mk (blk_below (g := gb238) (o := .cells #[.slice none 0 0, .slice none 0 0, .slice none 0 0] 29 (0, 0)) (bA BK238.out) hb)
    have n4_ := Aside0.mk (blk_below (g := gb246) (o := .cells #[.slice none 0 0, .slice none 0 0, .slice none 0 0] 29 (0, 0)) (bA BK246.out) hb)
    have n5_ := Aside0.mk (below_step (hA HB.out) hb)
    clear HO242
    clear BK237
    clear BK238
    clear BK246
    clear HB
    have HO242 := n0_
    have HO245 := n1_
    have BK237 := n2_
    have BK238 := n3_
    have BK246 := n4_
    have HB := n5_
    clear n0_ n1_ n2_ n3_ n4_ n5_
    (try clear hb)
    (try clear hb2)
    (try clear hk)
    (try clear hi)
    (try clear ho0)
    obtain ⟨Ao15, co15, eo15⟩ := Kd.R_slice HO245.out
    (first | subst eo15 | (injection eo15 with f1_ f2_ f3_; have f4_ := f1_.symm; have f5_ := f3_.symm; clear f1_ f2_ f3_; subst f4_; subst f5_))
    obtain ⟨Ao16, co16, eo16⟩ := Kd.R_slice HO242.out
    (first | subst eo16 | (injection eo16 with f1_ f2_ f3_; have f4_ := f1_.symm; have f5_ := f3_.symm; clear f1_ f2_ f3_; subst f4_; subst f5_))
    refine hK.out _ _ ⟨(blk_cell BK237.out 0).trans rfl, (blk_cell BK237.out 1).trans rfl, (blk_cell BK237.out 2).trans rfl⟩ (fun hHeld => ?_)
    clear hK K
    refine norm_ (a' := ?_) ?_ ?_
    rotate_left
    ·show Act.put _ (some 17) _ = _
     simp only [Act.put, List.setIfInBounds_toArray, List.set_cons_zero, List.set_cons_succ, i64_w, i32_w]
     rfl
    refine pure_ (i := 6) (N := some 18) (v := ?_) (a' := ?_) #[true, true, true, true, true, true, true, true, false] rfl rfl (any_of HT_.out (by kernel_rfl)) (fun _ _ _ h => h) (Or.inl ⟨by rfl, ?_⟩) ?_ ?_
    rotate_left
    ·intro w'
     go_simp
     with_reducible rfl
    rotate_left
    ·simp only [Act.put, List.setIfInBounds_toArray, List.set_cons_zero, List.set_cons_succ, i64_w, i32_w]
     rfl
    exact norm_ (by simp only [putAll, Act.put, List.setIfInBounds_toArray, List.set_cons_zero, List.set_cons_succ]) (hCont (.slice Ao16 t240.length co16, .slice Ao15 t243.length co15, gb246) _ ⟨hHeld, (rC (a := by exact Kd.R_mono HO242.out (fun _ hk => hk.2))), (rC (a := by exact Kd.R_mono HO245.out (fun _ hk => hk.2))), (bA BK237.out), (bA BK238.out), (bA BK246.out), GW246.out, GE246.out, NB237_246.out, NB246_237.out, NB238_246.out, NB246_238.out, (hA HB.out)⟩)
  rintro ⟨v241, v244, gb246⟩ w17 ⟨hS_, h0_, h1_, h2_, h3_, h4_, h5_, h6_, h7_, h8_, h9_, h10_, h11_⟩
  have n0_ : Aside0 (Kd.R (Kd.int .i64) 3 w17 w.heap.size (fun k_ => some k_ ≠ (v244 : Value).ownBlock) v241 t240) := ⟨h0_⟩
  have n1_ : Aside0 (Kd.R (Kd.int .i64) 3 w17 w.heap.size (fun k_ => some k_ ≠ (v241 : Value).ownBlock) v244 t243) := ⟨h1_⟩
  have n2_ : Aside0 (w17.heap[gb237]? = some (.cells #[.slice A0_0 l0_0.length c0_0, .slice A0_1 l0_1.length c0_1, .slice A0_2 l0_2.length c0_2] 29 (0, 0))) := ⟨h2_⟩
  have n3_ : Aside0 (w17.heap[gb238]? = some (.cells #[.slice none 0 0, .slice none 0 0, .slice none 0 0] 29 (0, 0))) := ⟨h3_⟩
  have n4_ : Aside0 (w17.heap[gb246]? = some (.cells #[.slice none 0 0, .slice none 0 0, .slice none 0 0] 29 (0, 0))) := ⟨h4_⟩
  have n5_ : Aside0 (w.heap.size ≤ gb246) := ⟨h5_⟩
  have n6_ : Aside0 (w.heap.size ≤ gb246) := ⟨h6_⟩
  have n7_ : Aside0 (gb237 ≠ gb246) := ⟨h7_⟩
  have n8_ : Aside0 (gb246 ≠ gb237) := ⟨h8_⟩
  have n9_ : Aside0 (gb238 ≠ gb246) := ⟨h9_⟩
  have n10_ : Aside0 (gb246 ≠ gb238) := ⟨h10_⟩
  have n11_ : Aside0 (Below w.heap.size w w17) := ⟨h11_⟩
  clear BK237
  clear BK238
  clear HB
  clear h0_ h1_ h2_ h3_ h4_ h5_ h6_ h7_ h8_ h9_ h10_ h11_
  have HO242 := n0_
  have HO245 := n1_
  have BK237 := n2_
  have BK238 := n3_
  have BK246 := n4_
  have GW246 := n5_
  have GE246 := n6_
  have NB237_246 := n7_
  have NB246_237 := n8_
  have NB238_246 := n9_
  have NB246_238 := n10_
  have HB := n11_
  clear n0_ n1_ n2_ n3_ n4_ n5_ n6_ n7_ n8_ n9_ n10_ n11_
  have hHeld : w17.cell? ⟨gb237, 0, none⟩ = some (.slice A0_0 l0_0.length c0_0) ∧ w17.cell? ⟨gb237, 1, none⟩ = some (.slice A0_1 l0_1.length c0_1) ∧ w17.cell? ⟨gb237, 2, none⟩ = some (.slice A0_2 l0_2.length c0_2) := hS_
  obtain ⟨Ao18, co18, eo18⟩ := Kd.R_slice HO245.out
  (first | subst eo18 | (injection eo18 with f1_ f2_ f3_; have f4_ := f1_.symm; have f5_ := f3_.symm; clear f1_ f2_ f3_; subst f4_; subst f5_))
  obtain ⟨Ao19, co19, eo19⟩ := Kd.R_slice HO242.out
  (first | subst eo19 | (injection eo19 with f1_ f2_ f3_; have f4_ := f1_.symm; have f5_ := f3_.symm; clear f1_ f2_ f3_; subst f4_; subst f5_))
  refine norm_ (a' := ?_) ?_ ?_
  rotate_left
  ·simp only [putAll, Act.put, List.setIfInBounds_toArray, List.set_cons_zero, List.set_cons_succ]
   rfl
  refine one_ (i := 8) (N := none) #[true, true, true, true, true, true, true, true, true] rfl rfl (one_of HT_.out (by kernel_rfl)) (by decide) (fun K hK => ?_)
  have hs20 : w17.cell? ⟨gb246, 0, none⟩ = some (.slice none 0 0) := (blk_cell BK246.out 0).trans rfl
  have hfs20 := blk_frozen BK246.out 0
  have hns20_0 := NB237_246.out
  have hns20_1 := NB238_246.out
  have hms20_0 := NB246_237.out
  have hms20_1 := NB246_238.out
  have hs21 : w17.cell? ⟨gb246, 1, none⟩ = some (.slice none 0 0) := (blk_cell BK246.out 1).trans rfl
  have hfs21 := blk_frozen BK246.out 1
  have hns21_0 := NB237_246.out
  have hns21_1 := NB238_246.out
  have hms21_0 := NB246_237.out
  have hms21_1 := NB246_238.out
  have hs22 : w17.cell? ⟨gb246, 2, none⟩ = some (.slice none 0 0) := (blk_cell BK246.out 2).trans rfl
  have hfs22 := blk_frozen BK246.out 2
  have hns22_0 := NB237_246.out
  have hns22_1 := NB238_246.out
  have hms22_0 := NB246_237.out
  have hms22_1 := NB246_238.out
  refine skip_ (w1 := ?_) (by rfl) rfl ?_ ?_
  rotate_left
  ·go_simp
   rfl
  refine hK.out _ _ ⟨((cell_far (p := ⟨gb246, _, none⟩) NB237_246.out _).trans (((cell_far (p := ⟨gb246, _, none⟩) NB237_246.out _).trans (((cell_far (p := ⟨gb246, _, none⟩) NB237_246.out _).trans (hHeld.1)))))), ((cell_far (p := ⟨gb246, _, none⟩) NB237_246.out _).trans (((cell_far (p := ⟨gb246, _, none⟩) NB237_246.out _).trans (((cell_far (p := ⟨gb246, _, none⟩) NB237_246.out _).trans (hHeld.2.1)))))), ((cell_far (p := ⟨gb246, _, none⟩) NB237_246.out _).trans (((cell_far (p := ⟨gb246, _, none⟩) NB237_246.out _).trans (((cell_far (p := ⟨gb246, _, none⟩) NB237_246.out _).trans (hHeld.2.2))))))⟩ (fun hHeld => ?_)
  clear hK K
  refine done_ (done_of HT_.out (by kernel_rfl)) ?_
  have hnb23 := NB237_246.out
  have hnc23 := NB246_237.out
  have hcz24_0 : w17.cell? ⟨gb237, 0, none⟩ = some (.slice A0_0 l0_0.length c0_0) := (blk_cell BK237.out 0).trans rfl
  have hcz24_1 : w17.cell? ⟨gb237, 1, none⟩ = some (.slice A0_1 l0_1.length c0_1) := (blk_cell BK237.out 1).trans rfl
  have hcz24_2 : w17.cell? ⟨gb237, 2, none⟩ = some (.slice A0_2 l0_2.length c0_2) := (blk_cell BK237.out 2).trans rfl
  have hfz24_0 := blk_frozen BK237.out 0
  have hfz24_1 := blk_frozen BK237.out 1
  have hfz24_2 := blk_frozen BK237.out 2
  try go_wp2
  go_loopg [5, 22] k (fun kq v5 v22 w' => ∃ (x5_1 : List Int) (x22_1 : Int) (x247000_1 : List (S50)) (u247000 : Value), v22 = .int .i64 x22_1 ∧ Aside0 (impl_MendBook.l0 kq x5_1 l0_0 (l0_0.length : Int) x22_1 x247000_1 t240 t243 = some (r1, r2, r3, r4)) ∧ Aside0 (kq ≤ k) ∧ Aside0 (Kd.R (Kd.int .i64) 3 w' w.heap.size (fun k_ => some k_ ≠ ((.slice Ao19 t240.length co19) : Value).ownBlock ∧ some k_ ≠ ((.slice Ao18 t243.length co18) : Value).ownBlock) v5 x5_1) ∧ Aside0 (Kd.R k50 50 w' w.heap.size (fun _ => True) u247000 x247000_1) ∧ Aside0 (Kd.R (Kd.int .i64) 3 w' w.heap.size (fun k_ => some k_ ≠ (v5 : Value).ownBlock ∧ some k_ ≠ ((.slice Ao18 t243.length co18) : Value).ownBlock) (.slice Ao19 t240.length co19) t240) ∧ Aside0 (Kd.R (Kd.int .i64) 3 w' w.heap.size (fun k_ => some k_ ≠ (v5 : Value).ownBlock ∧ some k_ ≠ ((.slice Ao19 t240.length co19) : Value).ownBlock) (.slice Ao18 t243.length co18) t243) ∧ Aside0 (w'.heap[gb237]? = some (.cells #[(.slice A0_0 l0_0.length c0_0), (.slice A0_1 l0_1.length c0_1), (.slice A0_2 l0_2.length c0_2)] 29 (0, 0))) ∧ Aside0 (w'.heap[gb238]? = some (.cells #[(.slice none 0 0), (.slice none 0 0), (.slice none 0 0)] 29 (0, 0))) ∧ Aside0 (w'.heap[gb246]? = some (.cells #[u247000, (.slice Ao19 t240.length co19), (.slice Ao18 t243.length co18)] 29 (0, 0))) ∧ Aside0 (Below w.heap.size w w'))
  case atStart => exact ⟨(([] : List Int)), (0), (([] : List (S50))), (.slice none 0 0), (by first | rfl | (simp; done) | (simp [*]; done)), H', ⟨Nat.le_refl _⟩, ⟨by first | exact Kd.R_nil _ _ _ _ _ | exact Kd.N_nil _ _ _ _ _ | exact Kd.V_nil _ _ _ _ _ | exact Kd.Q_nil _ _ _ _ _ | exact Kd.S_nil _ _ _ _ _⟩, ⟨by first | exact Kd.R_nil _ _ _ _ _ | exact Kd.N_nil _ _ _ _ _ | exact Kd.V_nil _ _ _ _ _ | exact Kd.Q_nil _ _ _ _ _ | exact Kd.S_nil _ _ _ _ _⟩, ⟨by refine rC (a := ?_); exact Kd.R_mono (Kd.R_far (p := ⟨gb246, 2, none⟩) (Kd.R_far (p := ⟨gb246, 1, none⟩) (Kd.R_far (p := ⟨gb246, 0, none⟩) (Kd.R_types HO242.out BK246.out (by decide)) (fun _ hk => hk.2) (.slice none 0 0)) (fun _ hk => hk.2) (.slice Ao19 t240.length co19)) (fun _ hk => hk.2) (.slice Ao18 t243.length co18)) (fun _ hk => ⟨(by simp [Value.ownBlock]), hk.1⟩)⟩, ⟨by refine rC (a := ?_); exact Kd.R_mono (Kd.R_far (p := ⟨gb246, 2, none⟩) (Kd.R_far (p := ⟨gb246, 1, none⟩) (Kd.R_far (p := ⟨gb246, 0, none⟩) (Kd.R_types HO245.out BK246.out (by decide)) (fun _ hk => hk.2) (.slice none 0 0)) (fun _ hk => hk.2) (.slice Ao19 t240.length co19)) (fun _ hk => hk.2) (.slice Ao18 t243.length co18)) (fun _ hk => ⟨(by simp [Value.ownBlock]), hk.1⟩)⟩, ⟨by refine bC (a := ?_); refine blk_far ?_ NB237_246.out _; refine bC (a := ?_); refine blk_far ?_ NB237_246.out _; refine bC (a := ?_); refine blk_far ?_ NB237_246.out _; refine bC (a := ?_); exact BK237.out⟩, ⟨by refine bC (a := ?_); refine blk_far ?_ NB238_246.out _; refine bC (a := ?_); refine blk_far ?_ NB238_246.out _; refine bC (a := ?_); refine blk_far ?_ NB238_246.out _; refine bC (a := ?_); exact BK238.out⟩, ⟨by refine bC (a := ?_); refine blk_put (cs := #[.slice none 0 0, .slice Ao19 t240.length co19, .slice none 0 0]) ?_ 2 _ rfl; refine bC (a := ?_); refine blk_put (cs := #[.slice none 0 0, .slice none 0 0, .slice none 0 0]) ?_ 1 _ rfl; refine bC (a := ?_); refine blk_put (cs := #[.slice none 0 0, .slice none 0 0, .slice none 0 0]) ?_ 0 _ rfl; refine bC (a := ?_); exact BK246.out⟩, ⟨hA HB.out⟩⟩
  case round =>
   clear H'
   try clear c1
   try clear c2
   try clear p2
   try clear c3
   try clear c4
   try clear c8
   try clear c12
   try clear c23
   try clear hcz24_0
   try clear hcz24_1
   try clear hcz24_2
   try clear hcz9_0
   try clear hcz9_1
   try clear hcz9_2
   try clear hfz24_0
   try clear hfz24_1
   try clear hfz24_2
   try clear hfz9_0
   try clear hfz9_1
   try clear hfz9_2
   obtain ⟨x5_1, x22_1, x247000_1, u247000, rfl, HA, HK1, HO_5, HO_247000, HO_247001, HO_247002, BK237, BK238, BK246, HB⟩ := hrel
   cases gk with
   | zero => exact absurd HA.out (by simp [impl_MendBook.l0])
   | succ k1 =>
    have H := HA.out
    clear HA
    simp only [impl_MendBook.l0] at H
    by_cases c25 : x22_1 < (l0_0.length : Int)
    ·rw [if_pos c25] at H
     have c25b0 : decide (x22_1 < (l0_0.length : Int)) = true := decide_eq_true c25
     clear c25
     by_cases c26 : 0 ≤ x22_1
     ·rw [if_pos c26] at H
      have c26b0 : decide (0 ≤ x22_1) = true := decide_eq_true c26
      clear c26
      by_cases c27 : x22_1 < (l0_0.length : Int)
      ·rw [if_pos c27] at H
       have c27b0 : decide (x22_1 < (l0_0.length : Int)) = true := decide_eq_true c27
       clear c27
       by_cases c28 : ((rd_T50 l0_0 x22_1).f0) = ((rd_T50 l0_0 x22_1).f1)
       ·rw [if_pos c28] at H
        have c28b0 : (((rd_T50 l0_0 x22_1).f0) == ((rd_T50 l0_0 x22_1).f1)) = true := beq_iff_eq.mpr c28
        have c28b1 : (((rd_T50 l0_0 x22_1).f0) != ((rd_T50 l0_0 x22_1).f1)) = false := bne_eq_false_iff_eq.mpr c28
        clear c28
        by_cases c29 : x5_1.length < 17592186044416
        ·rw [if_pos c29] at H
         have LMc29 := Aside0.mk c29
         clear c29
         obtain ⟨y249, hy249⟩ : ∃ y_ : List Int, y_ = (x5_1 ++ [x22_1]) := ⟨_, rfl⟩
         replace H : (impl_MendBook.l0 k1 y249 l0_0 (l0_0.length : Int) (wrap64 (x22_1 + 1)) x247000_1 t240 t243) = some (r1, r2, r3, r4) := by first | (rw [hy249]; with_reducible exact H) | (have H2_ := (Option.bind_some _ _).symm.trans H; rw [hy249]; with_reducible exact H2_) | (have H2_ := (Option.bind_some _ _).symm.trans H; with_reducible exact H2_) | with_reducible exact H | (rw [hy249]; exact H) | exact H
         have Ny249 := Aside0.mk hy249
         clear hy249
         have H' := Aside0.mk H
         clear H
         have p247 : 0 ≤ (x22_1 : Int) := of_decide_eq_true sm
         have q247 : x22_1 < (l0_0.length : Int) := of_decide_eq_true sm
         obtain ⟨ad247, e247, hx247_0, hx247_1, hx247_2⟩ := at_T50 HR0_0.out x22_1 p247 q247
         cases e247
         try (replace hx247_0 := (HB.out.cell (World.block_lt_of_cell? w _ hx247_0)).trans hx247_0)
         try (replace hx247_1 := (HB.out.cell (World.block_lt_of_cell? w _ hx247_1)).trans hx247_1)
         try (replace hx247_2 := (HB.out.cell (World.block_lt_of_cell? w _ hx247_2)).trans hx247_2)
         replace p247 := eq_true p247
         replace q247 := eq_true q247
         go_wp2_with (first | ((with_reducible refine gate_dst (N := 7) rfl ?_); refine box_event ?hg (N := 7) ?hd (cs := #[.int .i64 0, .int .i64 0, .int .i64 0]) (t := 50) ?hr ?_; (case hd => rfl); (case hg => rfl); (case hr => first | (go_simp; done) | (go_simp; rfl)); intro gb248 hg w30 hbox hb; have n0_ := Aside0.mk (Kd.R_below (rA HO_5.out) hb); have n1_ := Aside0.mk (Kd.R_below (Kd.R_elderB (rA HO_247000.out) gb248 (Nat.le_of_eq hg.symm)) hb); have n2_ := Aside0.mk (Kd.R_below (rA HO_247001.out) hb); have n3_ := Aside0.mk (Kd.R_below (rA HO_247002.out) hb); have n4_ := Aside0.mk (blk_below (g := gb237) (o := .cells #[.slice (some ad247) l0_0.length c0_0, .slice A0_1 l0_1.length c0_1, .slice A0_2 l0_2.length c0_2] 29 (0, 0)) (bA BK237.out) hb); have n5_ := Aside0.mk (blk_below (g := gb238) (o := .cells #[.slice none 0 0, .slice none 0 0, .slice none 0 0] 29 (0, 0)) (bA BK238.out) hb); have n6_ := Aside0.mk (blk_below (g := gb246) (o := .cells #[u247000, .slice Ao19 t240.length co19, .slice Ao18 t243.length co18] 29 (0, 0)) (bA BK246.out) hb); have n7_ := Aside0.mk (below_step (hA HB.out) hb); have n8_ := Aside0.mk (hbox); have n9_ := Aside0.mk ((by rw [hg]; exact (below_size (hA HB.out)) : w.heap.size ≤ gb248)); have n10_ := Aside0.mk ((by rw [hg]; exact (below_size (hA HB.out)) : w.heap.size ≤ gb248)); have n11_ := Aside0.mk ((by rw [hg]; exact Nat.ne_of_lt (blk_lt (g := gb237) (o := .cells #[.slice (some ad247) l0_0.length c0_0, .slice A0_1 l0_1.length c0_1, .slice A0_2 l0_2.length c0_2] 29 (0, 0)) (bA BK237.out)) : gb237 ≠ gb248)); have n12_ := Aside0.mk ((by rw [hg]; exact Nat.ne_of_gt (blk_lt (g := gb237) (o := .cells #[.slice (some ad247) l0_0.length c0_0, .slice A0_1 l0_1.length c0_1, .slice A0_2 l0_2.length c0_2] 29 (0, 0)) (bA BK237.out)) : gb248 ≠ gb237)); have n13_ := Aside0.mk ((by rw [hg]; exact Nat.ne_of_lt (blk_lt (g := gb238) (o := .cells #[.slice none 0 0, .slice none 0 0, .slice none 0 0] 29 (0, 0)) (bA BK238.out)) : gb238 ≠ gb248)); have n14_ := Aside0.mk ((by rw [hg]; exact Nat.ne_of_gt (blk_lt (g := gb238) (o := .cells #[.slice none 0 0, .slice none 0 0, .slice none 0 0] 29 (0, 0)) (bA BK238.out)) : gb248 ≠ gb238)); have n15_ := Aside0.mk ((by rw [hg]; exact Nat.ne_of_lt (blk_lt (g := gb246) (o := .cells #[u247000, .slice Ao19 t240.length co19, .slice Ao18 t243.length co18] 29 (0, 0)) (bA BK246.out)) : gb246 ≠ gb248)); have n16_ := Aside0.mk ((by rw [hg]; exact Nat.ne_of_gt (blk_lt (g := gb246) (o := .cells #[u247000, .slice Ao19 t240.length co19, .slice Ao18 t243.length co18] 29 (0, 0)) (bA BK246.out)) : gb248 ≠ gb246)); clear HO_5; clear HO_247000; clear HO_247001; clear HO_247002; clear BK237; clear BK238; clear BK246; clear HB; have HO_5 := n0_; have HO_247000 := n1_; have HO_247001 := n2_; have HO_247002 := n3_; have BK237 := n4_; have BK238 := n5_; have BK246 := n6_; have HB := n7_; have BK248 := n8_; have GW248 := n9_; have GE248 := n10_; have NB237_248 := n11_; have NB248_237 := n12_; have NB238_248 := n13_; have NB248_238 := n14_; have NB246_248 := n15_; have NB248_246 := n16_; clear n0_ n1_ n2_ n3_ n4_ n5_ n6_ n7_ n8_ n9_ n10_ n11_ n12_ n13_ n14_ n15_ n16_; clear hb hbox hg; have hnb31 := NB248_237.out; have hnc31 := NB237_248.out; have hnb32 := NB248_238.out; have hnc32 := NB238_248.out; have hnb33 := NB248_246.out; have hnc33 := NB246_248.out; have hcz34_0 : w30.cell? ⟨gb248, 0, none⟩ = some (.int .i64 0) := (blk_cell BK248.out 0).trans rfl; have hcz34_1 : w30.cell? ⟨gb248, 1, none⟩ = some (.int .i64 0) := (blk_cell BK248.out 1).trans rfl; have hcz34_2 : w30.cell? ⟨gb248, 2, none⟩ = some (.int .i64 0) := (blk_cell BK248.out 2).trans rfl; have hfz34_0 := blk_frozen BK248.out 0; have hfz34_1 := blk_frozen BK248.out 1; have hfz34_2 := blk_frozen BK248.out 2) | ((with_reducible refine gate_builtin (b := .append) (xs := #[.tmp 39, .tmp 41]) rfl ?_); at_builtin; refine Kd.R_append (Kd.int .i64) (w0 := w) w.heap.size rfl (.tmp 39) (.tmp 41) 23 3 (.int .i64 0) 8 rfl Try.underlying23 info3 rfl (by decide) (by omega) u5 x5_1 x22_1 [.int .i64 x22_1] (fun k_ => some k_ ≠ (.slice Ao19 t240.length co19 : Value).ownBlock ∧ some k_ ≠ (.slice Ao18 t243.length co18 : Value).ownBlock) (fun _ => False) rfl (by first | (go_simp; done) | (go_simp; rfl)) ?aP (fun _ hk => hk.elim) ?aF ?aO ?aB ?aS ?aL ?_; (case aP => exact rfl); (case aB => exact (hA HB.out)); (case aF => exact (fun k_ hk => ⟨Kd.fresh' (Kd.R_lt (rC (a := by exact (Kd.R_mono (Kd.R_far (p := ⟨gb248, 2, none⟩) (Kd.R_far (p := ⟨gb248, 1, none⟩) (Kd.R_far (p := ⟨gb248, 0, none⟩) (Kd.R_types HO_247001.out BK248.out (by decide)) (fun _ hk => hk.2) (.int .i64 ((rd_T50 l0_0 x22_1).f0))) (fun _ hk => hk.2) (.int .i64 ((rd_T50 l0_0 x22_1).f1))) (fun _ hk => hk.2) (.int .i64 ((rd_T50 l0_0 x22_1).f2))) (fun _ h_ => h_.1))))) k_ hk, Kd.fresh' (Kd.R_lt (rC (a := by exact (Kd.R_mono (Kd.R_far (p := ⟨gb248, 2, none⟩) (Kd.R_far (p := ⟨gb248, 1, none⟩) (Kd.R_far (p := ⟨gb248, 0, none⟩) (Kd.R_types HO_247002.out BK248.out (by decide)) (fun _ hk => hk.2) (.int .i64 ((rd_T50 l0_0 x22_1).f0))) (fun _ hk => hk.2) (.int .i64 ((rd_T50 l0_0 x22_1).f1))) (fun _ hk => hk.2) (.int .i64 ((rd_T50 l0_0 x22_1).f2))) (fun _ h_ => h_.1))))) k_ hk⟩)); (case aO => exact (rC (a := by exact Kd.R_mono (Kd.R_far (p := ⟨gb248, 2, none⟩) (Kd.R_far (p := ⟨gb248, 1, none⟩) (Kd.R_far (p := ⟨gb248, 0, none⟩) (Kd.R_types HO_5.out BK248.out (by decide)) (fun _ hk => hk.2) (.int .i64 ((rd_T50 l0_0 x22_1).f0))) (fun _ hk => hk.2) (.int .i64 ((rd_T50 l0_0 x22_1).f1))) (fun _ hk => hk.2) (.int .i64 ((rd_T50 l0_0 x22_1).f2))) (fun _ hk => ⟨hk.1.1, hk.1.2⟩)))); (case aS => exact (below_size (hA HB.out))); (case aL => have := LMc29.out; omega); intro v250 w35 ho hb hg hat; rw [← Ny249.out] at ho; have n0_ := Aside0.mk (Kd.R_over' (rC (a := by exact (Kd.R_mono (Kd.R_far (p := ⟨gb248, 2, none⟩) (Kd.R_far (p := ⟨gb248, 1, none⟩) (Kd.R_far (p := ⟨gb248, 0, none⟩) (Kd.R_mono HO_247000.out (fun k_ hk => (⟨hk, hk.2⟩ : _ ∧ k_ ≠ gb248))) (fun _ hk => hk.2) (.int .i64 ((rd_T50 l0_0 x22_1).f0))) (fun _ hk => hk.2) (.int .i64 ((rd_T50 l0_0 x22_1).f1))) (fun _ hk => hk.2) (.int .i64 ((rd_T50 l0_0 x22_1).f2))) (fun _ h_ => h_.1)))) (Kd.R_typed (rC (a := by exact (Kd.R_mono (Kd.R_far (p := ⟨gb248, 2, none⟩) (Kd.R_far (p := ⟨gb248, 1, none⟩) (Kd.R_far (p := ⟨gb248, 0, none⟩) (Kd.R_types HO_5.out BK248.out (by decide)) (fun _ hk => hk.2) (.int .i64 ((rd_T50 l0_0 x22_1).f0))) (fun _ hk => hk.2) (.int .i64 ((rd_T50 l0_0 x22_1).f1))) (fun _ hk => hk.2) (.int .i64 ((rd_T50 l0_0 x22_1).f2))) (fun _ h_ => h_.1))))) (by decide) hg); have n1_ := Aside0.mk (Kd.R_after (ok := (fun k_ => some k_ ≠ (.slice Ao18 t243.length co18 : Value).ownBlock)) (rC (a := by exact Kd.R_mono (Kd.R_far (p := ⟨gb248, 2, none⟩) (Kd.R_far (p := ⟨gb248, 1, none⟩) (Kd.R_far (p := ⟨gb248, 0, none⟩) (Kd.R_types HO_247001.out BK248.out (by decide)) (fun _ hk => hk.2) (.int .i64 ((rd_T50 l0_0 x22_1).f0))) (fun _ hk => hk.2) (.int .i64 ((rd_T50 l0_0 x22_1).f1))) (fun _ hk => hk.2) (.int .i64 ((rd_T50 l0_0 x22_1).f2))) (fun _ hk => ⟨hk.1.2, hk.1.1⟩))) hg hat); have n2_ := Aside0.mk (Kd.R_after (ok := (fun k_ => some k_ ≠ (.slice Ao19 t240.length co19 : Value).ownBlock)) (rC (a := by exact Kd.R_mono (Kd.R_far (p := ⟨gb248, 2, none⟩) (Kd.R_far (p := ⟨gb248, 1, none⟩) (Kd.R_far (p := ⟨gb248, 0, none⟩) (Kd.R_types HO_247002.out BK248.out (by decide)) (fun _ hk => hk.2) (.int .i64 ((rd_T50 l0_0 x22_1).f0))) (fun _ hk => hk.2) (.int .i64 ((rd_T50 l0_0 x22_1).f1))) (fun _ hk => hk.2) (.int .i64 ((rd_T50 l0_0 x22_1).f2))) (fun _ hk => ⟨hk.1.2, hk.1.1⟩))) hg hat); have n3_ := Aside0.mk (blk_grown (g := gb237) (o := .cells #[.slice (some ad247) l0_0.length c0_0, .slice A0_1 l0_1.length c0_1, .slice A0_2 l0_2.length c0_2] 29 (0, 0)) (by refine bC (a := ?_); refine blk_far ?_ NB237_248.out _; refine bC (a := ?_); refine blk_far ?_ NB237_248.out _; refine bC (a := ?_); refine blk_far ?_ NB237_248.out _; refine bC (a := ?_); exact BK237.out) hg (Kd.R_ne HO_5.out BK237.out (by decide))); have n4_ := Aside0.mk (blk_grown (g := gb238) (o := .cells #[.slice none 0 0, .slice none 0 0, .slice none 0 0] 29 (0, 0)) (by refine bC (a := ?_); refine blk_far ?_ NB238_248.out _; refine bC (a := ?_); refine blk_far ?_ NB238_248.out _; refine bC (a := ?_); refine blk_far ?_ NB238_248.out _; refine bC (a := ?_); exact BK238.out) hg (Kd.R_ne HO_5.out BK238.out (by decide))); have n5_ := Aside0.mk (blk_grown (g := gb246) (o := .cells #[u247000, .slice Ao19 t240.length co19, .slice Ao18 t243.length co18] 29 (0, 0)) (by refine bC (a := ?_); refine blk_far ?_ NB246_248.out _; refine bC (a := ?_); refine blk_far ?_ NB246_248.out _; refine bC (a := ?_); refine blk_far ?_ NB246_248.out _; refine bC (a := ?_); exact BK246.out) hg (Kd.R_ne HO_5.out BK246.out (by decide))); have n6_ := Aside0.mk (blk_grown (g := gb248) (o := .cells #[.int .i64 ((rd_T50 l0_0 x22_1).f0), .int .i64 ((rd_T50 l0_0 x22_1).f1), .int .i64 ((rd_T50 l0_0 x22_1).f2)] 50 (0, 0)) (by refine bC (a := ?_); refine blk_put (cs := #[.int .i64 ((rd_T50 l0_0 x22_1).f0), .int .i64 ((rd_T50 l0_0 x22_1).f1), .int .i64 0]) ?_ 2 _ rfl; refine bC (a := ?_); refine blk_put (cs := #[.int .i64 ((rd_T50 l0_0 x22_1).f0), .int .i64 0, .int .i64 0]) ?_ 1 _ rfl; refine bC (a := ?_); refine blk_put (cs := #[.int .i64 0, .int .i64 0, .int .i64 0]) ?_ 0 _ rfl; refine bC (a := ?_); exact BK248.out) hg (Kd.R_ne HO_5.out BK248.out (by decide))); have n7_ := Aside0.mk (hb); have n8_ := Aside0.mk (ho); clear HO_247000; clear HO_247001; clear HO_247002; clear BK237; clear BK238; clear BK246; clear BK248; clear HB; clear HO_5; have HO_247000 := n0_; have HO_247001 := n1_; have HO_247002 := n2_; have BK237 := n3_; have BK238 := n4_; have BK246 := n5_; have BK248 := n6_; have HB := n7_; have HO251 := n8_; clear n0_ n1_ n2_ n3_ n4_ n5_ n6_ n7_ n8_; clear ho hb hg hat))
         go_roundg k1
         case measure => have := HK1.out; omega
         case rel => exact ⟨(y249), (wrap64 (x22_1 + 1)), (x247000_1), (u247000), (by first | rfl | (simp; done) | (simp [*]; done)), H', ⟨by have := HK1.out; omega⟩, ⟨by refine rC (a := ?_); exact HO251.out⟩, ⟨by refine rC (a := ?_); exact Kd.R_mono HO_247000.out (fun _ hk => trivial)⟩, ⟨by refine rC (a := ?_); exact Kd.R_mono HO_247001.out (fun _ hk => ⟨hk.2, hk.1⟩)⟩, ⟨by refine rC (a := ?_); exact Kd.R_mono HO_247002.out (fun _ hk => ⟨hk.2, hk.1⟩)⟩, ⟨by refine bC (a := ?_); exact BK237.out⟩, ⟨by refine bC (a := ?_); exact BK238.out⟩, ⟨by refine bC (a := ?_); exact BK246.out⟩, ⟨hA HB.out⟩⟩
        ·rw [if_neg c29] at H
         exact absurd H (by simp)
       ·rw [if_neg c28] at H
        have c28b0 : (((rd_T50 l0_0 x22_1).f0) == ((rd_T50 l0_0 x22_1).f1)) = false := beq_eq_false_iff_ne.mpr c28
        have c28b1 : (((rd_T50 l0_0 x22_1).f0) != ((rd_T50 l0_0 x22_1).f1)) = true := bne_iff_ne.mpr c28
        replace H := Option.bind_eq_some_iff.mp H
        obtain ⟨t252, A360, H⟩ := H
        replace H : (if t252 = true then (if x5_1.length < 17592186044416 then (impl_MendBook.l0 k1 (x5_1 ++ [x22_1]) l0_0 (l0_0.length : Int) (wrap64 (x22_1 + 1)) x247000_1 t240 t243) else (none)) else (if x247000_1.length < 5864062014805 then (impl_MendBook.l0 k1 x5_1 l0_0 (l0_0.length : Int) (wrap64 (x22_1 + 1)) (x247000_1 ++ [(⟨(rd_T50 l0_0 x22_1).f0, (rd_T50 l0_0 x22_1).f1, (rd_T50 l0_0 x22_1).f2⟩ : S50)]) t240 t243) else (none))) = some (r1, r2, r3, r4) := H
        have A36 := Aside0.mk A360
        clear A360
        by_cases c37 : t252 = true
        ·subst c37
         have H1 : (if x5_1.length < 17592186044416 then (impl_MendBook.l0 k1 (x5_1 ++ [x22_1]) l0_0 (l0_0.length : Int) (wrap64 (x22_1 + 1)) x247000_1 t240 t243) else (none)) = some (r1, r2, r3, r4) := by rw [if_pos rfl] at H; exact H
         clear H
         have H := H1
         clear H1
         by_cases c38 : x5_1.length < 17592186044416
         ·rw [if_pos c38] at H
          have LMc38 := Aside0.mk c38
          clear c38
          obtain ⟨y253, hy253⟩ : ∃ y_ : List Int, y_ = (x5_1 ++ [x22_1]) := ⟨_, rfl⟩
          replace H : (impl_MendBook.l0 k1 y253 l0_0 (l0_0.length : Int) (wrap64 (x22_1 + 1)) x247000_1 t240 t243) = some (r1, r2, r3, r4) := by first | (rw [hy253]; with_reducible exact H) | (have H2_ := (Option.bind_some _ _).symm.trans H; rw [hy253]; with_reducible exact H2_) | (have H2_ := (Option.bind_some _ _).symm.trans H; with_reducible exact H2_) | with_reducible exact H | (rw [hy253]; exact H) | exact H
          have Ny253 := Aside0.mk hy253
          clear hy253
          have H' := Aside0.mk H
          clear H
          have p247 : 0 ≤ (x22_1 : Int) := of_decide_eq_true sm
          have q247 : x22_1 < (l0_0.length : Int) := of_decide_eq_true sm
          obtain ⟨ad247, e247, hx247_0, hx247_1, hx247_2⟩ := at_T50 HR0_0.out x22_1 p247 q247
          cases e247
          try (replace hx247_0 := (HB.out.cell (World.block_lt_of_cell? w _ hx247_0)).trans hx247_0)
          try (replace hx247_1 := (HB.out.cell (World.block_lt_of_cell? w _ hx247_1)).trans hx247_1)
          try (replace hx247_2 := (HB.out.cell (World.block_lt_of_cell? w _ hx247_2)).trans hx247_2)
          replace p247 := eq_true p247
          replace q247 := eq_true q247
          go_wp2_with (first | ((with_reducible refine gate_dst (N := 7) rfl ?_); refine box_event ?hg (N := 7) ?hd (cs := #[.int .i64 0, .int .i64 0, .int .i64 0]) (t := 50) ?hr ?_; (case hd => rfl); (case hg => rfl); (case hr => first | (go_simp; done) | (go_simp; rfl)); intro gb248 hg w39 hbox hb; have n0_ := Aside0.mk (Kd.R_below (rA HO_5.out) hb); have n1_ := Aside0.mk (Kd.R_below (Kd.R_elderB (rA HO_247000.out) gb248 (Nat.le_of_eq hg.symm)) hb); have n2_ := Aside0.mk (Kd.R_below (rA HO_247001.out) hb); have n3_ := Aside0.mk (Kd.R_below (rA HO_247002.out) hb); have n4_ := Aside0.mk (blk_below (g := gb237) (o := .cells #[.slice (some ad247) l0_0.length c0_0, .slice A0_1 l0_1.length c0_1, .slice A0_2 l0_2.length c0_2] 29 (0, 0)) (bA BK237.out) hb); have n5_ := Aside0.mk (blk_below (g := gb238) (o := .cells #[.slice none 0 0, .slice none 0 0, .slice none 0 0] 29 (0, 0)) (bA BK238.out) hb); have n6_ := Aside0.mk (blk_below (g := gb246) (o := .cells #[u247000, .slice Ao19 t240.length co19, .slice Ao18 t243.length co18] 29 (0, 0)) (bA BK246.out) hb); have n7_ := Aside0.mk (below_step (hA HB.out) hb); have n8_ := Aside0.mk (hbox); have n9_ := Aside0.mk ((by rw [hg]; exact (below_size (hA HB.out)) : w.heap.size ≤ gb248)); have n10_ := Aside0.mk ((by rw [hg]; exact (below_size (hA HB.out)) : w.heap.size ≤ gb248)); have n11_ := Aside0.mk ((by rw [hg]; exact Nat.ne_of_lt (blk_lt (g := gb237) (o := .cells #[.slice (some ad247) l0_0.length c0_0, .slice A0_1 l0_1.length c0_1, .slice A0_2 l0_2.length c0_2] 29 (0, 0)) (bA BK237.out)) : gb237 ≠ gb248)); have n12_ := Aside0.mk ((by rw [hg]; exact Nat.ne_of_gt (blk_lt (g := gb237) (o := .cells #[.slice (some ad247) l0_0.length c0_0, .slice A0_1 l0_1.length c0_1, .slice A0_2 l0_2.length c0_2] 29 (0, 0)) (bA BK237.out)) : gb248 ≠ gb237)); have n13_ := Aside0.mk ((by rw [hg]; exact Nat.ne_of_lt (blk_lt (g := gb238) (o := .cells #[.slice none 0 0, .slice none 0 0, .slice none 0 0] 29 (0, 0)) (bA BK238.out)) : gb238 ≠ gb248)); have n14_ := Aside0.mk ((by rw [hg]; exact Nat.ne_of_gt (blk_lt (g := gb238) (o := .cells #[.slice none 0 0, .slice none 0 0, .slice none 0 0] 29 (0, 0)) (bA BK238.out)) : gb248 ≠ gb238)); have n15_ := Aside0.mk ((by rw [hg]; exact Nat.ne_of_lt (blk_lt (g := gb246) (o := .cells #[u247000, .slice Ao19 t240.length co19, .slice Ao18 t243.length co18] 29 (0, 0)) (bA BK246.out)) : gb246 ≠ gb248)); have n16_ := Aside0.mk ((by rw [hg]; exact Nat.ne_of_gt (blk_lt (g := gb246) (o := .cells #[u247000, .slice Ao19 t240.length co19, .slice Ao18 t243.length co18] 29 (0, 0)) (bA BK246.out)) : gb248 ≠ gb246)); clear HO_5; clear HO_247000; clear HO_247001; clear HO_247002; clear BK237; clear BK238; clear BK246; clear HB; have HO_5 := n0_; have HO_247000 := n1_; have HO_247001 := n2_; have HO_247002 := n3_; have BK237 := n4_; have BK238 := n5_; have BK246 := n6_; have HB := n7_; have BK248 := n8_; have GW248 := n9_; have GE248 := n10_; have NB237_248 := n11_; have NB248_237 := n12_; have NB238_248 := n13_; have NB248_238 := n14_; have NB246_248 := n15_; have NB248_246 := n16_; clear n0_ n1_ n2_ n3_ n4_ n5_ n6_ n7_ n8_ n9_ n10_ n11_ n12_ n13_ n14_ n15_ n16_; clear hb hbox hg; have hnb40 := NB248_237.out; have hnc40 := NB237_248.out; have hnb41 := NB248_238.out; have hnc41 := NB238_248.out; have hnb42 := NB248_246.out; have hnc42 := NB246_248.out; have hcz43_0 : w39.cell? ⟨gb248, 0, none⟩ = some (.int .i64 0) := (blk_cell BK248.out 0).trans rfl; have hcz43_1 : w39.cell? ⟨gb248, 1, none⟩ = some (.int .i64 0) := (blk_cell BK248.out 1).trans rfl; have hcz43_2 : w39.cell? ⟨gb248, 2, none⟩ = some (.int .i64 0) := (blk_cell BK248.out 2).trans rfl; have hfz43_0 := blk_frozen BK248.out 0; have hfz43_1 := blk_frozen BK248.out 1; have hfz43_2 := blk_frozen BK248.out 2; have hnb44 := NB246_237.out; have hnc44 := NB237_246.out; have hnb45 := NB246_238.out; have hnc45 := NB238_246.out; have hcz46_0 : w39.cell? ⟨gb246, 0, none⟩ = some (u247000) := (blk_cell BK246.out 0).trans rfl; have hcz46_1 : w39.cell? ⟨gb246, 1, none⟩ = some (.slice Ao19 t240.length co19) := (blk_cell BK246.out 1).trans rfl; have hcz46_2 : w39.cell? ⟨gb246, 2, none⟩ = some (.slice Ao18 t243.length co18) := (blk_cell BK246.out 2).trans rfl; have hfz46_0 := blk_frozen BK246.out 0; have hfz46_1 := blk_frozen BK246.out 1; have hfz46_2 := blk_frozen BK246.out 2; obtain ⟨Ao47, co47, eo47⟩ := Kd.R_slice HO_247000.out; subst eo47) | (go_at_call 42; (with_reducible refine (impl_Talk_42.calls k1 _ _ x247000_1 ((rd_T50 l0_0 x22_1).f0) ((rd_T50 l0_0 x22_1).f1) ((rd_T50 l0_0 x22_1).f2) true _ ?side1 ?side2 A36.out).mono ?_); (case side1 => refine (Kd.R_reads' (e := 50) (base := w.heap.size) (ok := fun k_ => (True ∧ k_ ≠ gb248)) (n := x247000_1.length) (c := co47) ?_).2.2; exact (rC (a := by exact (Kd.R_mono (Kd.R_far (p := ⟨gb248, 2, none⟩) (Kd.R_far (p := ⟨gb248, 1, none⟩) (Kd.R_far (p := ⟨gb248, 0, none⟩) (Kd.R_mono HO_247000.out (fun k_ hk => (⟨hk, hk.2⟩ : _ ∧ k_ ≠ gb248))) (fun _ hk => hk.2) (.int .i64 ((rd_T50 l0_0 x22_1).f0))) (fun _ hk => hk.2) (.int .i64 ((rd_T50 l0_0 x22_1).f1))) (fun _ hk => hk.2) (.int .i64 ((rd_T50 l0_0 x22_1).f2))) (fun _ h_ => h_.1))))); (case side2 => exact (Kd.R_reads' HO_247000.out).2.1); rintro e w48 ⟨rfl, hb⟩; have n0_ := Aside0.mk (Kd.R_below (rC (a := by exact (Kd.R_mono (Kd.R_far (p := ⟨gb248, 2, none⟩) (Kd.R_far (p := ⟨gb248, 1, none⟩) (Kd.R_far (p := ⟨gb248, 0, none⟩) (Kd.R_types HO_5.out BK248.out (by decide)) (fun _ hk => hk.2) (.int .i64 ((rd_T50 l0_0 x22_1).f0))) (fun _ hk => hk.2) (.int .i64 ((rd_T50 l0_0 x22_1).f1))) (fun _ hk => hk.2) (.int .i64 ((rd_T50 l0_0 x22_1).f2))) (fun _ h_ => h_.1)))) hb); have n1_ := Aside0.mk (Kd.R_below (rC (a := by exact (Kd.R_mono (Kd.R_far (p := ⟨gb248, 2, none⟩) (Kd.R_far (p := ⟨gb248, 1, none⟩) (Kd.R_far (p := ⟨gb248, 0, none⟩) (Kd.R_mono HO_247000.out (fun k_ hk => (⟨hk, hk.2⟩ : _ ∧ k_ ≠ gb248))) (fun _ hk => hk.2) (.int .i64 ((rd_T50 l0_0 x22_1).f0))) (fun _ hk => hk.2) (.int .i64 ((rd_T50 l0_0 x22_1).f1))) (fun _ hk => hk.2) (.int .i64 ((rd_T50 l0_0 x22_1).f2))) (fun _ h_ => h_.1)))) hb); have n2_ := Aside0.mk (Kd.R_below (rC (a := by exact (Kd.R_mono (Kd.R_far (p := ⟨gb248, 2, none⟩) (Kd.R_far (p := ⟨gb248, 1, none⟩) (Kd.R_far (p := ⟨gb248, 0, none⟩) (Kd.R_types HO_247001.out BK248.out (by decide)) (fun _ hk => hk.2) (.int .i64 ((rd_T50 l0_0 x22_1).f0))) (fun _ hk => hk.2) (.int .i64 ((rd_T50 l0_0 x22_1).f1))) (fun _ hk => hk.2) (.int .i64 ((rd_T50 l0_0 x22_1).f2))) (fun _ h_ => h_.1)))) hb); have n3_ := Aside0.mk (Kd.R_below (rC (a := by exact (Kd.R_mono (Kd.R_far (p := ⟨gb248, 2, none⟩) (Kd.R_far (p := ⟨gb248, 1, none⟩) (Kd.R_far (p := ⟨gb248, 0, none⟩) (Kd.R_types HO_247002.out BK248.out (by decide)) (fun _ hk => hk.2) (.int .i64 ((rd_T50 l0_0 x22_1).f0))) (fun _ hk => hk.2) (.int .i64 ((rd_T50 l0_0 x22_1).f1))) (fun _ hk => hk.2) (.int .i64 ((rd_T50 l0_0 x22_1).f2))) (fun _ h_ => h_.1)))) hb); have n4_ := Aside0.mk (blk_below (g := gb237) (o := .cells #[.slice (some ad247) l0_0.length c0_0, .slice A0_1 l0_1.length c0_1, .slice A0_2 l0_2.length c0_2] 29 (0, 0)) (by refine bC (a := ?_); refine blk_far ?_ NB237_248.out _; refine bC (a := ?_); refine blk_far ?_ NB237_248.out _; refine bC (a := ?_); refine blk_far ?_ NB237_248.out _; refine bC (a := ?_); exact BK237.out) hb); have n5_ := Aside0.mk (blk_below (g := gb238) (o := .cells #[.slice none 0 0, .slice none 0 0, .slice none 0 0] 29 (0, 0)) (by refine bC (a := ?_); refine blk_far ?_ NB238_248.out _; refine bC (a := ?_); refine blk_far ?_ NB238_248.out _; refine bC (a := ?_); refine blk_far ?_ NB238_248.out _; refine bC (a := ?_); exact BK238.out) hb); have n6_ := Aside0.mk (blk_below (g := gb246) (o := .cells #[.slice Ao47 x247000_1.length co47, .slice Ao19 t240.length co19, .slice Ao18 t243.length co18] 29 (0, 0)) (by refine bC (a := ?_); refine blk_far ?_ NB246_248.out _; refine bC (a := ?_); refine blk_far ?_ NB246_248.out _; refine bC (a := ?_); refine blk_far ?_ NB246_248.out _; refine bC (a := ?_); exact BK246.out) hb); have n7_ := Aside0.mk (blk_below (g := gb248) (o := .cells #[.int .i64 ((rd_T50 l0_0 x22_1).f0), .int .i64 ((rd_T50 l0_0 x22_1).f1), .int .i64 ((rd_T50 l0_0 x22_1).f2)] 50 (0, 0)) (by refine bC (a := ?_); refine blk_put (cs := #[.int .i64 ((rd_T50 l0_0 x22_1).f0), .int .i64 ((rd_T50 l0_0 x22_1).f1), .int .i64 0]) ?_ 2 _ rfl; refine bC (a := ?_); refine blk_put (cs := #[.int .i64 ((rd_T50 l0_0 x22_1).f0), .int .i64 0, .int .i64 0]) ?_ 1 _ rfl; refine bC (a := ?_); refine blk_put (cs := #[.int .i64 0, .int .i64 0, .int .i64 0]) ?_ 0 _ rfl; refine bC (a := ?_); exact BK248.out) hb); have n8_ := Aside0.mk (below_step (hA HB.out) hb); clear HO_5; clear HO_247000; clear HO_247001; clear HO_247002; clear BK237; clear BK238; clear BK246; clear BK248; clear HB; have HO_5 := n0_; have HO_247000 := n1_; have HO_247001 := n2_; have HO_247002 := n3_; have BK237 := n4_; have BK238 := n5_; have BK246 := n6_; have BK248 := n7_; have HB := n8_; clear n0_ n1_ n2_ n3_ n4_ n5_ n6_ n7_ n8_; (try clear hb); (try clear hb2); (try clear hk); (try clear hi)) | ((with_reducible refine gate_builtin (b := .append) (xs := #[.tmp 39, .tmp 41]) rfl ?_); at_builtin; refine Kd.R_append (Kd.int .i64) (w0 := w) w.heap.size rfl (.tmp 39) (.tmp 41) 23 3 (.int .i64 0) 8 rfl Try.underlying23 info3 rfl (by decide) (by omega) u5 x5_1 x22_1 [.int .i64 x22_1] (fun k_ => some k_ ≠ (.slice Ao19 t240.length co19 : Value).ownBlock ∧ some k_ ≠ (.slice Ao18 t243.length co18 : Value).ownBlock) (fun _ => False) rfl rfl ?aP (fun _ hk => hk.elim) ?aF ?aO ?aB ?aS ?aL ?_; (case aP => exact rfl); (case aB => exact (hA HB.out)); (case aF => exact (fun k_ hk => ⟨Kd.fresh' (Kd.R_lt (rA HO_247001.out)) k_ hk, Kd.fresh' (Kd.R_lt (rA HO_247002.out)) k_ hk⟩)); (case aO => exact (rA HO_5.out)); (case aS => exact (below_size (hA HB.out))); (case aL => have := LMc38.out; omega); intro v254 w49 ho hb hg hat; rw [← Ny253.out] at ho; have n0_ := Aside0.mk (Kd.R_over' (rA HO_247000.out) (Kd.R_typed (rA HO_5.out)) (by decide) hg); have n1_ := Aside0.mk (Kd.R_after (ok := (fun k_ => some k_ ≠ (.slice Ao18 t243.length co18 : Value).ownBlock)) (rC (a := by exact Kd.R_mono HO_247001.out (fun _ hk => ⟨hk.2, hk.1⟩))) hg hat); have n2_ := Aside0.mk (Kd.R_after (ok := (fun k_ => some k_ ≠ (.slice Ao19 t240.length co19 : Value).ownBlock)) (rC (a := by exact Kd.R_mono HO_247002.out (fun _ hk => ⟨hk.2, hk.1⟩))) hg hat); have n3_ := Aside0.mk (blk_grown (g := gb237) (o := .cells #[.slice (some ad247) l0_0.length c0_0, .slice A0_1 l0_1.length c0_1, .slice A0_2 l0_2.length c0_2] 29 (0, 0)) (bA BK237.out) hg (Kd.R_ne HO_5.out BK237.out (by decide))); have n4_ := Aside0.mk (blk_grown (g := gb238) (o := .cells #[.slice none 0 0, .slice none 0 0, .slice none 0 0] 29 (0, 0)) (bA BK238.out) hg (Kd.R_ne HO_5.out BK238.out (by decide))); have n5_ := Aside0.mk (blk_grown (g := gb246) (o := .cells #[.slice Ao47 x247000_1.length co47, .slice Ao19 t240.length co19, .slice Ao18 t243.length co18] 29 (0, 0)) (bA BK246.out) hg (Kd.R_ne HO_5.out BK246.out (by decide))); have n6_ := Aside0.mk (blk_grown (g := gb248) (o := .cells #[.int .i64 ((rd_T50 l0_0 x22_1).f0), .int .i64 ((rd_T50 l0_0 x22_1).f1), .int .i64 ((rd_T50 l0_0 x22_1).f2)] 50 (0, 0)) (bA BK248.out) hg (Kd.R_ne HO_5.out BK248.out (by decide))); have n7_ := Aside0.mk (hb); have n8_ := Aside0.mk (ho); clear HO_247000; clear HO_247001; clear HO_247002; clear BK237; clear BK238; clear BK246; clear BK248; clear HB; clear HO_5; have HO_247000 := n0_; have HO_247001 := n1_; have HO_247002 := n2_; have BK237 := n3_; have BK238 := n4_; have BK246 := n5_; have BK248 := n6_; have HB := n7_; have HO255 := n8_; clear n0_ n1_ n2_ n3_ n4_ n5_ n6_ n7_ n8_; clear ho hb hg hat))
          go_roundg k1
          case measure => have := HK1.out; omega
          case rel => exact ⟨(y253), (wrap64 (x22_1 + 1)), (x247000_1), (.slice Ao47 x247000_1.length co47), (by first | rfl | (simp; done) | (simp [*]; done)), H', ⟨by have := HK1.out; omega⟩, ⟨by refine rC (a := ?_); exact HO255.out⟩, ⟨by refine rC (a := ?_); exact Kd.R_mono HO_247000.out (fun _ hk => trivial)⟩, ⟨by refine rC (a := ?_); exact Kd.R_mono HO_247001.out (fun _ hk => ⟨hk.2, hk.1⟩)⟩, ⟨by refine rC (a := ?_); exact Kd.R_mono HO_247002.out (fun _ hk => ⟨hk.2, hk.1⟩)⟩, ⟨by refine bC (a := ?_); exact BK237.out⟩, ⟨by refine bC (a := ?_); exact BK238.out⟩, ⟨by refine bC (a := ?_); exact BK246.out⟩, ⟨hA HB.out⟩⟩
         ·rw [if_neg c38] at H
          exact absurd H (by simp)
        ·replace c37 := Bool.eq_false_iff.mpr c37
         subst c37
         have H1 : (if x247000_1.length < 5864062014805 then (impl_MendBook.l0 k1 x5_1 l0_0 (l0_0.length : Int) (wrap64 (x22_1 + 1)) (x247000_1 ++ [(⟨(rd_T50 l0_0 x22_1).f0, (rd_T50 l0_0 x22_1).f1, (rd_T50 l0_0 x22_1).f2⟩ : S50)]) t240 t243) else (none)) = some (r1, r2, r3, r4) := by rw [if_neg (show ¬ (false = true) by decide)] at H; exact H
         clear H
         have H := H1
         clear H1
         by_cases c50 : x247000_1.length < 5864062014805
         ·rw [if_pos c50] at H
          have LMc50 := Aside0.mk c50
          clear c50
          obtain ⟨y256, hy256⟩ : ∃ y_ : List (S50), y_ = (x247000_1 ++ [(⟨(rd_T50 l0_0 x22_1).f0, (rd_T50 l0_0 x22_1).f1, (rd_T50 l0_0 x22_1).f2⟩ : S50)]) := ⟨_, rfl⟩
          replace H : (impl_MendBook.l0 k1 x5_1 l0_0 (l0_0.length : Int) (wrap64 (x22_1 + 1)) y256 t240 t243) = some (r1, r2, r3, r4) := by first | (rw [hy256]; with_reducible exact H) | (have H2_ := (Option.bind_some _ _).symm.trans H; rw [hy256]; with_reducible exact H2_) | (have H2_ := (Option.bind_some _ _).symm.trans H; with_reducible exact H2_) | with_reducible exact H | (rw [hy256]; exact H) | exact H
          have Ny256 := Aside0.mk hy256
          clear hy256
          have H' := Aside0.mk H
          clear H
          have p247 : 0 ≤ (x22_1 : Int) := of_decide_eq_true sm
          have q247 : x22_1 < (l0_0.length : Int) := of_decide_eq_true sm
          obtain ⟨ad247, e247, hx247_0, hx247_1, hx247_2⟩ := at_T50 HR0_0.out x22_1 p247 q247
          cases e247
          try (replace hx247_0 := (HB.out.cell (World.block_lt_of_cell? w _ hx247_0)).trans hx247_0)
          try (replace hx247_1 := (HB.out.cell (World.block_lt_of_cell? w _ hx247_1)).trans hx247_1)
          try (replace hx247_2 := (HB.out.cell (World.block_lt_of_cell? w _ hx247_2)).trans hx247_2)
          replace p247 := eq_true p247
          replace q247 := eq_true q247
          go_wp2_with (first | ((with_reducible refine gate_dst (N := 7) rfl ?_); refine box_event ?hg (N := 7) ?hd (cs := #[.int .i64 0, .int .i64 0, .int .i64 0]) (t := 50) ?hr ?_; (case hd => rfl); (case hg => rfl); (case hr => first | (go_simp; done) | (go_simp; rfl)); intro gb248 hg w51 hbox hb; have n0_ := Aside0.mk (Kd.R_below (rA HO_5.out) hb); have n1_ := Aside0.mk (Kd.R_below (Kd.R_elderB (rA HO_247000.out) gb248 (Nat.le_of_eq hg.symm)) hb); have n2_ := Aside0.mk (Kd.R_below (rA HO_247001.out) hb); have n3_ := Aside0.mk (Kd.R_below (rA HO_247002.out) hb); have n4_ := Aside0.mk (blk_below (g := gb237) (o := .cells #[.slice (some ad247) l0_0.length c0_0, .slice A0_1 l0_1.length c0_1, .slice A0_2 l0_2.length c0_2] 29 (0, 0)) (bA BK237.out) hb); have n5_ := Aside0.mk (blk_below (g := gb238) (o := .cells #[.slice none 0 0, .slice none 0 0, .slice none 0 0] 29 (0, 0)) (bA BK238.out) hb); have n6_ := Aside0.mk (blk_below (g := gb246) (o := .cells #[u247000, .slice Ao19 t240.length co19, .slice Ao18 t243.length co18] 29 (0, 0)) (bA BK246.out) hb); have n7_ := Aside0.mk (below_step (hA HB.out) hb); have n8_ := Aside0.mk (hbox); have n9_ := Aside0.mk ((by rw [hg]; exact (below_size (hA HB.out)) : w.heap.size ≤ gb248)); have n10_ := Aside0.mk ((by rw [hg]; exact (below_size (hA HB.out)) : w.heap.size ≤ gb248)); have n11_ := Aside0.mk ((by rw [hg]; exact Nat.ne_of_lt (blk_lt (g := gb237) (o := .cells #[.slice (some ad247) l0_0.length c0_0, .slice A0_1 l0_1.length c0_1, .slice A0_2 l0_2.length c0_2] 29 (0, 0)) (bA BK237.out)) : gb237 ≠ gb248)); have n12_ := Aside0.mk ((by rw [hg]; exact Nat.ne_of_gt (blk_lt (g := gb237) (o := .cells #[.slice (some ad247) l0_0.length c0_0, .slice A0_1 l0_1.length c0_1, .slice A0_2 l0_2.length c0_2] 29 (0, 0)) (bA BK237.out)) : gb248 ≠ gb237)); have n13_ := Aside0.mk ((by rw [hg]; exact Nat.ne_of_lt (blk_lt (g := gb238) (o := .cells #[.slice none 0 0, .slice none 0 0, .slice none 0 0] 29 (0, 0)) (bA BK238.out)) : gb238 ≠ gb248)); have n14_ := Aside0.mk ((by rw [hg]; exact Nat.ne_of_gt (blk_lt (g := gb238) (o := .cells #[.slice none 0 0, .slice none 0 0, .slice none 0 0] 29 (0, 0)) (bA BK238.out)) : gb248 ≠ gb238)); have n15_ := Aside0.mk ((by rw [hg]; exact Nat.ne_of_lt (blk_lt (g := gb246) (o := .cells #[u247000, .slice Ao19 t240.length co19, .slice Ao18 t243.length co18] 29 (0, 0)) (bA BK246.out)) : gb246 ≠ gb248)); have n16_ := Aside0.mk ((by rw [hg]; exact Nat.ne_of_gt (blk_lt (g := gb246) (o := .cells #[u247000, .slice Ao19 t240.length co19, .slice Ao18 t243.length co18] 29 (0, 0)) (bA BK246.out)) : gb248 ≠ gb246)); clear HO_5; clear HO_247000; clear HO_247001; clear HO_247002; clear BK237; clear BK238; clear BK246; clear HB; have HO_5 := n0_; have HO_247000 := n1_; have HO_247001 := n2_; have HO_247002 := n3_; have BK237 := n4_; have BK238 := n5_; have BK246 := n6_; have HB := n7_; have BK248 := n8_; have GW248 := n9_; have GE248 := n10_; have NB237_248 := n11_; have NB248_237 := n12_; have NB238_248 := n13_; have NB248_238 := n14_; have NB246_248 := n15_; have NB248_246 := n16_; clear n0_ n1_ n2_ n3_ n4_ n5_ n6_ n7_ n8_ n9_ n10_ n11_ n12_ n13_ n14_ n15_ n16_; clear hb hbox hg; have hnb52 := NB248_237.out; have hnc52 := NB237_248.out; have hnb53 := NB248_238.out; have hnc53 := NB238_248.out; have hnb54 := NB248_246.out; have hnc54 := NB246_248.out; have hcz55_0 : w51.cell? ⟨gb248, 0, none⟩ = some (.int .i64 0) := (blk_cell BK248.out 0).trans rfl; have hcz55_1 : w51.cell? ⟨gb248, 1, none⟩ = some (.int .i64 0) := (blk_cell BK248.out 1).trans rfl; have hcz55_2 : w51.cell? ⟨gb248, 2, none⟩ = some (.int .i64 0) := (blk_cell BK248.out 2).trans rfl; have hfz55_0 := blk_frozen BK248.out 0; have hfz55_1 := blk_frozen BK248.out 1; have hfz55_2 := blk_frozen BK248.out 2; have hnb56 := NB246_237.out; have hnc56 := NB237_246.out; have hnb57 := NB246_238.out; have hnc57 := NB238_246.out; have hcz58_0 : w51.cell? ⟨gb246, 0, none⟩ = some (u247000) := (blk_cell BK246.out 0).trans rfl; have hcz58_1 : w51.cell? ⟨gb246, 1, none⟩ = some (.slice Ao19 t240.length co19) := (blk_cell BK246.out 1).trans rfl; have hcz58_2 : w51.cell? ⟨gb246, 2, none⟩ = some (.slice Ao18 t243.length co18) := (blk_cell BK246.out 2).trans rfl; have hfz58_0 := blk_frozen BK246.out 0; have hfz58_1 := blk_frozen BK246.out 1; have hfz58_2 := blk_frozen BK246.out 2; obtain ⟨Ao59, co59, eo59⟩ := Kd.R_slice HO_247000.out; subst eo59) | (go_at_call 42; (with_reducible refine (impl_Talk_42.calls k1 _ _ x247000_1 ((rd_T50 l0_0 x22_1).f0) ((rd_T50 l0_0 x22_1).f1) ((rd_T50 l0_0 x22_1).f2) false _ ?side1 ?side2 A36.out).mono ?_); (case side1 => refine (Kd.R_reads' (e := 50) (base := w.heap.size) (ok := fun k_ => (True ∧ k_ ≠ gb248)) (n := x247000_1.length) (c := co59) ?_).2.2; exact (rC (a := by exact (Kd.R_mono (Kd.R_far (p := ⟨gb248, 2, none⟩) (Kd.R_far (p := ⟨gb248, 1, none⟩) (Kd.R_far (p := ⟨gb248, 0, none⟩) (Kd.R_mono HO_247000.out (fun k_ hk => (⟨hk, hk.2⟩ : _ ∧ k_ ≠ gb248))) (fun _ hk => hk.2) (.int .i64 ((rd_T50 l0_0 x22_1).f0))) (fun _ hk => hk.2) (.int .i64 ((rd_T50 l0_0 x22_1).f1))) (fun _ hk => hk.2) (.int .i64 ((rd_T50 l0_0 x22_1).f2))) (fun _ h_ => h_.1))))); (case side2 => exact (Kd.R_reads' HO_247000.out).2.1); rintro e w60 ⟨rfl, hb⟩; have n0_ := Aside0.mk (Kd.R_below (rC (a := by exact (Kd.R_mono (Kd.R_far (p := ⟨gb248, 2, none⟩) (Kd.R_far (p := ⟨gb248, 1, none⟩) (Kd.R_far (p := ⟨gb248, 0, none⟩) (Kd.R_types HO_5.out BK248.out (by decide)) (fun _ hk => hk.2) (.int .i64 ((rd_T50 l0_0 x22_1).f0))) (fun _ hk => hk.2) (.int .i64 ((rd_T50 l0_0 x22_1).f1))) (fun _ hk => hk.2) (.int .i64 ((rd_T50 l0_0 x22_1).f2))) (fun _ h_ => h_.1)))) hb); have n1_ := Aside0.mk (Kd.R_below (rC (a := by exact (Kd.R_mono (Kd.R_far (p := ⟨gb248, 2, none⟩) (Kd.R_far (p := ⟨gb248, 1, none⟩) (Kd.R_far (p := ⟨gb248, 0, none⟩) (Kd.R_mono HO_247000.out (fun k_ hk => (⟨hk, hk.2⟩ : _ ∧ k_ ≠ gb248))) (fun _ hk => hk.2) (.int .i64 ((rd_T50 l0_0 x22_1).f0))) (fun _ hk => hk.2) (.int .i64 ((rd_T50 l0_0 x22_1).f1))) (fun _ hk => hk.2) (.int .i64 ((rd_T50 l0_0 x22_1).f2))) (fun _ h_ => h_.1)))) hb); have n2_ := Aside0.mk (Kd.R_below (rC (a := by exact (Kd.R_mono (Kd.R_far (p := ⟨gb248, 2, none⟩) (Kd.R_far (p := ⟨gb248, 1, none⟩) (Kd.R_far (p := ⟨gb248, 0, none⟩) (Kd.R_types HO_247001.out BK248.out (by decide)) (fun _ hk => hk.2) (.int .i64 ((rd_T50 l0_0 x22_1).f0))) (fun _ hk => hk.2) (.int .i64 ((rd_T50 l0_0 x22_1).f1))) (fun _ hk => hk.2) (.int .i64 ((rd_T50 l0_0 x22_1).f2))) (fun _ h_ => h_.1)))) hb); have n3_ := Aside0.mk (Kd.R_below (rC (a := by exact (Kd.R_mono (Kd.R_far (p := ⟨gb248, 2, none⟩) (Kd.R_far (p := ⟨gb248, 1, none⟩) (Kd.R_far (p := ⟨gb248, 0, none⟩) (Kd.R_types HO_247002.out BK248.out (by decide)) (fun _ hk => hk.2) (.int .i64 ((rd_T50 l0_0 x22_1).f0))) (fun _ hk => hk.2) (.int .i64 ((rd_T50 l0_0 x22_1).f1))) (fun _ hk => hk.2) (.int .i64 ((rd_T50 l0_0 x22_1).f2))) (fun _ h_ => h_.1)))) hb); have n4_ := Aside0.mk (blk_below (g := gb237) (o := .cells #[.slice (some ad247) l0_0.length c0_0, .slice A0_1 l0_1.length c0_1, .slice A0_2 l0_2.length c0_2] 29 (0, 0)) (by refine bC (a := ?_); refine blk_far ?_ NB237_248.out _; refine bC (a := ?_); refine blk_far ?_ NB237_248.out _; refine bC (a := ?_); refine blk_far ?_ NB237_248.out _; refine bC (a := ?_); exact BK237.out) hb); have n5_ := Aside0.mk (blk_below (g := gb238) (o := .cells #[.slice none 0 0, .slice none 0 0, .slice none 0 0] 29 (0, 0)) (by refine bC (a := ?_); refine blk_far ?_ NB238_248.out _; refine bC (a := ?_); refine blk_far ?_ NB238_248.out _; refine bC (a := ?_); refine blk_far ?_ NB238_248.out _; refine bC (a := ?_); exact BK238.out) hb); have n6_ := Aside0.mk (blk_below (g := gb246) (o := .cells #[.slice Ao59 x247000_1.length co59, .slice Ao19 t240.length co19, .slice Ao18 t243.length co18] 29 (0, 0)) (by refine bC (a := ?_); refine blk_far ?_ NB246_248.out _; refine bC (a := ?_); refine blk_far ?_ NB246_248.out _; refine bC (a := ?_); refine blk_far ?_ NB246_248.out _; refine bC (a := ?_); exact BK246.out) hb); have n7_ := Aside0.mk (blk_below (g := gb248) (o := .cells #[.int .i64 ((rd_T50 l0_0 x22_1).f0), .int .i64 ((rd_T50 l0_0 x22_1).f1), .int .i64 ((rd_T50 l0_0 x22_1).f2)] 50 (0, 0)) (by refine bC (a := ?_); refine blk_put (cs := #[.int .i64 ((rd_T50 l0_0 x22_1).f0), .int .i64 ((rd_T50 l0_0 x22_1).f1), .int .i64 0]) ?_ 2 _ rfl; refine bC (a := ?_); refine blk_put (cs := #[.int .i64 ((rd_T50 l0_0 x22_1).f0), .int .i64 0, .int .i64 0]) ?_ 1 _ rfl; refine bC (a := ?_); refine blk_put (cs := #[.int .i64 0, .int .i64 0, .int .i64 0]) ?_ 0 _ rfl; refine bC (a := ?_); exact BK248.out) hb); have n8_ := Aside0.mk (below_step (hA HB.out) hb); clear HO_5; clear HO_247000; clear HO_247001; clear HO_247002; clear BK237; clear BK238; clear BK246; clear BK248; clear HB; have HO_5 := n0_; have HO_247000 := n1_; have HO_247001 := n2_; have HO_247002 := n3_; have BK237 := n4_; have BK238 := n5_; have BK246 := n6_; have BK248 := n7_; have HB := n8_; clear n0_ n1_ n2_ n3_ n4_ n5_ n6_ n7_ n8_; (try clear hb); (try clear hb2); (try clear hk); (try clear hi); have hcz61_0 : w60.cell? ⟨gb246, 0, none⟩ = some (.slice Ao59 x247000_1.length co59) := (blk_cell BK246.out 0).trans rfl; have hcz61_1 : w60.cell? ⟨gb246, 1, none⟩ = some (.slice Ao19 t240.length co19) := (blk_cell BK246.out 1).trans rfl; have hcz61_2 : w60.cell? ⟨gb246, 2, none⟩ = some (.slice Ao18 t243.length co18) := (blk_cell BK246.out 2).trans rfl; have hfz61_0 := blk_frozen BK246.out 0; have hfz61_1 := blk_frozen BK246.out 1; have hfz61_2 := blk_frozen BK246.out 2; have hcz62_0 : w60.cell? ⟨gb248, 0, none⟩ = some (.int .i64 ((rd_T50 l0_0 x22_1).f0)) := (blk_cell BK248.out 0).trans rfl; have hcz62_1 : w60.cell? ⟨gb248, 1, none⟩ = some (.int .i64 ((rd_T50 l0_0 x22_1).f1)) := (blk_cell BK248.out 1).trans rfl; have hcz62_2 : w60.cell? ⟨gb248, 2, none⟩ = some (.int .i64 ((rd_T50 l0_0 x22_1).f2)) := (blk_cell BK248.out 2).trans rfl; have hfz62_0 := blk_frozen BK248.out 0; have hfz62_1 := blk_frozen BK248.out 1; have hfz62_2 := blk_frozen BK248.out 2) | ((with_reducible refine gate_builtin (b := .append) (xs := #[.tmp 44, .tmp 46]) rfl ?_); at_builtin; refine Kd.R_append k50 (w0 := w) w.heap.size rfl (.tmp 44) (.tmp 46) 27 50 (.agg #[(.int .i64 0), (.int .i64 0), (.int .i64 0)]) 24 rfl Try.underlying27 info50 rfl (by decide) (by omega) (.slice Ao59 x247000_1.length co59) x247000_1 (⟨(rd_T50 l0_0 x22_1).f0, (rd_T50 l0_0 x22_1).f1, (rd_T50 l0_0 x22_1).f2⟩ : S50) [.int .i64 ((rd_T50 l0_0 x22_1).f0), .int .i64 ((rd_T50 l0_0 x22_1).f1), .int .i64 ((rd_T50 l0_0 x22_1).f2)] (fun k_ => k_ ≠ gb248) (fun _ => False) rfl rfl ?aP (fun _ hk => hk.elim) ?aF ?aO ?aB ?aS ?aL ?_; (case aP => exact k50_mkM _ _ _ (⟨(rd_T50 l0_0 x22_1).f0, (rd_T50 l0_0 x22_1).f1, (rd_T50 l0_0 x22_1).f2⟩ : S50)); (case aB => exact (hA HB.out)); (case aF => exact (fun k_ hk => Kd.freshB (g := gb248) (o := .cells #[.int .i64 ((rd_T50 l0_0 x22_1).f0), .int .i64 ((rd_T50 l0_0 x22_1).f1), .int .i64 ((rd_T50 l0_0 x22_1).f2)] 50 (0, 0)) (bA BK248.out) k_ hk)); (case aO => exact (rC (a := by exact Kd.R_mono HO_247000.out (fun _ hk => hk.2)))); (case aS => exact (below_size (hA HB.out))); (case aL => have := LMc50.out; omega); intro v257 w63 ho hb hg hat; rw [← Ny256.out] at ho; have n0_ := Aside0.mk (Kd.R_over' (rA HO_5.out) (Kd.R_typed (rA HO_247000.out)) (by decide) hg); have n1_ := Aside0.mk (Kd.R_over' (rA HO_247001.out) (Kd.R_typed (rA HO_247000.out)) (by decide) hg); have n2_ := Aside0.mk (Kd.R_over' (rA HO_247002.out) (Kd.R_typed (rA HO_247000.out)) (by decide) hg); have n3_ := Aside0.mk (blk_grown (g := gb237) (o := .cells #[.slice (some ad247) l0_0.length c0_0, .slice A0_1 l0_1.length c0_1, .slice A0_2 l0_2.length c0_2] 29 (0, 0)) (bA BK237.out) hg (Kd.R_ne HO_247000.out BK237.out (by decide))); have n4_ := Aside0.mk (blk_grown (g := gb238) (o := .cells #[.slice none 0 0, .slice none 0 0, .slice none 0 0] 29 (0, 0)) (bA BK238.out) hg (Kd.R_ne HO_247000.out BK238.out (by decide))); have n5_ := Aside0.mk (blk_grown (g := gb246) (o := .cells #[.slice Ao59 x247000_1.length co59, .slice Ao19 t240.length co19, .slice Ao18 t243.length co18] 29 (0, 0)) (bA BK246.out) hg (Kd.R_ne HO_247000.out BK246.out (by decide))); have n6_ := Aside0.mk (blk_grown (g := gb248) (o := .cells #[.int .i64 ((rd_T50 l0_0 x22_1).f0), .int .i64 ((rd_T50 l0_0 x22_1).f1), .int .i64 ((rd_T50 l0_0 x22_1).f2)] 50 (0, 0)) (bA BK248.out) hg (Kd.R_away HO_247000.out (fun _ hk => hk.2))); have n7_ := Aside0.mk (hb); have n8_ := Aside0.mk (ho); clear HO_5; clear HO_247001; clear HO_247002; clear BK237; clear BK238; clear BK246; clear BK248; clear HB; clear HO_247000; have HO_5 := n0_; have HO_247001 := n1_; have HO_247002 := n2_; have BK237 := n3_; have BK238 := n4_; have BK246 := n5_; have BK248 := n6_; have HB := n7_; have HO258 := n8_; clear n0_ n1_ n2_ n3_ n4_ n5_ n6_ n7_ n8_; clear ho hb hg hat; obtain ⟨Ao64, co64, eo64⟩ := Kd.R_slice HO258.out; subst eo64; have hcz65_0 : w63.cell? ⟨gb246, 0, none⟩ = some (.slice Ao59 x247000_1.length co59) := (blk_cell BK246.out 0).trans rfl; have hcz65_1 : w63.cell? ⟨gb246, 1, none⟩ = some (.slice Ao19 t240.length co19) := (blk_cell BK246.out 1).trans rfl; have hcz65_2 : w63.cell? ⟨gb246, 2, none⟩ = some (.slice Ao18 t243.length co18) := (blk_cell BK246.out 2).trans rfl; have hfz65_0 := blk_frozen BK246.out 0; have hfz65_1 := blk_frozen BK246.out 1; have hfz65_2 := blk_frozen BK246.out 2))
          go_roundg k1
          case measure => have := HK1.out; omega
          case rel => exact ⟨(x5_1), (wrap64 (x22_1 + 1)), (y256), (.slice Ao64 y256.length co64), (by first | rfl | (simp; done) | (simp [*]; done)), H', ⟨by have := HK1.out; omega⟩, ⟨by refine rC (a := ?_); exact Kd.R_mono (Kd.R_far (p := ⟨gb246, 0, none⟩) (Kd.R_types HO_5.out BK246.out (by decide)) (fun _ hk => hk.2) (.slice Ao64 y256.length co64)) (fun _ hk => ⟨hk.1.1, hk.1.2⟩)⟩, ⟨by refine rC (a := ?_); exact Kd.R_mono (Kd.R_far (p := ⟨gb246, 0, none⟩) (Kd.R_types HO258.out BK246.out (by decide)) (fun _ hk => hk.2) (.slice Ao64 y256.length co64)) (fun _ hk => trivial)⟩, ⟨by refine rC (a := ?_); exact Kd.R_mono (Kd.R_far (p := ⟨gb246, 0, none⟩) (Kd.R_types HO_247001.out BK246.out (by decide)) (fun _ hk => hk.2) (.slice Ao64 y256.length co64)) (fun _ hk => ⟨hk.1.1, hk.1.2⟩)⟩, ⟨by refine rC (a := ?_); exact Kd.R_mono (Kd.R_far (p := ⟨gb246, 0, none⟩) (Kd.R_types HO_247002.out BK246.out (by decide)) (fun _ hk => hk.2) (.slice Ao64 y256.length co64)) (fun _ hk => ⟨hk.1.1, hk.1.2⟩)⟩, ⟨by refine bC (a := ?_); refine blk_far ?_ NB237_246.out _; refine bC (a := ?_); exact BK237.out⟩, ⟨by refine bC (a := ?_); refine blk_far ?_ NB238_246.out _; refine bC (a := ?_); exact BK238.out⟩, ⟨by refine bC (a := ?_); refine blk_put (cs := #[.slice Ao59 x247000_1.length co59, .slice Ao19 t240.length co19, .slice Ao18 t243.length co18]) ?_ 0 _ rfl; refine bC (a := ?_); exact BK246.out⟩, ⟨hA HB.out⟩⟩
         ·rw [if_neg c50] at H
          exact absurd H (by simp)
      ·rw [if_neg c27] at H
       exact absurd H (by simp)
     ·rw [if_neg c26] at H
      exact absurd H (by simp)
    ·rw [if_neg c25] at H
     have c25b0 : decide (x22_1 < (l0_0.length : Int)) = false := decide_eq_false c25
     clear c25
     replace H := Option.bind_eq_some_iff.mp H
     obtain ⟨⟨t259, t262⟩, A660, H⟩ := H
     replace H : (some (x247000_1, t259, t262, x5_1)) = some (r1, r2, r3, r4) := H
     have A66 := Aside0.mk A660
     clear A660
     simp only [Option.some.injEq, Prod.mk.injEq] at H
     obtain ⟨rfl, rfl, rfl, rfl⟩ := H
     have hnb67 := NB246_237.out
     have hnc67 := NB237_246.out
     have hnb68 := NB246_238.out
     have hnc68 := NB238_246.out
     have hcz69_0 : wr.cell? ⟨gb246, 0, none⟩ = some (u247000) := (blk_cell BK246.out 0).trans rfl
     have hcz69_1 : wr.cell? ⟨gb246, 1, none⟩ = some (.slice Ao19 t240.length co19) := (blk_cell BK246.out 1).trans rfl
     have hcz69_2 : wr.cell? ⟨gb246, 2, none⟩ = some (.slice Ao18 t243.length co18) := (blk_cell BK246.out 2).trans rfl
     have hfz69_0 := blk_frozen BK246.out 0
     have hfz69_1 := blk_frozen BK246.out 1
     have hfz69_2 := blk_frozen BK246.out 2
     obtain ⟨Ao70, co70, eo70⟩ := Kd.R_slice HO_247000.out
     subst eo70
     go_wp2_with (first | ((with_reducible refine gate_callee (f := 44) rfl ?_); refine goesL_ (some 52) rfl rfl Try.func44 (by kernel_rfl) rfl #[.agg #[.slice Ao70 x247000_1.length co70, .slice Ao19 t240.length co19, .slice Ao18 t243.length co18]] rfl ar ?_; (with_reducible refine (impl_said.calls k1 _ _ x247000_1 _ _ t240 _ _ t243 t259 t262 _ ?side1 ?side2 ?side3 ?side4 ?side5 ?side6 A66.out).mono ?_); (case side1 => repeat (first | exact (Kd.R_reads' HO_247000.out).2.2 | (with_reducible refine Kd.C_alloc ?_ _) | (with_reducible refine Kd.C_drewN ?_ _) | (with_reducible refine Kd.C_drew ?_))); (case side2 => exact (Kd.R_reads' HO_247000.out).2.1); (case side3 => repeat (first | exact (Kd.R_reads' HO_247001.out).2.2 | (with_reducible refine Kd.C_alloc ?_ _) | (with_reducible refine Kd.C_drewN ?_ _) | (with_reducible refine Kd.C_drew ?_))); (case side4 => exact (Kd.R_reads' HO_247001.out).2.1); (case side5 => repeat (first | exact (Kd.R_reads' HO_247002.out).2.2 | (with_reducible refine Kd.C_alloc ?_ _) | (with_reducible refine Kd.C_drewN ?_ _) | (with_reducible refine Kd.C_drew ?_))); (case side6 => exact (Kd.R_reads' HO_247002.out).2.1); rintro e w71 ⟨v260, v263, rfl, ho0, ho1, hb⟩; refine ⟨_, rfl, ?_⟩; have n0_ := Aside0.mk (Kd.R_mono (Kd.R_told (Kd.R_told (Kd.R_old (rA HO_5.out) hb) (Kd.R_base ho0)) (Kd.R_base ho1)) (fun _ h_ => h_.1)); have n1_ := Aside0.mk (Kd.R_below (rA HO_247000.out) hb); have n2_ := Aside0.mk (Kd.R_mono (Kd.R_told (Kd.R_told (Kd.R_old (rA HO_247001.out) hb) (Kd.R_base ho0)) (Kd.R_base ho1)) (fun _ h_ => h_.1)); have n3_ := Aside0.mk (Kd.R_mono (Kd.R_told (Kd.R_told (Kd.R_old (rA HO_247002.out) hb) (Kd.R_base ho0)) (Kd.R_base ho1)) (fun _ h_ => h_.1)); have n4_ := Aside0.mk (Kd.R_lower (Kd.R_new' (Kd.R_new' (Kd.R_new' ho0 (Kd.R_lt (rA HO_5.out))) (Kd.R_lt (rA HO_247001.out))) (Kd.R_lt (rA HO_247002.out))) (below_size (hA HB.out))); have n5_ := Aside0.mk (Kd.R_lower (Kd.R_new' (Kd.R_new' (Kd.R_new' ho1 (Kd.R_lt (rA HO_5.out))) (Kd.R_lt (rA HO_247001.out))) (Kd.R_lt (rA HO_247002.out))) (below_size (hA HB.out))); have n6_ := Aside0.mk (blk_below (g := gb237) (o := .cells #[.slice A0_0 l0_0.length c0_0, .slice A0_1 l0_1.length c0_1, .slice A0_2 l0_2.length c0_2] 29 (0, 0)) (bA BK237.out) hb); have n7_ := Aside0.mk (blk_below (g := gb238) (o := .cells #[.slice none 0 0, .slice none 0 0, .slice none 0 0] 29 (0, 0)) (bA BK238.out) hb); have n8_ := Aside0.mk (blk_below (g := gb246) (o := .cells #[.slice Ao70 x247000_1.length co70, .slice Ao19 t240.length co19, .slice Ao18 t243.length co18] 29 (0, 0)) (bA BK246.out) hb); have n9_ := Aside0.mk (below_step (hA HB.out) hb); clear HO_5; clear HO_247000; clear HO_247001; clear HO_247002; clear BK237; clear BK238; clear BK246; clear HB; have HO_5 := n0_; have HO_247000 := n1_; have HO_247001 := n2_; have HO_247002 := n3_; have HO261 := n4_; have HO264 := n5_; have BK237 := n6_; have BK238 := n7_; have BK246 := n8_; have HB := n9_; clear n0_ n1_ n2_ n3_ n4_ n5_ n6_ n7_ n8_ n9_; (try clear hb); (try clear hb2); (try clear hk); (try clear hi); (try clear ho0); (try clear ho1); obtain ⟨Ao72, co72, eo72⟩ := Kd.R_slice HO261.out; subst eo72; have hcz73_0 : w71.cell? ⟨gb246, 0, none⟩ = some (.slice Ao70 x247000_1.length co70) := (blk_cell BK246.out 0).trans rfl; have hcz73_1 : w71.cell? ⟨gb246, 1, none⟩ = some (.slice Ao19 t240.length co19) := (blk_cell BK246.out 1).trans rfl; have hcz73_2 : w71.cell? ⟨gb246, 2, none⟩ = some (.slice Ao18 t243.length co18) := (blk_cell BK246.out 2).trans rfl; have hfz73_0 := blk_frozen BK246.out 0; have hfz73_1 := blk_frozen BK246.out 1; have hfz73_2 := blk_frozen BK246.out 2; obtain ⟨Ao74, co74, eo74⟩ := Kd.R_slice HO264.out; subst eo74; have hnb75 := NB238_237.out; have hnc75 := NB237_238.out; have hcz76_0 : w71.cell? ⟨gb238, 0, none⟩ = some (.slice none 0 0) := (blk_cell BK238.out 0).trans rfl; have hcz76_1 : w71.cell? ⟨gb238, 1, none⟩ = some (.slice none 0 0) := (blk_cell BK238.out 1).trans rfl; have hcz76_2 : w71.cell? ⟨gb238, 2, none⟩ = some (.slice none 0 0) := (blk_cell BK238.out 2).trans rfl; have hfz76_0 := blk_frozen BK238.out 0; have hfz76_1 := blk_frozen BK238.out 1; have hfz76_2 := blk_frozen BK238.out 2))
     refine bodyPost_ret (results_ct rfl _ _ gb238 29 #[.slice Ao70 x247000_1.length co70, .slice Ao72 t259.length co72, .slice Ao74 t262.length co74] (0, 0) _ rfl (by refine bC (a := ?_); refine blk_put (cs := #[.slice Ao70 x247000_1.length co70, .slice Ao72 t259.length co72, .slice none 0 0]) ?_ 2 _ rfl; refine bC (a := ?_); refine blk_put (cs := #[.slice Ao70 x247000_1.length co70, .slice none 0 0, .slice none 0 0]) ?_ 1 _ rfl; refine bC (a := ?_); refine blk_put (cs := #[.slice none 0 0, .slice none 0 0, .slice none 0 0]) ?_ 0 _ rfl; refine bC (a := ?_); refine blk_far ?_ NB238_246.out _; refine bC (a := ?_); refine blk_far ?_ NB238_246.out _; refine bC (a := ?_); exact BK238.out) Try.underlying29 rfl (by kernel_rfl)) rfl ?_
     exact ⟨_, _, _, _, by first | rfl | (simp [errW_none, errW_some] <;> rfl) | (simp [*, errW_none, errW_some] <;> rfl), by refine rC (a := ?_); exact Kd.R_mono (Kd.R_far (p := ⟨gb238, 2, none⟩) (Kd.R_far (p := ⟨gb238, 1, none⟩) (Kd.R_far (p := ⟨gb238, 0, none⟩) (Kd.R_far (p := ⟨gb246, 2, none⟩) (Kd.R_far (p := ⟨gb246, 1, none⟩) (Kd.R_types (Kd.R_types HO_247000.out BK246.out (by decide)) BK238.out (by decide)) (fun _ hk => hk.1.2) (.slice Ao72 t259.length co72)) (fun _ hk => hk.1.2) (.slice Ao74 t262.length co74)) (fun _ hk => hk.2) (.slice Ao70 x247000_1.length co70)) (fun _ hk => hk.2) (.slice Ao72 t259.length co72)) (fun _ hk => hk.2) (.slice Ao74 t262.length co74)) (fun _ hk => trivial), by refine rC (a := ?_); exact Kd.R_mono (Kd.R_far (p := ⟨gb238, 2, none⟩) (Kd.R_far (p := ⟨gb238, 1, none⟩) (Kd.R_far (p := ⟨gb238, 0, none⟩) (Kd.R_far (p := ⟨gb246, 2, none⟩) (Kd.R_far (p := ⟨gb246, 1, none⟩) (Kd.R_types (Kd.R_types HO261.out BK246.out (by decide)) BK238.out (by decide)) (fun _ hk => hk.1.2) (.slice Ao72 t259.length co72)) (fun _ hk => hk.1.2) (.slice Ao74 t262.length co74)) (fun _ hk => hk.2) (.slice Ao70 x247000_1.length co70)) (fun _ hk => hk.2) (.slice Ao72 t259.length co72)) (fun _ hk => hk.2) (.slice Ao74 t262.length co74)) (fun _ hk => ⟨hk.1.1.1.1.1, hk.1.1.1.1.2⟩), by refine rC (a := ?_); exact Kd.R_mono (Kd.R_far (p := ⟨gb238, 2, none⟩) (Kd.R_far (p := ⟨gb238, 1, none⟩) (Kd.R_far (p := ⟨gb238, 0, none⟩) (Kd.R_far (p := ⟨gb246, 2, none⟩) (Kd.R_far (p := ⟨gb246, 1, none⟩) (Kd.R_types (Kd.R_types HO264.out BK246.out (by decide)) BK238.out (by decide)) (fun _ hk => hk.1.2) (.slice Ao72 t259.length co72)) (fun _ hk => hk.1.2) (.slice Ao74 t262.length co74)) (fun _ hk => hk.2) (.slice Ao70 x247000_1.length co70)) (fun _ hk => hk.2) (.slice Ao72 t259.length co72)) (fun _ hk => hk.2) (.slice Ao74 t262.length co74)) (fun _ hk => ⟨hk.1.1.1.1.1, hk.1.1.1.1.2⟩), by refine rC (a := ?_); exact Kd.R_mono (Kd.R_far (p := ⟨gb238, 2, none⟩) (Kd.R_far (p := ⟨gb238, 1, none⟩) (Kd.R_far (p := ⟨gb238, 0, none⟩) (Kd.R_far (p := ⟨gb246, 2, none⟩) (Kd.R_far (p := ⟨gb246, 1, none⟩) (Kd.R_types (Kd.R_types HO_5.out BK246.out (by decide)) BK238.out (by decide)) (fun _ hk => hk.1.2) (.slice Ao72 t259.length co72)) (fun _ hk => hk.1.2) (.slice Ao74 t262.length co74)) (fun _ hk => hk.2) (.slice Ao70 x247000_1.length co70)) (fun _ hk => hk.2) (.slice Ao72 t259.length co72)) (fun _ hk => hk.2) (.slice Ao74 t262.length co74)) (fun _ hk => ⟨hk.1.1.1.2, hk.1.1.2⟩), hA HB.out⟩
 ·replace c3 := Bool.eq_false_iff.mpr c3
  subst c3
  have H1 : (some (([] : List (S50)), ([] : List Int), ([] : List Int), ([] : List Int))) = some (r1, r2, r3, r4) := by rw [if_neg (show ¬ (false = true) by decide)] at H; exact H
  clear H
  have H := H1
  clear H1
  simp only [Option.some.injEq, Prod.mk.injEq] at H
  obtain ⟨rfl, rfl, rfl, rfl⟩ := H
  go_enter Try.func12, Try.ntmps12
  go_wp2_with (first | ((with_reducible refine gate_dst (N := 1) rfl ?_); refine box_event ?hg (N := 1) ?hd (cs := #[.slice A0_0 l0_0.length c0_0, .slice A0_1 l0_1.length c0_1, .slice A0_2 l0_2.length c0_2]) (t := 29) ?hr ?_; (case hd => rfl); (case hg => rfl); (case hr => first | (go_simp; done) | (go_simp; rfl)); intro gb237 hg w77 hbox hb; have n0_ := Aside0.mk (below_step (hA HB.out) hb); have n1_ := Aside0.mk (hbox); have n2_ := Aside0.mk ((by rw [hg]; exact (below_size (hA HB.out)) : w.heap.size ≤ gb237)); have n3_ := Aside0.mk ((by rw [hg]; exact (below_size (hA HB.out)) : w.heap.size ≤ gb237)); clear HB; have HB := n0_; have BK237 := n1_; have GW237 := n2_; have GE237 := n3_; clear n0_ n1_ n2_ n3_; clear hb hbox hg) | ((with_reducible refine gate_dst (N := 2) rfl ?_); refine box_event ?hg (N := 2) ?hd (cs := #[.slice none 0 0, .slice none 0 0, .slice none 0 0]) (t := 29) ?hr ?_; (case hd => rfl); (case hg => rfl); (case hr => first | (go_simp; done) | (go_simp; rfl)); intro gb238 hg w78 hbox hb; have n0_ := Aside0.mk (blk_below (g := gb237) (o := .cells #[.slice A0_0 l0_0.length c0_0, .slice A0_1 l0_1.length c0_1, .slice A0_2 l0_2.length c0_2] 29 (0, 0)) (bA BK237.out) hb); have n1_ := Aside0.mk (below_step (hA HB.out) hb); have n2_ := Aside0.mk (hbox); have n3_ := Aside0.mk ((by rw [hg]; exact (below_size (hA HB.out)) : w.heap.size ≤ gb238)); have n4_ := Aside0.mk ((by rw [hg]; exact (below_size (hA HB.out)) : w.heap.size ≤ gb238)); have n5_ := Aside0.mk ((by rw [hg]; exact Nat.ne_of_lt (blk_lt (g := gb237) (o := .cells #[.slice A0_0 l0_0.length c0_0, .slice A0_1 l0_1.length c0_1, .slice A0_2 l0_2.length c0_2] 29 (0, 0)) (bA BK237.out)) : gb237 ≠ gb238)); have n6_ := Aside0.mk ((by rw [hg]; exact Nat.ne_of_gt (blk_lt (g := gb237) (o := .cells #[.slice A0_0 l0_0.length c0_0, .slice A0_1 l0_1.length c0_1, .slice A0_2 l0_2.length c0_2] 29 (0, 0)) (bA BK237.out)) : gb238 ≠ gb237)); clear BK237; clear HB; have BK237 := n0_; have HB := n1_; have BK238 := n2_; have GW238 := n3_; have GE238 := n4_; have NB237_238 := n5_; have NB238_237 := n6_; clear n0_ n1_ n2_ n3_ n4_ n5_ n6_; clear hb hbox hg; have hnb79 := NB237_238.out; have hnc79 := NB238_237.out; have hcz80_0 : w78.cell? ⟨gb237, 0, none⟩ = some (.slice A0_0 l0_0.length c0_0) := (blk_cell BK237.out 0).trans rfl; have hcz80_1 : w78.cell? ⟨gb237, 1, none⟩ = some (.slice A0_1 l0_1.length c0_1) := (blk_cell BK237.out 1).trans rfl; have hcz80_2 : w78.cell? ⟨gb237, 2, none⟩ = some (.slice A0_2 l0_2.length c0_2) := (blk_cell BK237.out 2).trans rfl; have hfz80_0 := blk_frozen BK237.out 0; have hfz80_1 := blk_frozen BK237.out 1; have hfz80_2 := blk_frozen BK237.out 2) | ((with_reducible refine gate_callee (f := 40) rfl ?_); refine goesL_ (some 9) rfl rfl Try.func40 (by kernel_rfl) rfl #[.agg #[.slice A0_0 l0_0.length c0_0, .slice A0_1 l0_1.length c0_1, .slice A0_2 l0_2.length c0_2]] rfl ar ?_; (with_reducible refine (impl_BookOk.calls k _ _ l0_0 (fun k_ => k_ < w.heap.size) _ _ l0_1 (fun k_ => k_ < w.heap.size) _ _ l0_2 false _ ?side1 ?side2 ?side3 ?side4 A2.out).mono ?_); (case side1 => repeat (first | exact (Kd.C_below HR0_0.out HB.out) | (with_reducible refine Kd.C_alloc ?_ _) | (with_reducible refine Kd.C_drewN ?_ _) | (with_reducible refine Kd.C_drew ?_))); (case side2 => exact HC0_0.out); (case side3 => exact Kd.V_mk HC0_1.out (Kd.F_below (Kd.C_F (Kd.heap_int .i64) HR0_1.out) (hA HB.out))); (case side4 => exact Kd.V_mk HC0_2.out (Kd.F_below (Kd.C_F (Kd.heap_int .i64) HR0_2.out) (hA HB.out))); rintro e w81 ⟨rfl, hb⟩; refine ⟨_, rfl, ?_⟩; have n0_ := Aside0.mk (blk_below (g := gb237) (o := .cells #[.slice A0_0 l0_0.length c0_0, .slice A0_1 l0_1.length c0_1, .slice A0_2 l0_2.length c0_2] 29 (0, 0)) (bA BK237.out) hb); have n1_ := Aside0.mk (blk_below (g := gb238) (o := .cells #[.slice none 0 0, .slice none 0 0, .slice none 0 0] 29 (0, 0)) (bA BK238.out) hb); have n2_ := Aside0.mk (below_step (hA HB.out) hb); clear BK237; clear BK238; clear HB; have BK237 := n0_; have BK238 := n1_; have HB := n2_; clear n0_ n1_ n2_; (try clear hb); (try clear hb2); (try clear hk); (try clear hi); have hcz82_0 : w81.cell? ⟨gb238, 0, none⟩ = some (.slice none 0 0) := (blk_cell BK238.out 0).trans rfl; have hcz82_1 : w81.cell? ⟨gb238, 1, none⟩ = some (.slice none 0 0) := (blk_cell BK238.out 1).trans rfl; have hcz82_2 : w81.cell? ⟨gb238, 2, none⟩ = some (.slice none 0 0) := (blk_cell BK238.out 2).trans rfl; have hfz82_0 := blk_frozen BK238.out 0; have hfz82_1 := blk_frozen BK238.out 1; have hfz82_2 := blk_frozen BK238.out 2))
  refine bodyPost_ret (results_ct rfl _ _ gb238 29 #[.slice none 0 0, .slice none 0 0, .slice none 0 0] (0, 0) _ rfl (by refine bC (a := ?_); refine blk_put (cs := #[.slice none 0 0, .slice none 0 0, .slice none 0 0]) ?_ 2 _ rfl; refine bC (a := ?_); refine blk_put (cs := #[.slice none 0 0, .slice none 0 0, .slice none 0 0]) ?_ 1 _ rfl; refine bC (a := ?_); refine blk_put (cs := #[.slice none 0 0, .slice none 0 0, .slice none 0 0]) ?_ 0 _ rfl; refine bC (a := ?_); exact BK238.out) Try.underlying29 rfl (by kernel_rfl)) rfl ?_
  exact ⟨_, _, _, _, by first | rfl | (simp [errW_none, errW_some] <;> rfl) | (simp [*, errW_none, errW_some] <;> rfl), by first | exact Kd.R_nil _ _ _ _ _ | exact Kd.N_nil _ _ _ _ _ | exact Kd.V_nil _ _ _ _ _ | exact Kd.Q_nil _ _ _ _ _ | exact Kd.S_nil _ _ _ _ _, by first | exact Kd.R_nil _ _ _ _ _ | exact Kd.N_nil _ _ _ _ _ | exact Kd.V_nil _ _ _ _ _ | exact Kd.Q_nil _ _ _ _ _ | exact Kd.S_nil _ _ _ _ _, by first | exact Kd.R_nil _ _ _ _ _ | exact Kd.N_nil _ _ _ _ _ | exact Kd.V_nil _ _ _ _ _ | exact Kd.Q_nil _ _ _ _ _ | exact Kd.S_nil _ _ _ _ _, by first | exact Kd.R_nil _ _ _ _ _ | exact Kd.N_nil _ _ _ _ _ | exact Kd.V_nil _ _ _ _ _ | exact Kd.Q_nil _ _ _ _ _ | exact Kd.S_nil _ _ _ _ _, hA HB.out⟩

/-! ### laws_eqIntS: function 14 -/
def laws_eqIntS.l0 : Nat → List Int → List Int → Int → Option (Bool)
 | 0, _, _, _ => none
 | k + 1, x0, x1, x5 => if x5 < (x0.length : Int) then (if 0 ≤ x5 then (if x5 < (x1.length : Int) then (if (rd x0 x5) = (rd x1 x5) then (laws_eqIntS.l0 k x0 x1 (wrap64 (x5 + 1))) else (some false)) else (none)) else (none)) else (some true)
def laws_eqIntS.f (k : Nat) (l0 : List Int) (l1 : List Int) : Option (Bool) := if (l0.length : Int) = (l1.length : Int) then (laws_eqIntS.l0 k l0 l1 0) else (some false)
theorem laws_eqIntS.mono_l : ∀ k, (∀ y0 y1 y2, LeO (laws_eqIntS.l0 k y0 y1 y2) (laws_eqIntS.l0 (k + 1) y0 y1 y2))
 | 0 => fun _ _ _ r h => by simp [laws_eqIntS.l0] at h
 | k + 1 => by
  have ih0 := laws_eqIntS.mono_l k
  ·intro y0 y1 y2
   unfold laws_eqIntS.l0
   repeat' first
   | (with_reducible exact ih0 _ _ _)
   | (with_reducible exact LeO.refl _)
   | (with_reducible exact LeO.none _)
   | (with_reducible refine LeO.ite ?_ ?_)
   | (with_reducible refine LeO.bind ?_ (fun _ => ?_))
   | exact ih0 _ _ _
   | exact LeO.none _
   | refine LeO.ite ?_ ?_
   | refine LeO.bind ?_ (fun _ => ?_)
theorem laws_eqIntS.mono : ∀ a0 a1 k, LeO (laws_eqIntS.f k a0 a1) (laws_eqIntS.f (k + 1) a0 a1) := by
 intro a0 a1 k
 have ih0 := laws_eqIntS.mono_l k
 unfold laws_eqIntS.f
 repeat' first
   | (with_reducible exact ih0 _ _ _)
   | (with_reducible exact LeO.refl _)
   | (with_reducible exact LeO.none _)
   | (with_reducible refine LeO.ite ?_ ?_)
   | (with_reducible refine LeO.bind ?_ (fun _ => ?_))
   | exact ih0 _ _ _
   | exact LeO.none _
   | refine LeO.ite ?_ ?_
   | refine LeO.bind ?_ (fun _ => ?_)
set_option maxHeartbeats 8000000 in
set_option maxRecDepth 100000 in
theorem laws_eqIntS.calls (k : Nat) (A0 : Option Addr) (c0 : Nat) (l0 : List Int) (A1 : Option Addr) (c1 : Nat) (l1 : List Int) (r : Bool) (w : World) (hr0 : Kd.C (Kd.int .i64) w A0 l0.length l0) (hc0 : l0.length ≤ c0) (hr1 : Kd.C (Kd.int .i64) w A1 l1.length l1) (hc1 : l1.length ≤ c1) (h : laws_eqIntS.f k l0 l1 = some r) :
  Calls Try.prog 14 #[.slice A0 l0.length c0, .slice A1 l1.length c1] w fun e w' => e = .returned (.bool r) ∧ Drawn0 w w' := by
 have HR0 := Aside0.mk hr0
 have HC0 := Aside0.mk hc0
 clear hr0 hc0
 have HR1 := Aside0.mk hr1
 have HC1 := Aside0.mk hc1
 clear hr1 hc1
 have H : (if (l0.length : Int) = (l1.length : Int) then (laws_eqIntS.l0 k l0 l1 0) else (some false)) = some r := h
 clear h
 by_cases c3 : (l0.length : Int) = (l1.length : Int)
 ·rw [if_pos c3] at H
  have c3b0 : ((l0.length : Int) == (l1.length : Int)) = true := beq_iff_eq.mpr c3
  have c3b1 : ((l0.length : Int) != (l1.length : Int)) = false := bne_eq_false_iff_eq.mpr c3
  have c3b2 : (l0.length == l1.length) = true := by first | simpa using c3 | (simp at c3 ⊢; omega)
  clear c3
  have H' := Aside0.mk H
  clear H
  go_enter Try.func14, Try.ntmps14
  go_wp2
  repeat (go_quiet (fail); try go_wp2)
  go_loopg [5] k (fun kq v5 w' => ∃ (x5_1 : Int), v5 = .int .i64 x5_1 ∧ Aside0 (laws_eqIntS.l0 kq l0 l1 x5_1 = some r) ∧ Aside0 (kq ≤ k) ∧ Drawn0 w w')
  case atStart => exact ⟨(0), (by first | rfl | (simp; done) | (simp [*]; done)), H', ⟨Nat.le_refl _⟩, by repeat (first | exact Drawn0.refl _ | apply Drawn0.step)⟩
  case round =>
   clear H'
   try clear c1
   try clear p2
   try clear c3
   try clear c3b0
   try clear c3b1
   try clear c3b2
   obtain ⟨x5_1, rfl, HA, HK1, ⟨m1, rfl⟩⟩ := hrel
   cases gk with
   | zero => exact absurd HA.out (by simp [laws_eqIntS.l0])
   | succ k1 =>
    have H := HA.out
    clear HA
    simp only [laws_eqIntS.l0] at H
    by_cases c4 : x5_1 < (l0.length : Int)
    ·rw [if_pos c4] at H
     have c4b0 : decide (x5_1 < (l0.length : Int)) = true := decide_eq_true c4
     clear c4
     by_cases c5 : 0 ≤ x5_1
     ·rw [if_pos c5] at H
      have c5b0 : decide (0 ≤ x5_1) = true := decide_eq_true c5
      clear c5
      by_cases c6 : x5_1 < (l1.length : Int)
      ·rw [if_pos c6] at H
       have c6b0 : decide (x5_1 < (l1.length : Int)) = true := decide_eq_true c6
       clear c6
       by_cases c7 : (rd l0 x5_1) = (rd l1 x5_1)
       ·rw [if_pos c7] at H
        have c7b0 : ((rd l0 x5_1) == (rd l1 x5_1)) = true := beq_iff_eq.mpr c7
        have c7b1 : ((rd l0 x5_1) != (rd l1 x5_1)) = false := bne_eq_false_iff_eq.mpr c7
        clear c7
        have H' := Aside0.mk H
        clear H
        have p265 : 0 ≤ (x5_1 : Int) := of_decide_eq_true sm
        have q265 : x5_1 < (l0.length : Int) := of_decide_eq_true sm
        obtain ⟨ad265, e265, hx265_0⟩ := Kd.at_int HR0.out x5_1 p265 q265
        cases e265
        replace p265 := eq_true p265
        replace q265 := eq_true q265
        have p266 : 0 ≤ (x5_1 : Int) := of_decide_eq_true sm
        have q266 : x5_1 < (l1.length : Int) := of_decide_eq_true sm
        obtain ⟨ad266, e266, hx266_0⟩ := Kd.at_int HR1.out x5_1 p266 q266
        cases e266
        replace p266 := eq_true p266
        replace q266 := eq_true q266
        go_wp2
        repeat (go_quiet (fail); try go_wp2)
        go_roundg k1
        case measure => have := HK1.out; omega
        case rel => exact ⟨(wrap64 (x5_1 + 1)), (by first | rfl | (simp; done) | (simp [*]; done)), H', ⟨by have := HK1.out; omega⟩, by repeat (first | exact Drawn0.refl _ | apply Drawn0.step)⟩
       ·rw [if_neg c7] at H
        have c7b0 : ((rd l0 x5_1) == (rd l1 x5_1)) = false := beq_eq_false_iff_ne.mpr c7
        have c7b1 : ((rd l0 x5_1) != (rd l1 x5_1)) = true := bne_iff_ne.mpr c7
        obtain rfl := Option.some.inj H
        have p265 : 0 ≤ (x5_1 : Int) := of_decide_eq_true sm
        have q265 : x5_1 < (l0.length : Int) := of_decide_eq_true sm
        obtain ⟨ad265, e265, hx265_0⟩ := Kd.at_int HR0.out x5_1 p265 q265
        cases e265
        replace p265 := eq_true p265
        replace q265 := eq_true q265
        have p266 : 0 ≤ (x5_1 : Int) := of_decide_eq_true sm
        have q266 : x5_1 < (l1.length : Int) := of_decide_eq_true sm
        obtain ⟨ad266, e266, hx266_0⟩ := Kd.at_int HR1.out x5_1 p266 q266
        cases e266
        replace p266 := eq_true p266
        replace q266 := eq_true q266
        go_wp2
        repeat (go_quiet (fail); try go_wp2)
        go_ret
        exact ⟨by first | rfl | (simp; done) | (simp [*]; done), by repeat (first | exact Drawn0.refl _ | apply Drawn0.step)⟩
      ·rw [if_neg c6] at H
       exact absurd H (by simp)
     ·rw [if_neg c5] at H
      exact absurd H (by simp)
    ·rw [if_neg c4] at H
     have c4b0 : decide (x5_1 < (l0.length : Int)) = false := decide_eq_false c4
     clear c4
     obtain rfl := Option.some.inj H
     go_wp2
     repeat (go_quiet (fail); try go_wp2)
     go_ret
     exact ⟨by first | rfl | (simp; done) | (simp [*]; done), by repeat (first | exact Drawn0.refl _ | apply Drawn0.step)⟩
 ·rw [if_neg c3] at H
  have c3b0 : ((l0.length : Int) == (l1.length : Int)) = false := beq_eq_false_iff_ne.mpr c3
  have c3b1 : ((l0.length : Int) != (l1.length : Int)) = true := bne_iff_ne.mpr c3
  have c3b2 : (l0.length == l1.length) = false := by first | simpa using c3 | (simp at c3 ⊢; omega)
  obtain rfl := Option.some.inj H
  go_enter Try.func14, Try.ntmps14
  go_wp2
  repeat (go_quiet (fail); try go_wp2)
  go_ret
  exact ⟨by first | rfl | (simp; done) | (simp [*]; done), by repeat (first | exact Drawn0.refl _ | apply Drawn0.step)⟩

end Go.Proofs.Ytngnkfpciloamaa.MFnExactMendBook
