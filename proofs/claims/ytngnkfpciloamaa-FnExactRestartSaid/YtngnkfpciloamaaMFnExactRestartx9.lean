/- The functions that the law FnExactRestart reaches, as plain functions, and that the code comes to them. Begun as a text of the print over stubs; turned by wip/handstub.py and wip/mend.py. -/
import Derived.Test.YtngnkfpciloamaaShortFnExactRestart
import Derived.Test.YtngnkfpciloamaaHandBookFnExactRestart
import Derived.Test.YtngnkfpciloamaaMFnExactRestartx0
import Derived.Test.YtngnkfpciloamaaMFnExactRestartx7
import Derived.Test.YtngnkfpciloamaaMFnExactRestartx8
namespace Go.Proofs.Ytngnkfpciloamaa.MFnExactRestart
open Go.RowKit Go.Proofs.YtngnkfpciloamaaW.PrintWords Go.Proofs.YtngnkfpciloamaaW.PrintLast Go.Proofs.YtngnkfpciloamaaW.PrintMore
attribute [local go_sem] max2_int min2_int max_two min_two max_three min_three max_four min_four   -- for this text's walks alone
set_option linter.unusedVariables false
set_option linter.unusedSimpArgs false

/-! ### impl_MendBook: function 12 -/
def impl_MendBook.l0 : Nat → List Int → List (S50) → Int → Int → List (S50) → List Int → List Int → Option ((List (S50)) × List Int × List Int × List Int)
 | 0, _, _, _, _, _, _, _ => none
 | k + 1, x5, x20, x21, x22, x278000, x278001, x278002 => if x22 < x21 then (if 0 ≤ x22 then (if x22 < (x20.length : Int) then (if ((rd_T50 x20 x22).f0) = ((rd_T50 x20 x22).f1) then (if x5.length < 17592186044416 then (impl_MendBook.l0 k (x5 ++ [x22]) x20 x21 (wrap64 (x22 + 1)) x278000 x278001 x278002) else (none)) else ((impl_Talk_42.f k x278000 ((rd_T50 x20 x22).f0) ((rd_T50 x20 x22).f1) ((rd_T50 x20 x22).f2)).bind fun t283 => (if t283 = true then (if x5.length < 17592186044416 then (impl_MendBook.l0 k (x5 ++ [x22]) x20 x21 (wrap64 (x22 + 1)) x278000 x278001 x278002) else (none)) else (if x278000.length < 5864062014805 then (impl_MendBook.l0 k x5 x20 x21 (wrap64 (x22 + 1)) (x278000 ++ [(⟨(rd_T50 x20 x22).f0, (rd_T50 x20 x22).f1, (rd_T50 x20 x22).f2⟩ : S50)]) x278001 x278002) else (none))))) else (none)) else (none)) else ((impl_said.f k x278000 x278001 x278002).bind fun bt290 => (some (x278000, bt290.1, bt290.2, x5)))
def impl_MendBook.f (k : Nat) (l0_0 : List (S50)) (l0_1 : List Int) (l0_2 : List Int) : Option ((List (S50)) × List Int × List Int × List Int) := (impl_BookOk.f k l0_0 l0_1 l0_2).bind fun t270 => (if t270 = true then ((slices_Clone_int_int.f k l0_1).bind fun t271 => ((slices_Clone_int_int.f k l0_2).bind fun t274 => (impl_MendBook.l0 k ([] : List Int) l0_0 (l0_0.length : Int) 0 ([] : List (S50)) t271 t274))) else (some (([] : List (S50)), ([] : List Int), ([] : List Int), ([] : List Int))))
theorem impl_MendBook.mono_l : ∀ k, (∀ y0 y1 y2 y3 y4 y5 y6, LeO (impl_MendBook.l0 k y0 y1 y2 y3 y4 y5 y6) (impl_MendBook.l0 (k + 1) y0 y1 y2 y3 y4 y5 y6))
 | 0 => fun _ _ _ _ _ _ _ r h => by simp [impl_MendBook.l0] at h
 | k + 1 => by
  have ih0 := impl_MendBook.mono_l k
  ·intro y0 y1 y2 y3 y4 y5 y6
   unfold impl_MendBook.l0
   repeat' first
   | (with_reducible exact ih0 _ _ _ _ _ _ _)
   | (with_reducible exact impl_BookOk.mono _ _ _ _)
   | (with_reducible exact impl_Talk_42.mono _ _ _ _ _)
   | (with_reducible exact impl_said.mono _ _ _ _)
   | (with_reducible exact slices_Clone_int_int.mono _ _)
   | (with_reducible exact LeO.refl _)
   | (with_reducible exact LeO.none _)
   | (with_reducible refine LeO.ite ?_ ?_)
   | (with_reducible refine LeO.bind ?_ (fun _ => ?_))
   | exact ih0 _ _ _ _ _ _ _
   | exact impl_BookOk.mono _ _ _ _
   | exact impl_Talk_42.mono _ _ _ _ _
   | exact impl_said.mono _ _ _ _
   | exact slices_Clone_int_int.mono _ _
   | exact LeO.none _
   | refine LeO.ite ?_ ?_
   | refine LeO.bind ?_ (fun _ => ?_)
theorem impl_MendBook.mono : ∀ a0 a1 a2 k, LeO (impl_MendBook.f k a0 a1 a2) (impl_MendBook.f (k + 1) a0 a1 a2) := by
 intro a0 a1 a2 k
 have ih0 := impl_MendBook.mono_l k
 unfold impl_MendBook.f
 repeat' first
   | (with_reducible exact ih0 _ _ _ _ _ _ _)
   | (with_reducible exact impl_BookOk.mono _ _ _ _)
   | (with_reducible exact impl_Talk_42.mono _ _ _ _ _)
   | (with_reducible exact impl_said.mono _ _ _ _)
   | (with_reducible exact slices_Clone_int_int.mono _ _)
   | (with_reducible exact LeO.refl _)
   | (with_reducible exact LeO.none _)
   | (with_reducible refine LeO.ite ?_ ?_)
   | (with_reducible refine LeO.bind ?_ (fun _ => ?_))
   | exact ih0 _ _ _ _ _ _ _
   | exact impl_BookOk.mono _ _ _ _
   | exact impl_Talk_42.mono _ _ _ _ _
   | exact impl_said.mono _ _ _ _
   | exact slices_Clone_int_int.mono _ _
   | exact LeO.none _
   | refine LeO.ite ?_ ?_
   | refine LeO.bind ?_ (fun _ => ?_)
def impl_MendBook.T3 : Bool × List (List Nat × List Nat) := (true, [([], []), ([0], [0]), ([1], [1]), ([], []), ([3], [3]), ([4, 2], [4]), ([2, 5], [2, 5]), ([], []), ([7, 6, 5, 0, 1, 2, 3, 4, 5, 6, 7], [6, 7])])
def impl_MendBook.B3 : List Nat := [0, 1, 3, 0, 8, 31, 63, 0, 255]
theorem impl_MendBook.tab3 : rtab .any (opsOf Try.f12 3) = impl_MendBook.T3 := by kernel_rfl
theorem impl_MendBook.bits3 : waitsOk impl_MendBook.T3.2 impl_MendBook.B3 = true := by kernel_rfl
set_option maxHeartbeats 8000000 in
set_option maxRecDepth 100000 in
theorem impl_MendBook.calls (k : Nat) (A0_0 : Option Addr) (c0_0 : Nat) (l0_0 : List (S50)) (A0_1 : Option Addr) (c0_1 : Nat) (l0_1 : List Int) (A0_2 : Option Addr) (c0_2 : Nat) (l0_2 : List Int) (r1 : List (S50)) (r2 : List Int) (r3 : List Int) (r4 : List Int) (w : World) (hr0_0 : Kd.C k50 w A0_0 l0_0.length l0_0) (hc0_0 : l0_0.length ≤ c0_0) (hr0_1 : Kd.C (Kd.int .i64) w A0_1 l0_1.length l0_1) (hc0_1 : l0_1.length ≤ c0_1) (hr0_2 : Kd.C (Kd.int .i64) w A0_2 l0_2.length l0_2) (hc0_2 : l0_2.length ≤ c0_2) (h : impl_MendBook.f k l0_0 l0_1 l0_2 = some (r1, r2, r3, r4)) :
  Calls Try.prog 12 #[.agg #[.slice A0_0 l0_0.length c0_0, .slice A0_1 l0_1.length c0_1, .slice A0_2 l0_2.length c0_2]] w fun e w' => ∃ v0_ v1_ v2_ v3_ : Value, e = .returned (.tuple #[.agg #[v0_, v1_, v2_], v3_]) ∧ Kd.R k50 50 w' w.heap.size (fun _ => True) v0_ r1 ∧ Kd.R (Kd.int .i64) 3 w' w.heap.size (fun k_ => some k_ ≠ (v2_ : Value).ownBlock ∧ some k_ ≠ (v3_ : Value).ownBlock) v1_ r2 ∧ Kd.R (Kd.int .i64) 3 w' w.heap.size (fun k_ => some k_ ≠ (v1_ : Value).ownBlock ∧ some k_ ≠ (v3_ : Value).ownBlock) v2_ r3 ∧ Kd.R (Kd.int .i64) 3 w' w.heap.size (fun k_ => some k_ ≠ (v1_ : Value).ownBlock ∧ some k_ ≠ (v2_ : Value).ownBlock) v3_ r4 ∧ Below w.heap.size w w' := by
 have hu29 := Try.underlying29
 have hu50 := Try.underlying50
 have HR0_0 := Aside0.mk hr0_0
 have HC0_0 := Aside0.mk hc0_0
 clear hr0_0 hc0_0
 have HR0_1 := Aside0.mk hr0_1
 have HC0_1 := Aside0.mk hc0_1
 clear hr0_1 hc0_1
 have HR0_2 := Aside0.mk hr0_2
 have HC0_2 := Aside0.mk hc0_2
 clear hr0_2 hc0_2
 have HB := Aside0.mk (Below.refl w.heap.size w)
 have H : ((impl_BookOk.f k l0_0 l0_1 l0_2).bind fun t270 => (if t270 = true then ((slices_Clone_int_int.f k l0_1).bind fun t271 => ((slices_Clone_int_int.f k l0_2).bind fun t274 => (impl_MendBook.l0 k ([] : List Int) l0_0 (l0_0.length : Int) 0 ([] : List (S50)) t271 t274))) else (some (([] : List (S50)), ([] : List Int), ([] : List Int), ([] : List Int))))) = some (r1, r2, r3, r4) := h
 clear h
 replace H := Option.bind_eq_some_iff.mp H
 obtain ⟨t270, A20, H⟩ := H
 replace H : (if t270 = true then ((slices_Clone_int_int.f k l0_1).bind fun t271 => ((slices_Clone_int_int.f k l0_2).bind fun t274 => (impl_MendBook.l0 k ([] : List Int) l0_0 (l0_0.length : Int) 0 ([] : List (S50)) t271 t274))) else (some (([] : List (S50)), ([] : List Int), ([] : List Int), ([] : List Int)))) = some (r1, r2, r3, r4) := H
 have A2 := Aside0.mk A20
 clear A20
 by_cases c3 : t270 = true
 ·subst c3
  have H1 : ((slices_Clone_int_int.f k l0_1).bind fun t271 => ((slices_Clone_int_int.f k l0_2).bind fun t274 => (impl_MendBook.l0 k ([] : List Int) l0_0 (l0_0.length : Int) 0 ([] : List (S50)) t271 t274))) = some (r1, r2, r3, r4) := by rw [if_pos rfl] at H; exact H
  clear H
  have H := H1
  clear H1
  replace H := Option.bind_eq_some_iff.mp H
  obtain ⟨t271, A40, H⟩ := H
  replace H : ((slices_Clone_int_int.f k l0_2).bind fun t274 => (impl_MendBook.l0 k ([] : List Int) l0_0 (l0_0.length : Int) 0 ([] : List (S50)) t271 t274)) = some (r1, r2, r3, r4) := H
  have A4 := Aside0.mk A40
  clear A40
  replace H := Option.bind_eq_some_iff.mp H
  obtain ⟨t274, A50, H⟩ := H
  replace H : (impl_MendBook.l0 k ([] : List Int) l0_0 (l0_0.length : Int) 0 ([] : List (S50)) t271 t274) = some (r1, r2, r3, r4) := H
  have A5 := Aside0.mk A50
  clear A50
  have H' := Aside0.mk H
  clear H
  go_enter Try.func12, Try.ntmps12
  try go_wp2_with (first | ((with_reducible refine gate_dst (N := 1) rfl ?_); refine box_event ?hg (N := 1) ?hd (cs := #[.slice A0_0 l0_0.length c0_0, .slice A0_1 l0_1.length c0_1, .slice A0_2 l0_2.length c0_2]) (t := 29) ?hr ?_; (case hd => rfl); (case hg => rfl); (case hr => first | (go_simp; done) | (go_simp; rfl)); intro gb268 hg w6 hbox hb; have n0_ := Aside0.mk (below_step (hA HB.out) hb); have n1_ := Aside0.mk (hbox); have n2_ := Aside0.mk ((by rw [hg]; exact (below_size (hA HB.out)) : w.heap.size ≤ gb268)); have n3_ := Aside0.mk ((by rw [hg]; exact (below_size (hA HB.out)) : w.heap.size ≤ gb268)); clear HB; have HB := n0_; have BK268 := n1_; have GW268 := n2_; have GE268 := n3_; clear n0_ n1_ n2_ n3_; clear hb hbox hg) | ((with_reducible refine gate_dst (N := 2) rfl ?_); refine box_event ?hg (N := 2) ?hd (cs := #[.slice none 0 0, .slice none 0 0, .slice none 0 0]) (t := 29) ?hr ?_; (case hd => rfl); (case hg => rfl); (case hr => first | (go_simp; done) | (go_simp; rfl)); intro gb269 hg w7 hbox hb; have n0_ := Aside0.mk (bB BK268.out hb); have n1_ := Aside0.mk (below_step (hA HB.out) hb); have n2_ := Aside0.mk (hbox); have n3_ := Aside0.mk ((by rw [hg]; exact (below_size (hA HB.out)) : w.heap.size ≤ gb269)); have n4_ := Aside0.mk ((by rw [hg]; exact (below_size (hA HB.out)) : w.heap.size ≤ gb269)); have n5_ := Aside0.mk ((by rw [hg]; exact Nat.ne_of_lt (blk_lt (g := gb268) (o := .cells #[.slice A0_0 l0_0.length c0_0, .slice A0_1 l0_1.length c0_1, .slice A0_2 l0_2.length c0_2] 29 (0, 0)) (bA BK268.out)) : gb268 ≠ gb269)); have n6_ := Aside0.mk ((by rw [hg]; exact Nat.ne_of_gt (blk_lt (g := gb268) (o := .cells #[.slice A0_0 l0_0.length c0_0, .slice A0_1 l0_1.length c0_1, .slice A0_2 l0_2.length c0_2] 29 (0, 0)) (bA BK268.out)) : gb269 ≠ gb268)); clear BK268; clear HB; have BK268 := n0_; have HB := n1_; have BK269 := n2_; have GW269 := n3_; have GE269 := n4_; have NB268_269 := n5_; have NB269_268 := n6_; clear n0_ n1_ n2_ n3_ n4_ n5_ n6_; clear hb hbox hg; have hnb8 := NB268_269.out; have hnc8 := NB269_268.out; have hcz9_0 : w7.cell? ⟨gb268, 0, none⟩ = some (.slice A0_0 l0_0.length c0_0) := (blk_cell BK268.out 0).trans rfl; have hcz9_1 : w7.cell? ⟨gb268, 1, none⟩ = some (.slice A0_1 l0_1.length c0_1) := (blk_cell BK268.out 1).trans rfl; have hcz9_2 : w7.cell? ⟨gb268, 2, none⟩ = some (.slice A0_2 l0_2.length c0_2) := (blk_cell BK268.out 2).trans rfl; have hfz9_0 := blk_frozen BK268.out 0; have hfz9_1 := blk_frozen BK268.out 1; have hfz9_2 := blk_frozen BK268.out 2) | ((with_reducible refine gate_callee (f := 40) rfl ?_); refine goesL_ (some 9) rfl rfl Try.func40 (by kernel_rfl) rfl #[.agg #[.slice A0_0 l0_0.length c0_0, .slice A0_1 l0_1.length c0_1, .slice A0_2 l0_2.length c0_2]] rfl ar ?_; (with_reducible refine (impl_BookOk.calls k _ _ l0_0 (fun k_ => k_ < w.heap.size) _ _ l0_1 (fun k_ => k_ < w.heap.size) _ _ l0_2 true _ ?side1 ?side2 ?side3 ?side4 A2.out).mono ?_); (case side1 => exact cA (Kd.C_below HR0_0.out HB.out)); (case side2 => exact HC0_0.out); (case side3 => exact Kd.V_mk HC0_1.out (Kd.F_below (Kd.C_F (Kd.heap_int .i64) HR0_1.out) (hA HB.out))); (case side4 => exact Kd.V_mk HC0_2.out (Kd.F_below (Kd.C_F (Kd.heap_int .i64) HR0_2.out) (hA HB.out))); rintro e w10 ⟨rfl, hb⟩; refine ⟨_, rfl, ?_⟩; have n0_ := Aside0.mk (bB BK268.out hb); have n1_ := Aside0.mk (bB BK269.out hb); have n2_ := Aside0.mk (below_step (hA HB.out) hb); clear BK268; clear BK269; clear HB; have BK268 := n0_; have BK269 := n1_; have HB := n2_; clear n0_ n1_ n2_; (try clear hb); (try clear hb2); (try clear hk); (try clear hi)))
  have n0_ := Aside0.mk (blk_drew BK268.out)
  have n1_ := Aside0.mk (blk_drew BK269.out)
  have n2_ := Aside0.mk (below_drew1 HB.out)
  clear BK268
  clear BK269
  clear HB
  have BK268 := n0_
  have BK269 := n1_
  have HB := n2_
  clear n0_ n1_ n2_
  refine start_ (n := 9) (S := fun w' => w'.cell? ⟨gb268, 0, none⟩ = some (.slice A0_0 l0_0.length c0_0) ∧ w'.cell? ⟨gb268, 1, none⟩ = some (.slice A0_1 l0_1.length c0_1) ∧ w'.cell? ⟨gb268, 2, none⟩ = some (.slice A0_2 l0_2.length c0_2)) (ds := []) #[false, false, false, false, false, false, false, false, false] (by kernel_rfl) rfl rfl ⟨(blk_cell BK268.out 0).trans rfl, (blk_cell BK268.out 1).trans rfl, (blk_cell BK268.out 2).trans rfl⟩ (fun hHeld => ?_); refine with_tabW impl_MendBook.tab3 impl_MendBook.bits3 (fun HT_ HW_ => ?_)
  generalize w10.drew = w11 at BK268 BK269 HB hHeld ⊢
  refine pure_ (i := 0) (N := some 12) (v := ?_) (a' := ?_) #[true, false, false, false, false, false, false, false, false] rfl rfl (any_of HT_.out (by kernel_rfl)) (fun _ _ _ h => h) (Or.inl ⟨by rfl, ?_⟩) ?_ ?_
  rotate_left
  ·intro w'
   go_simp
   with_reducible rfl
  rotate_left
  ·simp only [Act.put, List.setIfInBounds_toArray, List.set_cons_zero, List.set_cons_succ, i64_w, i32_w]
   rfl
  refine pure_ (i := 3) (N := some 15) (v := ?_) (a' := ?_) #[true, false, false, true, false, false, false, false, false] rfl rfl (any_of HT_.out (by kernel_rfl)) (fun _ _ _ h => h) (Or.inl ⟨by rfl, ?_⟩) ?_ ?_
  rotate_left
  ·intro w'
   go_simp
   with_reducible rfl
  rotate_left
  ·simp only [Act.put, List.setIfInBounds_toArray, List.set_cons_zero, List.set_cons_succ, i64_w, i32_w]
   rfl
  refine take_ (i := 1) (N := some 13) (v := ?_) (a' := ?_) #[true, true, false, true, false, false, false, false, false] rfl rfl (take_ofW HT_.out HW_.out (by kernel_rfl)) (fun _ _ _ h => h) (Or.inl ⟨by rfl, ?_⟩) hHeld ?_ ?_
  rotate_left
  ·rintro w' ⟨s0, s1, s2⟩
   go_simp
   with_reducible rfl
  rotate_left
  ·simp only [Act.put, List.setIfInBounds_toArray, List.set_cons_zero, List.set_cons_succ, i64_w, i32_w]
   rfl
  refine take_ (i := 4) (N := some 16) (v := ?_) (a' := ?_) #[true, true, false, true, true, false, false, false, false] rfl rfl (take_ofW HT_.out HW_.out (by kernel_rfl)) (fun _ _ _ h => h) (Or.inl ⟨by rfl, ?_⟩) hHeld ?_ ?_
  rotate_left
  ·rintro w' ⟨s0, s1, s2⟩
   go_simp
   with_reducible rfl
  rotate_left
  ·simp only [Act.put, List.setIfInBounds_toArray, List.set_cons_zero, List.set_cons_succ, i64_w, i32_w]
   rfl
  refine join_ (σ := Value × Value × Nat) 1 #[true, true, true, true, true, true, true, true, false] (fun s_ => [(14, s_.1), (17, s_.2.1), (4, .pointer (some ⟨s_.2.2, 0, none⟩)), (18, .agg #[.slice none 0 0, s_.1, s_.2.1])]) (fun s_ w' => (w'.cell? ⟨gb268, 0, none⟩ = some (.slice A0_0 l0_0.length c0_0) ∧ w'.cell? ⟨gb268, 1, none⟩ = some (.slice A0_1 l0_1.length c0_1) ∧ w'.cell? ⟨gb268, 2, none⟩ = some (.slice A0_2 l0_2.length c0_2)) ∧ (Kd.R (Kd.int .i64) 3 w' w.heap.size (fun k_ => some k_ ≠ (s_.2.1 : Value).ownBlock) s_.1 t271) ∧ (Kd.R (Kd.int .i64) 3 w' w.heap.size (fun k_ => some k_ ≠ (s_.1 : Value).ownBlock) s_.2.1 t274) ∧ (w'.heap[gb268]? = some (.cells #[.slice A0_0 l0_0.length c0_0, .slice A0_1 l0_1.length c0_1, .slice A0_2 l0_2.length c0_2] 29 (0, 0))) ∧ (w'.heap[gb269]? = some (.cells #[.slice none 0 0, .slice none 0 0, .slice none 0 0] 29 (0, 0))) ∧ (w'.heap[s_.2.2]? = some (.cells #[.slice none 0 0, .slice none 0 0, .slice none 0 0] 29 (0, 0))) ∧ (w.heap.size ≤ s_.2.2) ∧ (w.heap.size ≤ s_.2.2) ∧ (gb268 ≠ s_.2.2) ∧ (s_.2.2 ≠ gb268) ∧ (gb269 ≠ s_.2.2) ∧ (s_.2.2 ≠ gb269) ∧ (Below w.heap.size w w')) ?_ ?_
  rotate_left
  ·intro hCont
   refine two_ (i := 2) (j := 7) (Ni := some 14) (Nj := some 4) #[true, true, true, true, true, false, false, false, false] #[true, true, false, true, true, false, false, true, false] rfl rfl rfl rfl (two_of HT_.out (by kernel_rfl)) (by decide) (by decide) (fun K hK => ?_) (fun K hK => ?_)
   ·skip
    refine goes_ Try.func41 (by kernel_rfl) rfl #[.slice A0_1 l0_1.length c0_1] (by rfl) rfl rfl ar ?_
    with_reducible refine (slices_Clone_int_int.calls k _ _ l0_1 t271 _ ?side1 ?side2 A4.out).mono ?_
    (case side1 => exact cA (Kd.C_below HR0_1.out HB.out))
    (case side2 => exact HC0_1.out)
    rintro e w12 ⟨v272, rfl, ho0, hb⟩
    refine ⟨_, rfl, ?_⟩
    have n0_ := Aside0.mk (Kd.R_lower ho0 (below_size (hA HB.out)))
    have n1_ := Aside0.mk (bB BK268.out hb)
    have n2_ := Aside0.mk (bB BK269.out hb)
    have n3_ := Aside0.mk (below_step (hA HB.out) hb)
    clear BK268
    clear BK269
    clear HB
    have HO273 := n0_
    have BK268 := n1_
    have BK269 := n2_
    have HB := n3_
    clear n0_ n1_ n2_ n3_
    (try clear hb)
    (try clear hb2)
    (try clear hk)
    (try clear hi)
    (try clear ho0)
    refine hK.out _ _ ⟨(blk_cell BK268.out 0).trans rfl, (blk_cell BK268.out 1).trans rfl, (blk_cell BK268.out 2).trans rfl⟩ (fun hHeld => ?_)
    clear hK K
    refine norm_ (a' := ?_) ?_ ?_
    rotate_left
    ·show Act.put _ (some 14) _ = _
     simp only [Act.put, List.setIfInBounds_toArray, List.set_cons_zero, List.set_cons_succ, i64_w, i32_w]
     rfl
    refine two_ (i := 5) (j := 7) (Ni := some 17) (Nj := some 4) #[true, true, true, true, true, true, false, false, false] #[true, true, true, true, true, false, false, true, false] rfl rfl rfl rfl (two_of HT_.out (by kernel_rfl)) (by decide) (by decide) (fun K hK => ?_) (fun K hK => ?_)
    ·skip
     refine goes_ Try.func41 (by kernel_rfl) rfl #[.slice A0_2 l0_2.length c0_2] (by rfl) rfl rfl ar ?_
     with_reducible refine (slices_Clone_int_int.calls k _ _ l0_2 t274 _ ?side1 ?side2 A5.out).mono ?_
     (case side1 => exact cA (Kd.C_below HR0_2.out HB.out))
     (case side2 => exact HC0_2.out)
     rintro e w13 ⟨v275, rfl, ho0, hb⟩
     refine ⟨_, rfl, ?_⟩
     have n0_ := Aside0.mk (Kd.R_elder' (rA HO273.out) (Kd.R_base ho0) hb)
     have n1_ := Aside0.mk (Kd.R_lower (Kd.R_new' ho0 (Kd.R_lt (rA HO273.out))) (below_size (hA HB.out)))
     have n2_ := Aside0.mk (bB BK268.out hb)
     have n3_ := Aside0.mk (bB BK269.out hb)
     have n4_ := Aside0.mk (below_step (hA HB.out) hb)
     clear HO273
     clear BK268
     clear BK269
     clear HB
     have HO273 := n0_
     have HO276 := n1_
     have BK268 := n2_
     have BK269 := n3_
     have HB := n4_
     clear n0_ n1_ n2_ n3_ n4_
     (try clear hb)
     (try clear hb2)
     (try clear hk)
     (try clear hi)
     (try clear ho0)
     obtain ⟨Ao14, co14, eo14⟩ := Kd.R_slice HO276.out
     (first | subst eo14 | (injection eo14 with f1_ f2_ f3_; have f4_ := f1_.symm; have f5_ := f3_.symm; clear f1_ f2_ f3_; subst f4_; subst f5_))
     obtain ⟨Ao15, co15, eo15⟩ := Kd.R_slice HO273.out
     (first | subst eo15 | (injection eo15 with f1_ f2_ f3_; have f4_ := f1_.symm; have f5_ := f3_.symm; clear f1_ f2_ f3_; subst f4_; subst f5_))
     refine hK.out _ _ ⟨(blk_cell BK268.out 0).trans rfl, (blk_cell BK268.out 1).trans rfl, (blk_cell BK268.out 2).trans rfl⟩ (fun hHeld => ?_)
     clear hK K
     refine norm_ (a' := ?_) ?_ ?_
     rotate_left
     ·show Act.put _ (some 17) _ = _
      simp only [Act.put, List.setIfInBounds_toArray, List.set_cons_zero, List.set_cons_succ, i64_w, i32_w]
      rfl
     refine pure_ (i := 6) (N := some 18) (v := ?_) (a' := ?_) #[true, true, true, true, true, true, true, false, false] rfl rfl (any_of HT_.out (by kernel_rfl)) (fun _ _ _ h => h) (Or.inl ⟨by rfl, ?_⟩) ?_ ?_
     rotate_left
     ·intro w'
      go_simp
      with_reducible rfl
     rotate_left
     ·simp only [Act.put, List.setIfInBounds_toArray, List.set_cons_zero, List.set_cons_succ, i64_w, i32_w]
      rfl
     refine one_ (i := 7) (N := some 4) #[true, true, true, true, true, true, true, true, false] rfl rfl (one_of HT_.out (by kernel_rfl)) (by decide) (fun K hK => ?_)
     refine box_step ?hg (N := 4) ?hd (cs := #[.slice none 0 0, .slice none 0 0, .slice none 0 0]) (t := 29) ?hr ?_; (case hd => rfl); (case hg => rfl); (case hr => first | (go_simp; done) | (go_simp; rfl))
     intro gb277 hg w16 hbox hb
     have n0_ := Aside0.mk (Kd.R_below (rA HO273.out) hb)
     have n1_ := Aside0.mk (Kd.R_below (rA HO276.out) hb)
     have n2_ := Aside0.mk (bB BK268.out hb)
     have n3_ := Aside0.mk (bB BK269.out hb)
     have n4_ := Aside0.mk (below_step (hA HB.out) hb)
     have n5_ := Aside0.mk (hbox)
     have n6_ := Aside0.mk ((by rw [hg]; exact (below_size (hA HB.out)) : w.heap.size ≤ gb277))
     have n7_ := Aside0.mk ((by rw [hg]; exact (below_size (hA HB.out)) : w.heap.size ≤ gb277))
     have n8_ := Aside0.mk ((by rw [hg]; exact Nat.ne_of_lt (blk_lt (g := gb268) (o := .cells #[.slice A0_0 l0_0.length c0_0, .slice A0_1 l0_1.length c0_1, .slice A0_2 l0_2.length c0_2] 29 (0, 0)) (bA BK268.out)) : gb268 ≠ gb277))
     have n9_ := Aside0.mk ((by rw [hg]; exact Nat.ne_of_gt (blk_lt (g := gb268) (o := .cells #[.slice A0_0 l0_0.length c0_0, .slice A0_1 l0_1.length c0_1, .slice A0_2 l0_2.length c0_2] 29 (0, 0)) (bA BK268.out)) : gb277 ≠ gb268))
     have n10_ := Aside0.mk ((by rw [hg]; exact Nat.ne_of_lt (blk_lt (g := gb269) (o := .cells #[.slice none 0 0, .slice none 0 0, .slice none 0 0] 29 (0, 0)) (bA BK269.out)) : gb269 ≠ gb277))
     have n11_ := Aside0.mk ((by rw [hg]; exact Nat.ne_of_gt (blk_lt (g := gb269) (o := .cells #[.slice none 0 0, .slice none 0 0, .slice none 0 0] 29 (0, 0)) (bA BK269.out)) : gb277 ≠ gb269))
     clear HO273
     clear HO276
     clear BK268
     clear BK269
     clear HB
     have HO273 := n0_
     have HO276 := n1_
     have BK268 := n2_
     have BK269 := n3_
     have HB := n4_
     have BK277 := n5_
     have GW277 := n6_
     have GE277 := n7_
     have NB268_277 := n8_
     have NB277_268 := n9_
     have NB269_277 := n10_
     have NB277_269 := n11_
     clear n0_ n1_ n2_ n3_ n4_ n5_ n6_ n7_ n8_ n9_ n10_ n11_
     clear hb hbox hg
     refine hK.out _ _ ⟨(blk_cell BK268.out 0).trans rfl, (blk_cell BK268.out 1).trans rfl, (blk_cell BK268.out 2).trans rfl⟩ (fun hHeld => ?_)
     clear hK K
     refine norm_ (a' := ?_) ?_ ?_
     rotate_left
     ·show Act.put _ (some 4) _ = _
      simp only [Act.put, List.setIfInBounds_toArray, List.set_cons_zero, List.set_cons_succ, i64_w, i32_w]
      rfl
     exact norm_ (by simp only [putAll, Act.put, List.setIfInBounds_toArray, List.set_cons_zero, List.set_cons_succ]) (hCont (.slice Ao15 t271.length co15, .slice Ao14 t274.length co14, gb277) _ ⟨hHeld, (rC (a := by exact Kd.R_mono HO273.out (fun _ hk => hk.2))), (rC (a := by exact Kd.R_mono HO276.out (fun _ hk => hk.2))), (bA BK268.out), (bA BK269.out), (bA BK277.out), GW277.out, GE277.out, NB268_277.out, NB277_268.out, NB269_277.out, NB277_269.out, (hA HB.out)⟩)
    ·skip
     refine box_step ?hg (N := 4) ?hd (cs := #[.slice none 0 0, .slice none 0 0, .slice none 0 0]) (t := 29) ?hr ?_; (case hd => rfl); (case hg => rfl); (case hr => first | (go_simp; done) | (go_simp; rfl))
     intro gb277 hg w13 hbox hb
     have n0_ := Aside0.mk (Kd.R_below (rA HO273.out) hb)
     have n1_ := Aside0.mk (bB BK268.out hb)
     have n2_ := Aside0.mk (bB BK269.out hb)
     have n3_ := Aside0.mk (below_step (hA HB.out) hb)
     have n4_ := Aside0.mk (hbox)
     have n5_ := Aside0.mk ((by rw [hg]; exact (below_size (hA HB.out)) : w.heap.size ≤ gb277))
     have n6_ := Aside0.mk ((by rw [hg]; exact (below_size (hA HB.out)) : w.heap.size ≤ gb277))
     have n7_ := Aside0.mk ((by rw [hg]; exact Nat.ne_of_lt (blk_lt (g := gb268) (o := .cells #[.slice A0_0 l0_0.length c0_0, .slice A0_1 l0_1.length c0_1, .slice A0_2 l0_2.length c0_2] 29 (0, 0)) (bA BK268.out)) : gb268 ≠ gb277))
     have n8_ := Aside0.mk ((by rw [hg]; exact Nat.ne_of_gt (blk_lt (g := gb268) (o := .cells #[.slice A0_0 l0_0.length c0_0, .slice A0_1 l0_1.length c0_1, .slice A0_2 l0_2.length c0_2] 29 (0, 0)) (bA BK268.out)) : gb277 ≠ gb268))
     have n9_ := Aside0.mk ((by rw [hg]; exact Nat.ne_of_lt (blk_lt (g := gb269) (o := .cells #[.slice none 0 0, .slice none 0 0, .slice none 0 0] 29 (0, 0)) (bA BK269.out)) : gb269 ≠ gb277))
     have n10_ := Aside0.mk ((by rw [hg]; exact Nat.ne_of_gt (blk_lt (g := gb269) (o := .cells #[.slice none 0 0, .slice none 0 0, .slice none 0 0] 29 (0, 0)) (bA BK269.out)) : gb277 ≠ gb269))
     clear HO273
     clear BK268
     clear BK269
     clear HB
     have HO273 := n0_
     have BK268 := n1_
     have BK269 := n2_
     have HB := n3_
     have BK277 := n4_
     have GW277 := n5_
     have GE277 := n6_
     have NB268_277 := n7_
     have NB277_268 := n8_
     have NB269_277 := n9_
     have NB277_269 := n10_
     clear n0_ n1_ n2_ n3_ n4_ n5_ n6_ n7_ n8_ n9_ n10_
     clear hb hbox hg
     refine hK.out _ _ ⟨(blk_cell BK268.out 0).trans rfl, (blk_cell BK268.out 1).trans rfl, (blk_cell BK268.out 2).trans rfl⟩ (fun hHeld => ?_)
     clear hK K
     refine norm_ (a' := ?_) ?_ ?_
     rotate_left
     ·show Act.put _ (some 4) _ = _
      simp only [Act.put, List.setIfInBounds_toArray, List.set_cons_zero, List.set_cons_succ, i64_w, i32_w]
      rfl
     refine one_ (i := 5) (N := some 17) #[true, true, true, true, true, true, false, true, false] rfl rfl (one_of HT_.out (by kernel_rfl)) (by decide) (fun K hK => ?_)
     refine goes_ Try.func41 (by kernel_rfl) rfl #[.slice A0_2 l0_2.length c0_2] (by rfl) rfl rfl ar ?_
     with_reducible refine (slices_Clone_int_int.calls k _ _ l0_2 t274 _ ?side1 ?side2 A5.out).mono ?_
     (case side1 => exact cA (Kd.C_below HR0_2.out HB.out))
     (case side2 => exact HC0_2.out)
     rintro e w14 ⟨v275, rfl, ho0, hb⟩
     refine ⟨_, rfl, ?_⟩
     have n0_ := Aside0.mk (Kd.R_elder' (rA HO273.out) (Kd.R_base ho0) hb)
     have n1_ := Aside0.mk (Kd.R_lower (Kd.R_new' ho0 (Kd.R_lt (rA HO273.out))) (below_size (hA HB.out)))
     have n2_ := Aside0.mk (bB BK268.out hb)
     have n3_ := Aside0.mk (bB BK269.out hb)
     have n4_ := Aside0.mk (bB BK277.out hb)
     have n5_ := Aside0.mk (below_step (hA HB.out) hb)
     clear HO273
     clear BK268
     clear BK269
     clear BK277
     clear HB
     have HO273 := n0_
     have HO276 := n1_
     have BK268 := n2_
     have BK269 := n3_
     have BK277 := n4_
     have HB := n5_
     clear n0_ n1_ n2_ n3_ n4_ n5_
     (try clear hb)
     (try clear hb2)
     (try clear hk)
     (try clear hi)
     (try clear ho0)
     obtain ⟨Ao15, co15, eo15⟩ := Kd.R_slice HO276.out
     (first | subst eo15 | (injection eo15 with f1_ f2_ f3_; have f4_ := f1_.symm; have f5_ := f3_.symm; clear f1_ f2_ f3_; subst f4_; subst f5_))
     obtain ⟨Ao16, co16, eo16⟩ := Kd.R_slice HO273.out
     (first | subst eo16 | (injection eo16 with f1_ f2_ f3_; have f4_ := f1_.symm; have f5_ := f3_.symm; clear f1_ f2_ f3_; subst f4_; subst f5_))
     refine hK.out _ _ ⟨(blk_cell BK268.out 0).trans rfl, (blk_cell BK268.out 1).trans rfl, (blk_cell BK268.out 2).trans rfl⟩ (fun hHeld => ?_)
     clear hK K
     refine norm_ (a' := ?_) ?_ ?_
     rotate_left
     ·show Act.put _ (some 17) _ = _
      simp only [Act.put, List.setIfInBounds_toArray, List.set_cons_zero, List.set_cons_succ, i64_w, i32_w]
      rfl
     refine pure_ (i := 6) (N := some 18) (v := ?_) (a' := ?_) #[true, true, true, true, true, true, true, true, false] rfl rfl (any_of HT_.out (by kernel_rfl)) (fun _ _ _ h => h) (Or.inl ⟨by rfl, ?_⟩) ?_ ?_
     rotate_left
     ·intro w'
      go_simp
      with_reducible rfl
     rotate_left
     ·simp only [Act.put, List.setIfInBounds_toArray, List.set_cons_zero, List.set_cons_succ, i64_w, i32_w]
      rfl
     exact norm_ (by simp only [putAll, Act.put, List.setIfInBounds_toArray, List.set_cons_zero, List.set_cons_succ]) (hCont (.slice Ao16 t271.length co16, .slice Ao15 t274.length co15, gb277) _ ⟨hHeld, (rC (a := by exact Kd.R_mono HO273.out (fun _ hk => hk.2))), (rC (a := by exact Kd.R_mono HO276.out (fun _ hk => hk.2))), (bA BK268.out), (bA BK269.out), (bA BK277.out), GW277.out, GE277.out, NB268_277.out, NB277_268.out, NB269_277.out, NB277_269.out, (hA HB.out)⟩)
   ·skip
    refine box_step ?hg (N := 4) ?hd (cs := #[.slice none 0 0, .slice none 0 0, .slice none 0 0]) (t := 29) ?hr ?_; (case hd => rfl); (case hg => rfl); (case hr => first | (go_simp; done) | (go_simp; rfl))
    intro gb277 hg w12 hbox hb
    have n0_ := Aside0.mk (bB BK268.out hb)
    have n1_ := Aside0.mk (bB BK269.out hb)
    have n2_ := Aside0.mk (below_step (hA HB.out) hb)
    have n3_ := Aside0.mk (hbox)
    have n4_ := Aside0.mk ((by rw [hg]; exact (below_size (hA HB.out)) : w.heap.size ≤ gb277))
    have n5_ := Aside0.mk ((by rw [hg]; exact (below_size (hA HB.out)) : w.heap.size ≤ gb277))
    have n6_ := Aside0.mk ((by rw [hg]; exact Nat.ne_of_lt (blk_lt (g := gb268) (o := .cells #[.slice A0_0 l0_0.length c0_0, .slice A0_1 l0_1.length c0_1, .slice A0_2 l0_2.length c0_2] 29 (0, 0)) (bA BK268.out)) : gb268 ≠ gb277))
    have n7_ := Aside0.mk ((by rw [hg]; exact Nat.ne_of_gt (blk_lt (g := gb268) (o := .cells #[.slice A0_0 l0_0.length c0_0, .slice A0_1 l0_1.length c0_1, .slice A0_2 l0_2.length c0_2] 29 (0, 0)) (bA BK268.out)) : gb277 ≠ gb268))
    have n8_ := Aside0.mk ((by rw [hg]; exact Nat.ne_of_lt (blk_lt (g := gb269) (o := .cells #[.slice none 0 0, .slice none 0 0, .slice none 0 0] 29 (0, 0)) (bA BK269.out)) : gb269 ≠ gb277))
    have n9_ := Aside0.mk ((by rw [hg]; exact Nat.ne_of_gt (blk_lt (g := gb269) (o := .cells #[.slice none 0 0, .slice none 0 0, .slice none 0 0] 29 (0, 0)) (bA BK269.out)) : gb277 ≠ gb269))
    clear BK268
    clear BK269
    clear HB
    have BK268 := n0_
    have BK269 := n1_
    have HB := n2_
    have BK277 := n3_
    have GW277 := n4_
    have GE277 := n5_
    have NB268_277 := n6_
    have NB277_268 := n7_
    have NB269_277 := n8_
    have NB277_269 := n9_
    clear n0_ n1_ n2_ n3_ n4_ n5_ n6_ n7_ n8_ n9_
    clear hb hbox hg
    refine hK.out _ _ ⟨(blk_cell BK268.out 0).trans rfl, (blk_cell BK268.out 1).trans rfl, (blk_cell BK268.out 2).trans rfl⟩ (fun hHeld => ?_)
    clear hK K
    refine norm_ (a' := ?_) ?_ ?_
    rotate_left
    ·show Act.put _ (some 4) _ = _
     simp only [Act.put, List.setIfInBounds_toArray, List.set_cons_zero, List.set_cons_succ, i64_w, i32_w]
     rfl
    refine one_ (i := 2) (N := some 14) #[true, true, true, true, true, false, false, true, false] rfl rfl (one_of HT_.out (by kernel_rfl)) (by decide) (fun K hK => ?_)
    refine goes_ Try.func41 (by kernel_rfl) rfl #[.slice A0_1 l0_1.length c0_1] (by rfl) rfl rfl ar ?_
    with_reducible refine (slices_Clone_int_int.calls k _ _ l0_1 t271 _ ?side1 ?side2 A4.out).mono ?_
    (case side1 => exact cA (Kd.C_below HR0_1.out HB.out))
    (case side2 => exact HC0_1.out)
    rintro e w13 ⟨v272, rfl, ho0, hb⟩
    refine ⟨_, rfl, ?_⟩
    have n0_ := Aside0.mk (Kd.R_lower ho0 (below_size (hA HB.out)))
    have n1_ := Aside0.mk (bB BK268.out hb)
    have n2_ := Aside0.mk (bB BK269.out hb)
    have n3_ := Aside0.mk (bB BK277.out hb)
    have n4_ := Aside0.mk (below_step (hA HB.out) hb)
    clear BK268
    clear BK269
    clear BK277
    clear HB
    have HO273 := n0_
    have BK268 := n1_
    have BK269 := n2_
    have BK277 := n3_
    have HB := n4_
    clear n0_ n1_ n2_ n3_ n4_
    (try clear hb)
    (try clear hb2)
    (try clear hk)
    (try clear hi)
    (try clear ho0)
    refine hK.out _ _ ⟨(blk_cell BK268.out 0).trans rfl, (blk_cell BK268.out 1).trans rfl, (blk_cell BK268.out 2).trans rfl⟩ (fun hHeld => ?_)
    clear hK K
    refine norm_ (a' := ?_) ?_ ?_
    rotate_left
    ·show Act.put _ (some 14) _ = _
     simp only [Act.put, List.setIfInBounds_toArray, List.set_cons_zero, List.set_cons_succ, i64_w, i32_w]
     rfl
    refine one_ (i := 5) (N := some 17) #[true, true, true, true, true, true, false, true, false] rfl rfl (one_of HT_.out (by kernel_rfl)) (by decide) (fun K hK => ?_)
    refine goes_ Try.func41 (by kernel_rfl) rfl #[.slice A0_2 l0_2.length c0_2] (by rfl) rfl rfl ar ?_
    with_reducible refine (slices_Clone_int_int.calls k _ _ l0_2 t274 _ ?side1 ?side2 A5.out).mono ?_
    (case side1 => exact cA (Kd.C_below HR0_2.out HB.out))
    (case side2 => exact HC0_2.out)
    rintro e w14 ⟨v275, rfl, ho0, hb⟩
    refine ⟨_, rfl, ?_⟩
    have n0_ := Aside0.mk (Kd.R_elder' (rA HO273.out) (Kd.R_base ho0) hb)
    have n1_ := Aside0.mk (Kd.R_lower (Kd.R_new' ho0 (Kd.R_lt (rA HO273.out))) (below_size (hA HB.out)))
    have n2_ := Aside0.mk (bB BK268.out hb)
    have n3_ := Aside0.mk (bB BK269.out hb)
    have n4_ := Aside0.mk (bB BK277.out hb)
    have n5_ := Aside0.mk (below_step (hA HB.out) hb)
    clear HO273
    clear BK268
    clear BK269
    clear BK277
    clear HB
    have HO273 := n0_
    have HO276 := n1_
    have BK268 := n2_
    have BK269 := n3_
    have BK277 := n4_
    have HB := n5_
    clear n0_ n1_ n2_ n3_ n4_ n5_
    (try clear hb)
    (try clear hb2)
    (try clear hk)
    (try clear hi)
    (try clear ho0)
    obtain ⟨Ao15, co15, eo15⟩ := Kd.R_slice HO276.out
    (first | subst eo15 | (injection eo15 with f1_ f2_ f3_; have f4_ := f1_.symm; have f5_ := f3_.symm; clear f1_ f2_ f3_; subst f4_; subst f5_))
    obtain ⟨Ao16, co16, eo16⟩ := Kd.R_slice HO273.out
    (first | subst eo16 | (injection eo16 with f1_ f2_ f3_; have f4_ := f1_.symm; have f5_ := f3_.symm; clear f1_ f2_ f3_; subst f4_; subst f5_))
    refine hK.out _ _ ⟨(blk_cell BK268.out 0).trans rfl, (blk_cell BK268.out 1).trans rfl, (blk_cell BK268.out 2).trans rfl⟩ (fun hHeld => ?_)
    clear hK K
    refine norm_ (a' := ?_) ?_ ?_
    rotate_left
    ·show Act.put _ (some 17) _ = _
     simp only [Act.put, List.setIfInBounds_toArray, List.set_cons_zero, List.set_cons_succ, i64_w, i32_w]
     rfl
    refine pure_ (i := 6) (N := some 18) (v := ?_) (a' := ?_) #[true, true, true, true, true, true, true, true, false] rfl rfl (any_of HT_.out (by kernel_rfl)) (fun _ _ _ h => h) (Or.inl ⟨by rfl, ?_⟩) ?_ ?_
    rotate_left
    ·intro w'
     go_simp
     with_reducible rfl
    rotate_left
    ·simp only [Act.put, List.setIfInBounds_toArray, List.set_cons_zero, List.set_cons_succ, i64_w, i32_w]
     rfl
    exact norm_ (by simp only [putAll, Act.put, List.setIfInBounds_toArray, List.set_cons_zero, List.set_cons_succ]) (hCont (.slice Ao16 t271.length co16, .slice Ao15 t274.length co15, gb277) _ ⟨hHeld, (rC (a := by exact Kd.R_mono HO273.out (fun _ hk => hk.2))), (rC (a := by exact Kd.R_mono HO276.out (fun _ hk => hk.2))), (bA BK268.out), (bA BK269.out), (bA BK277.out), GW277.out, GE277.out, NB268_277.out, NB277_268.out, NB269_277.out, NB277_269.out, (hA HB.out)⟩)
  rintro ⟨v272, v275, gb277⟩ w17 ⟨hS_, h0_, h1_, h2_, h3_, h4_, h5_, h6_, h7_, h8_, h9_, h10_, h11_⟩
  have n0_ : Aside0 (Kd.R (Kd.int .i64) 3 w17 w.heap.size (fun k_ => some k_ ≠ (v275 : Value).ownBlock) v272 t271) := ⟨h0_⟩
  have n1_ : Aside0 (Kd.R (Kd.int .i64) 3 w17 w.heap.size (fun k_ => some k_ ≠ (v272 : Value).ownBlock) v275 t274) := ⟨h1_⟩
  have n2_ : Aside0 (w17.heap[gb268]? = some (.cells #[.slice A0_0 l0_0.length c0_0, .slice A0_1 l0_1.length c0_1, .slice A0_2 l0_2.length c0_2] 29 (0, 0))) := ⟨h2_⟩
  have n3_ : Aside0 (w17.heap[gb269]? = some (.cells #[.slice none 0 0, .slice none 0 0, .slice none 0 0] 29 (0, 0))) := ⟨h3_⟩
  have n4_ : Aside0 (w17.heap[gb277]? = some (.cells #[.slice none 0 0, .slice none 0 0, .slice none 0 0] 29 (0, 0))) := ⟨h4_⟩
  have n5_ : Aside0 (w.heap.size ≤ gb277) := ⟨h5_⟩
  have n6_ : Aside0 (w.heap.size ≤ gb277) := ⟨h6_⟩
  have n7_ : Aside0 (gb268 ≠ gb277) := ⟨h7_⟩
  have n8_ : Aside0 (gb277 ≠ gb268) := ⟨h8_⟩
  have n9_ : Aside0 (gb269 ≠ gb277) := ⟨h9_⟩
  have n10_ : Aside0 (gb277 ≠ gb269) := ⟨h10_⟩
  have n11_ : Aside0 (Below w.heap.size w w17) := ⟨h11_⟩
  clear BK268
  clear BK269
  clear HB
  clear h0_ h1_ h2_ h3_ h4_ h5_ h6_ h7_ h8_ h9_ h10_ h11_
  have HO273 := n0_
  have HO276 := n1_
  have BK268 := n2_
  have BK269 := n3_
  have BK277 := n4_
  have GW277 := n5_
  have GE277 := n6_
  have NB268_277 := n7_
  have NB277_268 := n8_
  have NB269_277 := n9_
  have NB277_269 := n10_
  have HB := n11_
  clear n0_ n1_ n2_ n3_ n4_ n5_ n6_ n7_ n8_ n9_ n10_ n11_
  have hHeld : w17.cell? ⟨gb268, 0, none⟩ = some (.slice A0_0 l0_0.length c0_0) ∧ w17.cell? ⟨gb268, 1, none⟩ = some (.slice A0_1 l0_1.length c0_1) ∧ w17.cell? ⟨gb268, 2, none⟩ = some (.slice A0_2 l0_2.length c0_2) := hS_
  obtain ⟨Ao18, co18, eo18⟩ := Kd.R_slice HO276.out
  (first | subst eo18 | (injection eo18 with f1_ f2_ f3_; have f4_ := f1_.symm; have f5_ := f3_.symm; clear f1_ f2_ f3_; subst f4_; subst f5_))
  obtain ⟨Ao19, co19, eo19⟩ := Kd.R_slice HO273.out
  (first | subst eo19 | (injection eo19 with f1_ f2_ f3_; have f4_ := f1_.symm; have f5_ := f3_.symm; clear f1_ f2_ f3_; subst f4_; subst f5_))
  refine norm_ (a' := ?_) ?_ ?_
  rotate_left
  ·simp only [putAll, Act.put, List.setIfInBounds_toArray, List.set_cons_zero, List.set_cons_succ]
   rfl
  refine one_ (i := 8) (N := none) #[true, true, true, true, true, true, true, true, true] rfl rfl (one_of HT_.out (by kernel_rfl)) (by decide) (fun K hK => ?_)
  have hs20 : w17.cell? ⟨gb277, 0, none⟩ = some (.slice none 0 0) := (blk_cell BK277.out 0).trans rfl
  have hfs20 := blk_frozen BK277.out 0
  have hns20_0 := NB268_277.out
  have hns20_1 := NB269_277.out
  have hms20_0 := NB277_268.out
  have hms20_1 := NB277_269.out
  have hs21 : w17.cell? ⟨gb277, 1, none⟩ = some (.slice none 0 0) := (blk_cell BK277.out 1).trans rfl
  have hfs21 := blk_frozen BK277.out 1
  have hns21_0 := NB268_277.out
  have hns21_1 := NB269_277.out
  have hms21_0 := NB277_268.out
  have hms21_1 := NB277_269.out
  have hs22 : w17.cell? ⟨gb277, 2, none⟩ = some (.slice none 0 0) := (blk_cell BK277.out 2).trans rfl
  have hfs22 := blk_frozen BK277.out 2
  have hns22_0 := NB268_277.out
  have hns22_1 := NB269_277.out
  have hms22_0 := NB277_268.out
  have hms22_1 := NB277_269.out
  refine skip_ (w1 := ?_) (by rfl) rfl ?_ ?_
  rotate_left
  ·go_simp
   rfl
  refine hK.out _ _ ⟨((cell_far (p := ⟨gb277, _, none⟩) NB268_277.out _).trans (((cell_far (p := ⟨gb277, _, none⟩) NB268_277.out _).trans (((cell_far (p := ⟨gb277, _, none⟩) NB268_277.out _).trans (hHeld.1)))))), ((cell_far (p := ⟨gb277, _, none⟩) NB268_277.out _).trans (((cell_far (p := ⟨gb277, _, none⟩) NB268_277.out _).trans (((cell_far (p := ⟨gb277, _, none⟩) NB268_277.out _).trans (hHeld.2.1)))))), ((cell_far (p := ⟨gb277, _, none⟩) NB268_277.out _).trans (((cell_far (p := ⟨gb277, _, none⟩) NB268_277.out _).trans (((cell_far (p := ⟨gb277, _, none⟩) NB268_277.out _).trans (hHeld.2.2))))))⟩ (fun hHeld => ?_)
  clear hK K
  refine done_ (done_of HT_.out (by kernel_rfl)) ?_
  have hnb23 := NB268_277.out
  have hnc23 := NB277_268.out
  have hcz24_0 : w17.cell? ⟨gb268, 0, none⟩ = some (.slice A0_0 l0_0.length c0_0) := (blk_cell BK268.out 0).trans rfl
  have hcz24_1 : w17.cell? ⟨gb268, 1, none⟩ = some (.slice A0_1 l0_1.length c0_1) := (blk_cell BK268.out 1).trans rfl
  have hcz24_2 : w17.cell? ⟨gb268, 2, none⟩ = some (.slice A0_2 l0_2.length c0_2) := (blk_cell BK268.out 2).trans rfl
  have hfz24_0 := blk_frozen BK268.out 0
  have hfz24_1 := blk_frozen BK268.out 1
  have hfz24_2 := blk_frozen BK268.out 2
  try go_wp2
  go_loopg [5, 22] k (fun kq v5 v22 w' => ∃ (x5_1 : List Int) (x22_1 : Int) (x278000_1 : List (S50)) (u278000 : Value), v22 = .int .i64 x22_1 ∧ Aside0 (impl_MendBook.l0 kq x5_1 l0_0 (l0_0.length : Int) x22_1 x278000_1 t271 t274 = some (r1, r2, r3, r4)) ∧ Aside0 (kq ≤ k) ∧ Aside0 (Kd.R (Kd.int .i64) 3 w' w.heap.size (fun k_ => some k_ ≠ ((.slice Ao19 t271.length co19) : Value).ownBlock ∧ some k_ ≠ ((.slice Ao18 t274.length co18) : Value).ownBlock) v5 x5_1) ∧ Aside0 (Kd.R k50 50 w' w.heap.size (fun _ => True) u278000 x278000_1) ∧ Aside0 (Kd.R (Kd.int .i64) 3 w' w.heap.size (fun k_ => some k_ ≠ (v5 : Value).ownBlock ∧ some k_ ≠ ((.slice Ao18 t274.length co18) : Value).ownBlock) (.slice Ao19 t271.length co19) t271) ∧ Aside0 (Kd.R (Kd.int .i64) 3 w' w.heap.size (fun k_ => some k_ ≠ (v5 : Value).ownBlock ∧ some k_ ≠ ((.slice Ao19 t271.length co19) : Value).ownBlock) (.slice Ao18 t274.length co18) t274) ∧ Aside0 (w'.heap[gb268]? = some (.cells #[(.slice A0_0 l0_0.length c0_0), (.slice A0_1 l0_1.length c0_1), (.slice A0_2 l0_2.length c0_2)] 29 (0, 0))) ∧ Aside0 (w'.heap[gb269]? = some (.cells #[(.slice none 0 0), (.slice none 0 0), (.slice none 0 0)] 29 (0, 0))) ∧ Aside0 (w'.heap[gb277]? = some (.cells #[u278000, (.slice Ao19 t271.length co19), (.slice Ao18 t274.length co18)] 29 (0, 0))) ∧ Aside0 (Below w.heap.size w w'))
  case atStart => exact ⟨(([] : List Int)), (0), (([] : List (S50))), (.slice none 0 0), rs, H', ⟨Nat.le_refl _⟩, ⟨by first | exact Kd.R_nil _ _ _ _ _ | exact Kd.N_nil _ _ _ _ _ | exact Kd.V_nil _ _ _ _ _ | exact Kd.Q_nil _ _ _ _ _ | exact Kd.S_nil _ _ _ _ _⟩, ⟨by first | exact Kd.R_nil _ _ _ _ _ | exact Kd.N_nil _ _ _ _ _ | exact Kd.V_nil _ _ _ _ _ | exact Kd.Q_nil _ _ _ _ _ | exact Kd.S_nil _ _ _ _ _⟩, ⟨by refine rC (a := ?_); exact Kd.R_mono (Kd.R_far (p := ⟨gb277, 2, none⟩) (Kd.R_far (p := ⟨gb277, 1, none⟩) (Kd.R_far (p := ⟨gb277, 0, none⟩) (Kd.R_types HO273.out BK277.out (by decide)) (fun _ hk => hk.2) (.slice none 0 0)) (fun _ hk => hk.2) (.slice Ao19 t271.length co19)) (fun _ hk => hk.2) (.slice Ao18 t274.length co18)) (fun _ hk => ⟨(by simp [Value.ownBlock]), hk.1⟩)⟩, ⟨by refine rC (a := ?_); exact Kd.R_mono (Kd.R_far (p := ⟨gb277, 2, none⟩) (Kd.R_far (p := ⟨gb277, 1, none⟩) (Kd.R_far (p := ⟨gb277, 0, none⟩) (Kd.R_types HO276.out BK277.out (by decide)) (fun _ hk => hk.2) (.slice none 0 0)) (fun _ hk => hk.2) (.slice Ao19 t271.length co19)) (fun _ hk => hk.2) (.slice Ao18 t274.length co18)) (fun _ hk => ⟨(by simp [Value.ownBlock]), hk.1⟩)⟩, ⟨by refine bC (a := ?_); refine blk_far ?_ NB268_277.out _; refine bC (a := ?_); refine blk_far ?_ NB268_277.out _; refine bC (a := ?_); refine blk_far ?_ NB268_277.out _; refine bC (a := ?_); exact BK268.out⟩, ⟨by refine bC (a := ?_); refine blk_far ?_ NB269_277.out _; refine bC (a := ?_); refine blk_far ?_ NB269_277.out _; refine bC (a := ?_); refine blk_far ?_ NB269_277.out _; refine bC (a := ?_); exact BK269.out⟩, ⟨by refine bC (a := ?_); refine blk_put (cs := #[.slice none 0 0, .slice Ao19 t271.length co19, .slice none 0 0]) ?_ 2 _ rfl; refine bC (a := ?_); refine blk_put (cs := #[.slice none 0 0, .slice none 0 0, .slice none 0 0]) ?_ 1 _ rfl; refine bC (a := ?_); refine blk_put (cs := #[.slice none 0 0, .slice none 0 0, .slice none 0 0]) ?_ 0 _ rfl; refine bC (a := ?_); exact BK277.out⟩, ⟨hA HB.out⟩⟩
  case round =>
   clear H'
   try clear c1
   try clear c2
   try clear p2
   try clear c3
   try clear c4
   try clear c8
   try clear c12
   try clear c23
   try clear hcz24_0
   try clear hcz24_1
   try clear hcz24_2
   try clear hcz9_0
   try clear hcz9_1
   try clear hcz9_2
   try clear hfz24_0
   try clear hfz24_1
   try clear hfz24_2
   try clear hfz9_0
   try clear hfz9_1
   try clear hfz9_2
   obtain ⟨x5_1, x22_1, x278000_1, u278000, rfl, HA, HK1, HO_5, HO_278000, HO_278001, HO_278002, BK268, BK269, BK277, HB⟩ := hrel
   cases gk with
   | zero => exact absurd HA.out (by simp [impl_MendBook.l0])
   | succ k1 =>
    have H := HA.out
    clear HA
    simp only [impl_MendBook.l0] at H
    by_cases c25 : x22_1 < (l0_0.length : Int)
    ·rw [if_pos c25] at H
     have c25b0 : decide (x22_1 < (l0_0.length : Int)) = true := decide_eq_true c25
     clear c25
     by_cases c26 : 0 ≤ x22_1
     ·rw [if_pos c26] at H
      have c26b0 : decide (0 ≤ x22_1) = true := decide_eq_true c26
      clear c26
      by_cases c27 : x22_1 < (l0_0.length : Int)
      ·rw [if_pos c27] at H
       have c27b0 : decide (x22_1 < (l0_0.length : Int)) = true := decide_eq_true c27
       clear c27
       by_cases c28 : ((rd_T50 l0_0 x22_1).f0) = ((rd_T50 l0_0 x22_1).f1)
       ·rw [if_pos c28] at H
        have c28b0 : (((rd_T50 l0_0 x22_1).f0) == ((rd_T50 l0_0 x22_1).f1)) = true := beq_iff_eq.mpr c28
        have c28b1 : (((rd_T50 l0_0 x22_1).f0) != ((rd_T50 l0_0 x22_1).f1)) = false := bne_eq_false_iff_eq.mpr c28
        clear c28
        by_cases c29 : x5_1.length < 17592186044416
        ·rw [if_pos c29] at H
         have LMc29 := Aside0.mk c29
         clear c29
         obtain ⟨y280, hy280⟩ : ∃ y_ : List Int, y_ = (x5_1 ++ [x22_1]) := ⟨_, rfl⟩
         replace H : (impl_MendBook.l0 k1 y280 l0_0 (l0_0.length : Int) (wrap64 (x22_1 + 1)) x278000_1 t271 t274) = some (r1, r2, r3, r4) := by first | (rw [hy280]; with_reducible exact H) | (have H2_ := (Option.bind_some _ _).symm.trans H; rw [hy280]; with_reducible exact H2_) | (have H2_ := (Option.bind_some _ _).symm.trans H; with_reducible exact H2_) | with_reducible exact H | (rw [hy280]; exact H) | exact H
         have Ny280 := Aside0.mk hy280
         clear hy280
         have H' := Aside0.mk H
         clear H
         have p278 : 0 ≤ (x22_1 : Int) := of_decide_eq_true sm
         have q278 : x22_1 < (l0_0.length : Int) := of_decide_eq_true sm
         obtain ⟨ad278, e278, hx278_0, hx278_1, hx278_2⟩ := at_T50 HR0_0.out x22_1 p278 q278
         cases e278
         try (replace hx278_0 := (HB.out.cell (World.block_lt_of_cell? w _ hx278_0)).trans hx278_0)
         try (replace hx278_1 := (HB.out.cell (World.block_lt_of_cell? w _ hx278_1)).trans hx278_1)
         try (replace hx278_2 := (HB.out.cell (World.block_lt_of_cell? w _ hx278_2)).trans hx278_2)
         replace p278 := eq_true p278
         replace q278 := eq_true q278
         go_wp2_with (first | ((with_reducible refine gate_dst (N := 7) rfl ?_); refine box_event ?hg (N := 7) ?hd (cs := #[.int .i64 0, .int .i64 0, .int .i64 0]) (t := 50) ?hr ?_; (case hd => rfl); (case hg => rfl); (case hr => first | (go_simp; done) | (go_simp; rfl)); intro gb279 hg w30 hbox hb; have n0_ := Aside0.mk (Kd.R_below (rA HO_5.out) hb); have n1_ := Aside0.mk (Kd.R_below (Kd.R_elderB (rA HO_278000.out) gb279 (Nat.le_of_eq hg.symm)) hb); have n2_ := Aside0.mk (Kd.R_below (rA HO_278001.out) hb); have n3_ := Aside0.mk (Kd.R_below (rA HO_278002.out) hb); have n4_ := Aside0.mk (bB BK268.out hb); have n5_ := Aside0.mk (bB BK269.out hb); have n6_ := Aside0.mk (bB BK277.out hb); have n7_ := Aside0.mk (below_step (hA HB.out) hb); have n8_ := Aside0.mk (hbox); have n9_ := Aside0.mk ((by rw [hg]; exact (below_size (hA HB.out)) : w.heap.size ≤ gb279)); have n10_ := Aside0.mk ((by rw [hg]; exact (below_size (hA HB.out)) : w.heap.size ≤ gb279)); have n11_ := Aside0.mk ((by rw [hg]; exact Nat.ne_of_lt (blk_lt (g := gb268) (o := .cells #[.slice (some ad278) l0_0.length c0_0, .slice A0_1 l0_1.length c0_1, .slice A0_2 l0_2.length c0_2] 29 (0, 0)) (bA BK268.out)) : gb268 ≠ gb279)); have n12_ := Aside0.mk ((by rw [hg]; exact Nat.ne_of_gt (blk_lt (g := gb268) (o := .cells #[.slice (some ad278) l0_0.length c0_0, .slice A0_1 l0_1.length c0_1, .slice A0_2 l0_2.length c0_2] 29 (0, 0)) (bA BK268.out)) : gb279 ≠ gb268)); have n13_ := Aside0.mk ((by rw [hg]; exact Nat.ne_of_lt (blk_lt (g := gb269) (o := .cells #[.slice none 0 0, .slice none 0 0, .slice none 0 0] 29 (0, 0)) (bA BK269.out)) : gb269 ≠ gb279)); have n14_ := Aside0.mk ((by rw [hg]; exact Nat.ne_of_gt (blk_lt (g := gb269) (o := .cells #[.slice none 0 0, .slice none 0 0, .slice none 0 0] 29 (0, 0)) (bA BK269.out)) : gb279 ≠ gb269)); have n15_ := Aside0.mk ((by rw [hg]; exact Nat.ne_of_lt (blk_lt (g := gb277) (o := .cells #[u278000, .slice Ao19 t271.length co19, .slice Ao18 t274.length co18] 29 (0, 0)) (bA BK277.out)) : gb277 ≠ gb279)); have n16_ := Aside0.mk ((by rw [hg]; exact Nat.ne_of_gt (blk_lt (g := gb277) (o := .cells #[u278000, .slice Ao19 t271.length co19, .slice Ao18 t274.length co18] 29 (0, 0)) (bA BK277.out)) : gb279 ≠ gb277)); clear HO_5; clear HO_278000; clear HO_278001; clear HO_278002; clear BK268; clear BK269; clear BK277; clear HB; have HO_5 := n0_; have HO_278000 := n1_; have HO_278001 := n2_; have HO_278002 := n3_; have BK268 := n4_; have BK269 := n5_; have BK277 := n6_; have HB := n7_; have BK279 := n8_; have GW279 := n9_; have GE279 := n10_; have NB268_279 := n11_; have NB279_268 := n12_; have NB269_279 := n13_; have NB279_269 := n14_; have NB277_279 := n15_; have NB279_277 := n16_; clear n0_ n1_ n2_ n3_ n4_ n5_ n6_ n7_ n8_ n9_ n10_ n11_ n12_ n13_ n14_ n15_ n16_; clear hb hbox hg; have hnb31 := NB279_268.out; have hnc31 := NB268_279.out; have hnb32 := NB279_269.out; have hnc32 := NB269_279.out; have hnb33 := NB279_277.out; have hnc33 := NB277_279.out; have hcz34_0 : w30.cell? ⟨gb279, 0, none⟩ = some (.int .i64 0) := (blk_cell BK279.out 0).trans rfl; have hcz34_1 : w30.cell? ⟨gb279, 1, none⟩ = some (.int .i64 0) := (blk_cell BK279.out 1).trans rfl; have hcz34_2 : w30.cell? ⟨gb279, 2, none⟩ = some (.int .i64 0) := (blk_cell BK279.out 2).trans rfl; have hfz34_0 := blk_frozen BK279.out 0; have hfz34_1 := blk_frozen BK279.out 1; have hfz34_2 := blk_frozen BK279.out 2) | ((with_reducible refine gate_builtin (b := .append) (xs := #[.tmp 39, .tmp 41]) rfl ?_); at_builtin; refine Kd.R_append (Kd.int .i64) (w0 := w) w.heap.size rfl (.tmp 39) (.tmp 41) 23 3 (.int .i64 0) 8 rfl Try.underlying23 info3 rfl (by decide) (by omega) u5 x5_1 x22_1 [.int .i64 x22_1] (fun k_ => some k_ ≠ (.slice Ao19 t271.length co19 : Value).ownBlock ∧ some k_ ≠ (.slice Ao18 t274.length co18 : Value).ownBlock) (fun _ => False) rfl (by first | (go_simp; done) | (go_simp; rfl)) ?aP (fun _ hk => hk.elim) ?aF ?aO ?aB ?aS ?aL ?_; (case aP => exact rfl); (case aB => exact (hA HB.out)); (case aF => exact (fun k_ hk => ⟨Kd.fresh' (Kd.R_lt (rC (a := by exact (Kd.R_mono (Kd.R_far (p := ⟨gb279, 2, none⟩) (Kd.R_far (p := ⟨gb279, 1, none⟩) (Kd.R_far (p := ⟨gb279, 0, none⟩) (Kd.R_types HO_278001.out BK279.out (by decide)) (fun _ hk => hk.2) (.int .i64 ((rd_T50 l0_0 x22_1).f0))) (fun _ hk => hk.2) (.int .i64 ((rd_T50 l0_0 x22_1).f1))) (fun _ hk => hk.2) (.int .i64 ((rd_T50 l0_0 x22_1).f2))) (fun _ h_ => h_.1))))) k_ hk, Kd.fresh' (Kd.R_lt (rC (a := by exact (Kd.R_mono (Kd.R_far (p := ⟨gb279, 2, none⟩) (Kd.R_far (p := ⟨gb279, 1, none⟩) (Kd.R_far (p := ⟨gb279, 0, none⟩) (Kd.R_types HO_278002.out BK279.out (by decide)) (fun _ hk => hk.2) (.int .i64 ((rd_T50 l0_0 x22_1).f0))) (fun _ hk => hk.2) (.int .i64 ((rd_T50 l0_0 x22_1).f1))) (fun _ hk => hk.2) (.int .i64 ((rd_T50 l0_0 x22_1).f2))) (fun _ h_ => h_.1))))) k_ hk⟩)); (case aO => exact (rC (a := by exact Kd.R_mono (Kd.R_far (p := ⟨gb279, 2, none⟩) (Kd.R_far (p := ⟨gb279, 1, none⟩) (Kd.R_far (p := ⟨gb279, 0, none⟩) (Kd.R_types HO_5.out BK279.out (by decide)) (fun _ hk => hk.2) (.int .i64 ((rd_T50 l0_0 x22_1).f0))) (fun _ hk => hk.2) (.int .i64 ((rd_T50 l0_0 x22_1).f1))) (fun _ hk => hk.2) (.int .i64 ((rd_T50 l0_0 x22_1).f2))) (fun _ hk => ⟨hk.1.1, hk.1.2⟩)))); (case aS => exact (below_size (hA HB.out))); (case aL => have := LMc29.out; omega); intro v281 w35 ho hb hg hat; rw [← Ny280.out] at ho; have n0_ := Aside0.mk (Kd.R_over' (rC (a := by exact (Kd.R_mono (Kd.R_far (p := ⟨gb279, 2, none⟩) (Kd.R_far (p := ⟨gb279, 1, none⟩) (Kd.R_far (p := ⟨gb279, 0, none⟩) (Kd.R_mono HO_278000.out (fun k_ hk => (⟨hk, hk.2⟩ : _ ∧ k_ ≠ gb279))) (fun _ hk => hk.2) (.int .i64 ((rd_T50 l0_0 x22_1).f0))) (fun _ hk => hk.2) (.int .i64 ((rd_T50 l0_0 x22_1).f1))) (fun _ hk => hk.2) (.int .i64 ((rd_T50 l0_0 x22_1).f2))) (fun _ h_ => h_.1)))) (Kd.R_typed (rC (a := by exact (Kd.R_mono (Kd.R_far (p := ⟨gb279, 2, none⟩) (Kd.R_far (p := ⟨gb279, 1, none⟩) (Kd.R_far (p := ⟨gb279, 0, none⟩) (Kd.R_types HO_5.out BK279.out (by decide)) (fun _ hk => hk.2) (.int .i64 ((rd_T50 l0_0 x22_1).f0))) (fun _ hk => hk.2) (.int .i64 ((rd_T50 l0_0 x22_1).f1))) (fun _ hk => hk.2) (.int .i64 ((rd_T50 l0_0 x22_1).f2))) (fun _ h_ => h_.1))))) (by decide) hg); have n1_ := Aside0.mk (Kd.R_after (ok := (fun k_ => some k_ ≠ (.slice Ao18 t274.length co18 : Value).ownBlock)) (rC (a := by exact Kd.R_mono (Kd.R_far (p := ⟨gb279, 2, none⟩) (Kd.R_far (p := ⟨gb279, 1, none⟩) (Kd.R_far (p := ⟨gb279, 0, none⟩) (Kd.R_types HO_278001.out BK279.out (by decide)) (fun _ hk => hk.2) (.int .i64 ((rd_T50 l0_0 x22_1).f0))) (fun _ hk => hk.2) (.int .i64 ((rd_T50 l0_0 x22_1).f1))) (fun _ hk => hk.2) (.int .i64 ((rd_T50 l0_0 x22_1).f2))) (fun _ hk => ⟨hk.1.2, hk.1.1⟩))) hg hat); have n2_ := Aside0.mk (Kd.R_after (ok := (fun k_ => some k_ ≠ (.slice Ao19 t271.length co19 : Value).ownBlock)) (rC (a := by exact Kd.R_mono (Kd.R_far (p := ⟨gb279, 2, none⟩) (Kd.R_far (p := ⟨gb279, 1, none⟩) (Kd.R_far (p := ⟨gb279, 0, none⟩) (Kd.R_types HO_278002.out BK279.out (by decide)) (fun _ hk => hk.2) (.int .i64 ((rd_T50 l0_0 x22_1).f0))) (fun _ hk => hk.2) (.int .i64 ((rd_T50 l0_0 x22_1).f1))) (fun _ hk => hk.2) (.int .i64 ((rd_T50 l0_0 x22_1).f2))) (fun _ hk => ⟨hk.1.2, hk.1.1⟩))) hg hat); have n3_ := Aside0.mk (blk_grown (g := gb268) (o := .cells #[.slice (some ad278) l0_0.length c0_0, .slice A0_1 l0_1.length c0_1, .slice A0_2 l0_2.length c0_2] 29 (0, 0)) (by refine bC (a := ?_); refine blk_far ?_ NB268_279.out _; refine bC (a := ?_); refine blk_far ?_ NB268_279.out _; refine bC (a := ?_); refine blk_far ?_ NB268_279.out _; refine bC (a := ?_); exact BK268.out) hg (Kd.R_ne HO_5.out BK268.out (by decide))); have n4_ := Aside0.mk (blk_grown (g := gb269) (o := .cells #[.slice none 0 0, .slice none 0 0, .slice none 0 0] 29 (0, 0)) (by refine bC (a := ?_); refine blk_far ?_ NB269_279.out _; refine bC (a := ?_); refine blk_far ?_ NB269_279.out _; refine bC (a := ?_); refine blk_far ?_ NB269_279.out _; refine bC (a := ?_); exact BK269.out) hg (Kd.R_ne HO_5.out BK269.out (by decide))); have n5_ := Aside0.mk (blk_grown (g := gb277) (o := .cells #[u278000, .slice Ao19 t271.length co19, .slice Ao18 t274.length co18] 29 (0, 0)) (by refine bC (a := ?_); refine blk_far ?_ NB277_279.out _; refine bC (a := ?_); refine blk_far ?_ NB277_279.out _; refine bC (a := ?_); refine blk_far ?_ NB277_279.out _; refine bC (a := ?_); exact BK277.out) hg (Kd.R_ne HO_5.out BK277.out (by decide))); have n6_ := Aside0.mk (blk_grown (g := gb279) (o := .cells #[.int .i64 ((rd_T50 l0_0 x22_1).f0), .int .i64 ((rd_T50 l0_0 x22_1).f1), .int .i64 ((rd_T50 l0_0 x22_1).f2)] 50 (0, 0)) (by refine bC (a := ?_); refine blk_put (cs := #[.int .i64 ((rd_T50 l0_0 x22_1).f0), .int .i64 ((rd_T50 l0_0 x22_1).f1), .int .i64 0]) ?_ 2 _ rfl; refine bC (a := ?_); refine blk_put (cs := #[.int .i64 ((rd_T50 l0_0 x22_1).f0), .int .i64 0, .int .i64 0]) ?_ 1 _ rfl; refine bC (a := ?_); refine blk_put (cs := #[.int .i64 0, .int .i64 0, .int .i64 0]) ?_ 0 _ rfl; refine bC (a := ?_); exact BK279.out) hg (Kd.R_ne HO_5.out BK279.out (by decide))); have n7_ := Aside0.mk (hb); have n8_ := Aside0.mk (ho); clear HO_278000; clear HO_278001; clear HO_278002; clear BK268; clear BK269; clear BK277; clear BK279; clear HB; clear HO_5; have HO_278000 := n0_; have HO_278001 := n1_; have HO_278002 := n2_; have BK268 := n3_; have BK269 := n4_; have BK277 := n5_; have BK279 := n6_; have HB := n7_; have HO282 := n8_; clear n0_ n1_ n2_ n3_ n4_ n5_ n6_ n7_ n8_; clear ho hb hg hat))
         go_roundg k1
         case measure => have := HK1.out; omega
         case rel => exact ⟨(y280), (wrap64 (x22_1 + 1)), (x278000_1), (u278000), rs, H', ⟨by have := HK1.out; omega⟩, ⟨by refine rC (a := ?_); exact HO282.out⟩, ⟨by refine rC (a := ?_); exact Kd.R_mono HO_278000.out (fun _ hk => trivial)⟩, ⟨by refine rC (a := ?_); exact Kd.R_mono HO_278001.out (fun _ hk => ⟨hk.2, hk.1⟩)⟩, ⟨by refine rC (a := ?_); exact Kd.R_mono HO_278002.out (fun _ hk => ⟨hk.2, hk.1⟩)⟩, ⟨by refine bC (a := ?_); exact BK268.out⟩, ⟨by refine bC (a := ?_); exact BK269.out⟩, ⟨by refine bC (a := ?_); exact BK277.out⟩, ⟨hA HB.out⟩⟩
        ·rw [if_neg c29] at H
         exact absurd H (by simp)
       ·rw [if_neg c28] at H
        have c28b0 : (((rd_T50 l0_0 x22_1).f0) == ((rd_T50 l0_0 x22_1).f1)) = false := beq_eq_false_iff_ne.mpr c28
        have c28b1 : (((rd_T50 l0_0 x22_1).f0) != ((rd_T50 l0_0 x22_1).f1)) = true := bne_iff_ne.mpr c28
        replace H := Option.bind_eq_some_iff.mp H
        obtain ⟨t283, A360, H⟩ := H
        replace H : (if t283 = true then (if x5_1.length < 17592186044416 then (impl_MendBook.l0 k1 (x5_1 ++ [x22_1]) l0_0 (l0_0.length : Int) (wrap64 (x22_1 + 1)) x278000_1 t271 t274) else (none)) else (if x278000_1.length < 5864062014805 then (impl_MendBook.l0 k1 x5_1 l0_0 (l0_0.length : Int) (wrap64 (x22_1 + 1)) (x278000_1 ++ [(⟨(rd_T50 l0_0 x22_1).f0, (rd_T50 l0_0 x22_1).f1, (rd_T50 l0_0 x22_1).f2⟩ : S50)]) t271 t274) else (none))) = some (r1, r2, r3, r4) := H
        have A36 := Aside0.mk A360
        clear A360
        by_cases c37 : t283 = true
        ·subst c37
         have H1 : (if x5_1.length < 17592186044416 then (impl_MendBook.l0 k1 (x5_1 ++ [x22_1]) l0_0 (l0_0.length : Int) (wrap64 (x22_1 + 1)) x278000_1 t271 t274) else (none)) = some (r1, r2, r3, r4) := by rw [if_pos rfl] at H; exact H
         clear H
         have H := H1
         clear H1
         by_cases c38 : x5_1.length < 17592186044416
         ·rw [if_pos c38] at H
          have LMc38 := Aside0.mk c38
          clear c38
          obtain ⟨y284, hy284⟩ : ∃ y_ : List Int, y_ = (x5_1 ++ [x22_1]) := ⟨_, rfl⟩
          replace H : (impl_MendBook.l0 k1 y284 l0_0 (l0_0.length : Int) (wrap64 (x22_1 + 1)) x278000_1 t271 t274) = some (r1, r2, r3, r4) := by first | (rw [hy284]; with_reducible exact H) | (have H2_ := (Option.bind_some _ _).symm.trans H; rw [hy284]; with_reducible exact H2_) | (have H2_ := (Option.bind_some _ _).symm.trans H; with_reducible exact H2_) | with_reducible exact H | (rw [hy284]; exact H) | exact H
          have Ny284 := Aside0.mk hy284
          clear hy284
          have H' := Aside0.mk H
          clear H
          have p278 : 0 ≤ (x22_1 : Int) := of_decide_eq_true sm
          have q278 : x22_1 < (l0_0.length : Int) := of_decide_eq_true sm
          obtain ⟨ad278, e278, hx278_0, hx278_1, hx278_2⟩ := at_T50 HR0_0.out x22_1 p278 q278
          cases e278
          try (replace hx278_0 := (HB.out.cell (World.block_lt_of_cell? w _ hx278_0)).trans hx278_0)
          try (replace hx278_1 := (HB.out.cell (World.block_lt_of_cell? w _ hx278_1)).trans hx278_1)
          try (replace hx278_2 := (HB.out.cell (World.block_lt_of_cell? w _ hx278_2)).trans hx278_2)
          replace p278 := eq_true p278
          replace q278 := eq_true q278
          go_wp2_with (first | ((with_reducible refine gate_dst (N := 7) rfl ?_); refine box_event ?hg (N := 7) ?hd (cs := #[.int .i64 0, .int .i64 0, .int .i64 0]) (t := 50) ?hr ?_; (case hd => rfl); (case hg => rfl); (case hr => first | (go_simp; done) | (go_simp; rfl)); intro gb279 hg w39 hbox hb; have n0_ := Aside0.mk (Kd.R_below (rA HO_5.out) hb); have n1_ := Aside0.mk (Kd.R_below (Kd.R_elderB (rA HO_278000.out) gb279 (Nat.le_of_eq hg.symm)) hb); have n2_ := Aside0.mk (Kd.R_below (rA HO_278001.out) hb); have n3_ := Aside0.mk (Kd.R_below (rA HO_278002.out) hb); have n4_ := Aside0.mk (bB BK268.out hb); have n5_ := Aside0.mk (bB BK269.out hb); have n6_ := Aside0.mk (bB BK277.out hb); have n7_ := Aside0.mk (below_step (hA HB.out) hb); have n8_ := Aside0.mk (hbox); have n9_ := Aside0.mk ((by rw [hg]; exact (below_size (hA HB.out)) : w.heap.size ≤ gb279)); have n10_ := Aside0.mk ((by rw [hg]; exact (below_size (hA HB.out)) : w.heap.size ≤ gb279)); have n11_ := Aside0.mk ((by rw [hg]; exact Nat.ne_of_lt (blk_lt (g := gb268) (o := .cells #[.slice (some ad278) l0_0.length c0_0, .slice A0_1 l0_1.length c0_1, .slice A0_2 l0_2.length c0_2] 29 (0, 0)) (bA BK268.out)) : gb268 ≠ gb279)); have n12_ := Aside0.mk ((by rw [hg]; exact Nat.ne_of_gt (blk_lt (g := gb268) (o := .cells #[.slice (some ad278) l0_0.length c0_0, .slice A0_1 l0_1.length c0_1, .slice A0_2 l0_2.length c0_2] 29 (0, 0)) (bA BK268.out)) : gb279 ≠ gb268)); have n13_ := Aside0.mk ((by rw [hg]; exact Nat.ne_of_lt (blk_lt (g := gb269) (o := .cells #[.slice none 0 0, .slice none 0 0, .slice none 0 0] 29 (0, 0)) (bA BK269.out)) : gb269 ≠ gb279)); have n14_ := Aside0.mk ((by rw [hg]; exact Nat.ne_of_gt (blk_lt (g := gb269) (o := .cells #[.slice none 0 0, .slice none 0 0, .slice none 0 0] 29 (0, 0)) (bA BK269.out)) : gb279 ≠ gb269)); have n15_ := Aside0.mk ((by rw [hg]; exact Nat.ne_of_lt (blk_lt (g := gb277) (o := .cells #[u278000, .slice Ao19 t271.length co19, .slice Ao18 t274.length co18] 29 (0, 0)) (bA BK277.out)) : gb277 ≠ gb279)); have n16_ := Aside0.mk ((by rw [hg]; exact Nat.ne_of_gt (blk_lt (g := gb277) (o := .cells #[u278000, .slice Ao19 t271.length co19, .slice Ao18 t274.length co18] 29 (0, 0)) (bA BK277.out)) : gb279 ≠ gb277)); clear HO_5; clear HO_278000; clear HO_278001; clear HO_278002; clear BK268; clear BK269; clear BK277; clear HB; have HO_5 := n0_; have HO_278000 := n1_; have HO_278001 := n2_; have HO_278002 := n3_; have BK268 := n4_; have BK269 := n5_; have BK277 := n6_; have HB := n7_; have BK279 := n8_; have GW279 := n9_; have GE279 := n10_; have NB268_279 := n11_; have NB279_268 := n12_; have NB269_279 := n13_; have NB279_269 := n14_; have NB277_279 := n15_; have NB279_277 := n16_; clear n0_ n1_ n2_ n3_ n4_ n5_ n6_ n7_ n8_ n9_ n10_ n11_ n12_ n13_ n14_ n15_ n16_; clear hb hbox hg; have hnb40 := NB279_268.out; have hnc40 := NB268_279.out; have hnb41 := NB279_269.out; have hnc41 := NB269_279.out; have hnb42 := NB279_277.out; have hnc42 := NB277_279.out; have hcz43_0 : w39.cell? ⟨gb279, 0, none⟩ = some (.int .i64 0) := (blk_cell BK279.out 0).trans rfl; have hcz43_1 : w39.cell? ⟨gb279, 1, none⟩ = some (.int .i64 0) := (blk_cell BK279.out 1).trans rfl; have hcz43_2 : w39.cell? ⟨gb279, 2, none⟩ = some (.int .i64 0) := (blk_cell BK279.out 2).trans rfl; have hfz43_0 := blk_frozen BK279.out 0; have hfz43_1 := blk_frozen BK279.out 1; have hfz43_2 := blk_frozen BK279.out 2; have hnb44 := NB277_268.out; have hnc44 := NB268_277.out; have hnb45 := NB277_269.out; have hnc45 := NB269_277.out; have hcz46_0 : w39.cell? ⟨gb277, 0, none⟩ = some (u278000) := (blk_cell BK277.out 0).trans rfl; have hcz46_1 : w39.cell? ⟨gb277, 1, none⟩ = some (.slice Ao19 t271.length co19) := (blk_cell BK277.out 1).trans rfl; have hcz46_2 : w39.cell? ⟨gb277, 2, none⟩ = some (.slice Ao18 t274.length co18) := (blk_cell BK277.out 2).trans rfl; have hfz46_0 := blk_frozen BK277.out 0; have hfz46_1 := blk_frozen BK277.out 1; have hfz46_2 := blk_frozen BK277.out 2; obtain ⟨Ao47, co47, eo47⟩ := Kd.R_slice HO_278000.out; subst eo47) | (go_at_call 42; (with_reducible refine (impl_Talk_42.calls k1 _ _ x278000_1 ((rd_T50 l0_0 x22_1).f0) ((rd_T50 l0_0 x22_1).f1) ((rd_T50 l0_0 x22_1).f2) true _ ?side1 ?side2 A36.out).mono ?_); (case side1 => refine (Kd.R_reads' (e := 50) (base := w.heap.size) (ok := fun k_ => (True ∧ k_ ≠ gb279)) (n := x278000_1.length) (c := co47) ?_).2.2; exact (rC (a := by exact (Kd.R_mono (Kd.R_far (p := ⟨gb279, 2, none⟩) (Kd.R_far (p := ⟨gb279, 1, none⟩) (Kd.R_far (p := ⟨gb279, 0, none⟩) (Kd.R_mono HO_278000.out (fun k_ hk => (⟨hk, hk.2⟩ : _ ∧ k_ ≠ gb279))) (fun _ hk => hk.2) (.int .i64 ((rd_T50 l0_0 x22_1).f0))) (fun _ hk => hk.2) (.int .i64 ((rd_T50 l0_0 x22_1).f1))) (fun _ hk => hk.2) (.int .i64 ((rd_T50 l0_0 x22_1).f2))) (fun _ h_ => h_.1))))); (case side2 => exact (Kd.R_reads' HO_278000.out).2.1); rintro e w48 ⟨rfl, hb⟩; have n0_ := Aside0.mk (Kd.R_below (rC (a := by exact (Kd.R_mono (Kd.R_far (p := ⟨gb279, 2, none⟩) (Kd.R_far (p := ⟨gb279, 1, none⟩) (Kd.R_far (p := ⟨gb279, 0, none⟩) (Kd.R_types HO_5.out BK279.out (by decide)) (fun _ hk => hk.2) (.int .i64 ((rd_T50 l0_0 x22_1).f0))) (fun _ hk => hk.2) (.int .i64 ((rd_T50 l0_0 x22_1).f1))) (fun _ hk => hk.2) (.int .i64 ((rd_T50 l0_0 x22_1).f2))) (fun _ h_ => h_.1)))) hb); have n1_ := Aside0.mk (Kd.R_below (rC (a := by exact (Kd.R_mono (Kd.R_far (p := ⟨gb279, 2, none⟩) (Kd.R_far (p := ⟨gb279, 1, none⟩) (Kd.R_far (p := ⟨gb279, 0, none⟩) (Kd.R_mono HO_278000.out (fun k_ hk => (⟨hk, hk.2⟩ : _ ∧ k_ ≠ gb279))) (fun _ hk => hk.2) (.int .i64 ((rd_T50 l0_0 x22_1).f0))) (fun _ hk => hk.2) (.int .i64 ((rd_T50 l0_0 x22_1).f1))) (fun _ hk => hk.2) (.int .i64 ((rd_T50 l0_0 x22_1).f2))) (fun _ h_ => h_.1)))) hb); have n2_ := Aside0.mk (Kd.R_below (rC (a := by exact (Kd.R_mono (Kd.R_far (p := ⟨gb279, 2, none⟩) (Kd.R_far (p := ⟨gb279, 1, none⟩) (Kd.R_far (p := ⟨gb279, 0, none⟩) (Kd.R_types HO_278001.out BK279.out (by decide)) (fun _ hk => hk.2) (.int .i64 ((rd_T50 l0_0 x22_1).f0))) (fun _ hk => hk.2) (.int .i64 ((rd_T50 l0_0 x22_1).f1))) (fun _ hk => hk.2) (.int .i64 ((rd_T50 l0_0 x22_1).f2))) (fun _ h_ => h_.1)))) hb); have n3_ := Aside0.mk (Kd.R_below (rC (a := by exact (Kd.R_mono (Kd.R_far (p := ⟨gb279, 2, none⟩) (Kd.R_far (p := ⟨gb279, 1, none⟩) (Kd.R_far (p := ⟨gb279, 0, none⟩) (Kd.R_types HO_278002.out BK279.out (by decide)) (fun _ hk => hk.2) (.int .i64 ((rd_T50 l0_0 x22_1).f0))) (fun _ hk => hk.2) (.int .i64 ((rd_T50 l0_0 x22_1).f1))) (fun _ hk => hk.2) (.int .i64 ((rd_T50 l0_0 x22_1).f2))) (fun _ h_ => h_.1)))) hb); have n4_ := Aside0.mk (blk_below (g := gb268) (o := .cells #[.slice (some ad278) l0_0.length c0_0, .slice A0_1 l0_1.length c0_1, .slice A0_2 l0_2.length c0_2] 29 (0, 0)) (by refine bC (a := ?_); refine blk_far ?_ NB268_279.out _; refine bC (a := ?_); refine blk_far ?_ NB268_279.out _; refine bC (a := ?_); refine blk_far ?_ NB268_279.out _; refine bC (a := ?_); exact BK268.out) hb); have n5_ := Aside0.mk (blk_below (g := gb269) (o := .cells #[.slice none 0 0, .slice none 0 0, .slice none 0 0] 29 (0, 0)) (by refine bC (a := ?_); refine blk_far ?_ NB269_279.out _; refine bC (a := ?_); refine blk_far ?_ NB269_279.out _; refine bC (a := ?_); refine blk_far ?_ NB269_279.out _; refine bC (a := ?_); exact BK269.out) hb); have n6_ := Aside0.mk (blk_below (g := gb277) (o := .cells #[.slice Ao47 x278000_1.length co47, .slice Ao19 t271.length co19, .slice Ao18 t274.length co18] 29 (0, 0)) (by refine bC (a := ?_); refine blk_far ?_ NB277_279.out _; refine bC (a := ?_); refine blk_far ?_ NB277_279.out _; refine bC (a := ?_); refine blk_far ?_ NB277_279.out _; refine bC (a := ?_); exact BK277.out) hb); have n7_ := Aside0.mk (blk_below (g := gb279) (o := .cells #[.int .i64 ((rd_T50 l0_0 x22_1).f0), .int .i64 ((rd_T50 l0_0 x22_1).f1), .int .i64 ((rd_T50 l0_0 x22_1).f2)] 50 (0, 0)) (by refine bC (a := ?_); refine blk_put (cs := #[.int .i64 ((rd_T50 l0_0 x22_1).f0), .int .i64 ((rd_T50 l0_0 x22_1).f1), .int .i64 0]) ?_ 2 _ rfl; refine bC (a := ?_); refine blk_put (cs := #[.int .i64 ((rd_T50 l0_0 x22_1).f0), .int .i64 0, .int .i64 0]) ?_ 1 _ rfl; refine bC (a := ?_); refine blk_put (cs := #[.int .i64 0, .int .i64 0, .int .i64 0]) ?_ 0 _ rfl; refine bC (a := ?_); exact BK279.out) hb); have n8_ := Aside0.mk (below_step (hA HB.out) hb); clear HO_5; clear HO_278000; clear HO_278001; clear HO_278002; clear BK268; clear BK269; clear BK277; clear BK279; clear HB; have HO_5 := n0_; have HO_278000 := n1_; have HO_278001 := n2_; have HO_278002 := n3_; have BK268 := n4_; have BK269 := n5_; have BK277 := n6_; have BK279 := n7_; have HB := n8_; clear n0_ n1_ n2_ n3_ n4_ n5_ n6_ n7_ n8_; (try clear hb); (try clear hb2); (try clear hk); (try clear hi)) | ((with_reducible refine gate_builtin (b := .append) (xs := #[.tmp 39, .tmp 41]) rfl ?_); at_builtin; refine Kd.R_append (Kd.int .i64) (w0 := w) w.heap.size rfl (.tmp 39) (.tmp 41) 23 3 (.int .i64 0) 8 rfl Try.underlying23 info3 rfl (by decide) (by omega) u5 x5_1 x22_1 [.int .i64 x22_1] (fun k_ => some k_ ≠ (.slice Ao19 t271.length co19 : Value).ownBlock ∧ some k_ ≠ (.slice Ao18 t274.length co18 : Value).ownBlock) (fun _ => False) rfl rfl ?aP (fun _ hk => hk.elim) ?aF ?aO ?aB ?aS ?aL ?_; (case aP => exact rfl); (case aB => exact (hA HB.out)); (case aF => exact (fun k_ hk => ⟨Kd.fresh' (Kd.R_lt (rA HO_278001.out)) k_ hk, Kd.fresh' (Kd.R_lt (rA HO_278002.out)) k_ hk⟩)); (case aO => exact (rA HO_5.out)); (case aS => exact (below_size (hA HB.out))); (case aL => have := LMc38.out; omega); intro v285 w49 ho hb hg hat; rw [← Ny284.out] at ho; have n0_ := Aside0.mk (Kd.R_over' (rA HO_278000.out) (Kd.R_typed (rA HO_5.out)) (by decide) hg); have n1_ := Aside0.mk (Kd.R_after (ok := (fun k_ => some k_ ≠ (.slice Ao18 t274.length co18 : Value).ownBlock)) (rC (a := by exact Kd.R_mono HO_278001.out (fun _ hk => ⟨hk.2, hk.1⟩))) hg hat); have n2_ := Aside0.mk (Kd.R_after (ok := (fun k_ => some k_ ≠ (.slice Ao19 t271.length co19 : Value).ownBlock)) (rC (a := by exact Kd.R_mono HO_278002.out (fun _ hk => ⟨hk.2, hk.1⟩))) hg hat); have n3_ := Aside0.mk (blk_grown (g := gb268) (o := .cells #[.slice (some ad278) l0_0.length c0_0, .slice A0_1 l0_1.length c0_1, .slice A0_2 l0_2.length c0_2] 29 (0, 0)) (bA BK268.out) hg (Kd.R_ne HO_5.out BK268.out (by decide))); have n4_ := Aside0.mk (blk_grown (g := gb269) (o := .cells #[.slice none 0 0, .slice none 0 0, .slice none 0 0] 29 (0, 0)) (bA BK269.out) hg (Kd.R_ne HO_5.out BK269.out (by decide))); have n5_ := Aside0.mk (blk_grown (g := gb277) (o := .cells #[.slice Ao47 x278000_1.length co47, .slice Ao19 t271.length co19, .slice Ao18 t274.length co18] 29 (0, 0)) (bA BK277.out) hg (Kd.R_ne HO_5.out BK277.out (by decide))); have n6_ := Aside0.mk (blk_grown (g := gb279) (o := .cells #[.int .i64 ((rd_T50 l0_0 x22_1).f0), .int .i64 ((rd_T50 l0_0 x22_1).f1), .int .i64 ((rd_T50 l0_0 x22_1).f2)] 50 (0, 0)) (bA BK279.out) hg (Kd.R_ne HO_5.out BK279.out (by decide))); have n7_ := Aside0.mk (hb); have n8_ := Aside0.mk (ho); clear HO_278000; clear HO_278001; clear HO_278002; clear BK268; clear BK269; clear BK277; clear BK279; clear HB; clear HO_5; have HO_278000 := n0_; have HO_278001 := n1_; have HO_278002 := n2_; have BK268 := n3_; have BK269 := n4_; have BK277 := n5_; have BK279 := n6_; have HB := n7_; have HO286 := n8_; clear n0_ n1_ n2_ n3_ n4_ n5_ n6_ n7_ n8_; clear ho hb hg hat))
          go_roundg k1
          case measure => have := HK1.out; omega
          case rel => exact ⟨(y284), (wrap64 (x22_1 + 1)), (x278000_1), (.slice Ao47 x278000_1.length co47), rs, H', ⟨by have := HK1.out; omega⟩, ⟨by refine rC (a := ?_); exact HO286.out⟩, ⟨by refine rC (a := ?_); exact Kd.R_mono HO_278000.out (fun _ hk => trivial)⟩, ⟨by refine rC (a := ?_); exact Kd.R_mono HO_278001.out (fun _ hk => ⟨hk.2, hk.1⟩)⟩, ⟨by refine rC (a := ?_); exact Kd.R_mono HO_278002.out (fun _ hk => ⟨hk.2, hk.1⟩)⟩, ⟨by refine bC (a := ?_); exact BK268.out⟩, ⟨by refine bC (a := ?_); exact BK269.out⟩, ⟨by refine bC (a := ?_); exact BK277.out⟩, ⟨hA HB.out⟩⟩
         ·rw [if_neg c38] at H
          exact absurd H (by simp)
        ·replace c37 := Bool.eq_false_iff.mpr c37
         subst c37
         have H1 : (if x278000_1.length < 5864062014805 then (impl_MendBook.l0 k1 x5_1 l0_0 (l0_0.length : Int) (wrap64 (x22_1 + 1)) (x278000_1 ++ [(⟨(rd_T50 l0_0 x22_1).f0, (rd_T50 l0_0 x22_1).f1, (rd_T50 l0_0 x22_1).f2⟩ : S50)]) t271 t274) else (none)) = some (r1, r2, r3, r4) := by rw [if_neg (show ¬ (false = true) by decide)] at H; exact H
         clear H
         have H := H1
         clear H1
         by_cases c50 : x278000_1.length < 5864062014805
         ·rw [if_pos c50] at H
          have LMc50 := Aside0.mk c50
          clear c50
          obtain ⟨y287, hy287⟩ : ∃ y_ : List (S50), y_ = (x278000_1 ++ [(⟨(rd_T50 l0_0 x22_1).f0, (rd_T50 l0_0 x22_1).f1, (rd_T50 l0_0 x22_1).f2⟩ : S50)]) := ⟨_, rfl⟩
          replace H : (impl_MendBook.l0 k1 x5_1 l0_0 (l0_0.length : Int) (wrap64 (x22_1 + 1)) y287 t271 t274) = some (r1, r2, r3, r4) := by first | (rw [hy287]; with_reducible exact H) | (have H2_ := (Option.bind_some _ _).symm.trans H; rw [hy287]; with_reducible exact H2_) | (have H2_ := (Option.bind_some _ _).symm.trans H; with_reducible exact H2_) | with_reducible exact H | (rw [hy287]; exact H) | exact H
          have Ny287 := Aside0.mk hy287
          clear hy287
          have H' := Aside0.mk H
          clear H
          have p278 : 0 ≤ (x22_1 : Int) := of_decide_eq_true sm
          have q278 : x22_1 < (l0_0.length : Int) := of_decide_eq_true sm
          obtain ⟨ad278, e278, hx278_0, hx278_1, hx278_2⟩ := at_T50 HR0_0.out x22_1 p278 q278
          cases e278
          try (replace hx278_0 := (HB.out.cell (World.block_lt_of_cell? w _ hx278_0)).trans hx278_0)
          try (replace hx278_1 := (HB.out.cell (World.block_lt_of_cell? w _ hx278_1)).trans hx278_1)
          try (replace hx278_2 := (HB.out.cell (World.block_lt_of_cell? w _ hx278_2)).trans hx278_2)
          replace p278 := eq_true p278
          replace q278 := eq_true q278
          go_wp2_with (first | ((with_reducible refine gate_dst (N := 7) rfl ?_); refine box_event ?hg (N := 7) ?hd (cs := #[.int .i64 0, .int .i64 0, .int .i64 0]) (t := 50) ?hr ?_; (case hd => rfl); (case hg => rfl); (case hr => first | (go_simp; done) | (go_simp; rfl)); intro gb279 hg w51 hbox hb; have n0_ := Aside0.mk (Kd.R_below (rA HO_5.out) hb); have n1_ := Aside0.mk (Kd.R_below (Kd.R_elderB (rA HO_278000.out) gb279 (Nat.le_of_eq hg.symm)) hb); have n2_ := Aside0.mk (Kd.R_below (rA HO_278001.out) hb); have n3_ := Aside0.mk (Kd.R_below (rA HO_278002.out) hb); have n4_ := Aside0.mk (bB BK268.out hb); have n5_ := Aside0.mk (bB BK269.out hb); have n6_ := Aside0.mk (bB BK277.out hb); have n7_ := Aside0.mk (below_step (hA HB.out) hb); have n8_ := Aside0.mk (hbox); have n9_ := Aside0.mk ((by rw [hg]; exact (below_size (hA HB.out)) : w.heap.size ≤ gb279)); have n10_ := Aside0.mk ((by rw [hg]; exact (below_size (hA HB.out)) : w.heap.size ≤ gb279)); have n11_ := Aside0.mk ((by rw [hg]; exact Nat.ne_of_lt (blk_lt (g := gb268) (o := .cells #[.slice (some ad278) l0_0.length c0_0, .slice A0_1 l0_1.length c0_1, .slice A0_2 l0_2.length c0_2] 29 (0, 0)) (bA BK268.out)) : gb268 ≠ gb279)); have n12_ := Aside0.mk ((by rw [hg]; exact Nat.ne_of_gt (blk_lt (g := gb268) (o := .cells #[.slice (some ad278) l0_0.length c0_0, .slice A0_1 l0_1.length c0_1, .slice A0_2 l0_2.length c0_2] 29 (0, 0)) (bA BK268.out)) : gb279 ≠ gb268)); have n13_ := Aside0.mk ((by rw [hg]; exact Nat.ne_of_lt (blk_lt (g := gb269) (o := .cells #[.slice none 0 0, .slice none 0 0, .slice none 0 0] 29 (0, 0)) (bA BK269.out)) : gb269 ≠ gb279)); have n14_ := Aside0.mk ((by rw [hg]; exact Nat.ne_of_gt (blk_lt (g := gb269) (o := .cells #[.slice none 0 0, .slice none 0 0, .slice none 0 0] 29 (0, 0)) (bA BK269.out)) : gb279 ≠ gb269)); have n15_ := Aside0.mk ((by rw [hg]; exact Nat.ne_of_lt (blk_lt (g := gb277) (o := .cells #[u278000, .slice Ao19 t271.length co19, .slice Ao18 t274.length co18] 29 (0, 0)) (bA BK277.out)) : gb277 ≠ gb279)); have n16_ := Aside0.mk ((by rw [hg]; exact Nat.ne_of_gt (blk_lt (g := gb277) (o := .cells #[u278000, .slice Ao19 t271.length co19, .slice Ao18 t274.length co18] 29 (0, 0)) (bA BK277.out)) : gb279 ≠ gb277)); clear HO_5; clear HO_278000; clear HO_278001; clear HO_278002; clear BK268; clear BK269; clear BK277; clear HB; have HO_5 := n0_; have HO_278000 := n1_; have HO_278001 := n2_; have HO_278002 := n3_; have BK268 := n4_; have BK269 := n5_; have BK277 := n6_; have HB := n7_; have BK279 := n8_; have GW279 := n9_; have GE279 := n10_; have NB268_279 := n11_; have NB279_268 := n12_; have NB269_279 := n13_; have NB279_269 := n14_; have NB277_279 := n15_; have NB279_277 := n16_; clear n0_ n1_ n2_ n3_ n4_ n5_ n6_ n7_ n8_ n9_ n10_ n11_ n12_ n13_ n14_ n15_ n16_; clear hb hbox hg; have hnb52 := NB279_268.out; have hnc52 := NB268_279.out; have hnb53 := NB279_269.out; have hnc53 := NB269_279.out; have hnb54 := NB279_277.out; have hnc54 := NB277_279.out; have hcz55_0 : w51.cell? ⟨gb279, 0, none⟩ = some (.int .i64 0) := (blk_cell BK279.out 0).trans rfl; have hcz55_1 : w51.cell? ⟨gb279, 1, none⟩ = some (.int .i64 0) := (blk_cell BK279.out 1).trans rfl; have hcz55_2 : w51.cell? ⟨gb279, 2, none⟩ = some (.int .i64 0) := (blk_cell BK279.out 2).trans rfl; have hfz55_0 := blk_frozen BK279.out 0; have hfz55_1 := blk_frozen BK279.out 1; have hfz55_2 := blk_frozen BK279.out 2; have hnb56 := NB277_268.out; have hnc56 := NB268_277.out; have hnb57 := NB277_269.out; have hnc57 := NB269_277.out; have hcz58_0 : w51.cell? ⟨gb277, 0, none⟩ = some (u278000) := (blk_cell BK277.out 0).trans rfl; have hcz58_1 : w51.cell? ⟨gb277, 1, none⟩ = some (.slice Ao19 t271.length co19) := (blk_cell BK277.out 1).trans rfl; have hcz58_2 : w51.cell? ⟨gb277, 2, none⟩ = some (.slice Ao18 t274.length co18) := (blk_cell BK277.out 2).trans rfl; have hfz58_0 := blk_frozen BK277.out 0; have hfz58_1 := blk_frozen BK277.out 1; have hfz58_2 := blk_frozen BK277.out 2; obtain ⟨Ao59, co59, eo59⟩ := Kd.R_slice HO_278000.out; subst eo59) | (go_at_call 42; (with_reducible refine (impl_Talk_42.calls k1 _ _ x278000_1 ((rd_T50 l0_0 x22_1).f0) ((rd_T50 l0_0 x22_1).f1) ((rd_T50 l0_0 x22_1).f2) false _ ?side1 ?side2 A36.out).mono ?_); (case side1 => refine (Kd.R_reads' (e := 50) (base := w.heap.size) (ok := fun k_ => (True ∧ k_ ≠ gb279)) (n := x278000_1.length) (c := co59) ?_).2.2; exact (rC (a := by exact (Kd.R_mono (Kd.R_far (p := ⟨gb279, 2, none⟩) (Kd.R_far (p := ⟨gb279, 1, none⟩) (Kd.R_far (p := ⟨gb279, 0, none⟩) (Kd.R_mono HO_278000.out (fun k_ hk => (⟨hk, hk.2⟩ : _ ∧ k_ ≠ gb279))) (fun _ hk => hk.2) (.int .i64 ((rd_T50 l0_0 x22_1).f0))) (fun _ hk => hk.2) (.int .i64 ((rd_T50 l0_0 x22_1).f1))) (fun _ hk => hk.2) (.int .i64 ((rd_T50 l0_0 x22_1).f2))) (fun _ h_ => h_.1))))); (case side2 => exact (Kd.R_reads' HO_278000.out).2.1); rintro e w60 ⟨rfl, hb⟩; have n0_ := Aside0.mk (Kd.R_below (rC (a := by exact (Kd.R_mono (Kd.R_far (p := ⟨gb279, 2, none⟩) (Kd.R_far (p := ⟨gb279, 1, none⟩) (Kd.R_far (p := ⟨gb279, 0, none⟩) (Kd.R_types HO_5.out BK279.out (by decide)) (fun _ hk => hk.2) (.int .i64 ((rd_T50 l0_0 x22_1).f0))) (fun _ hk => hk.2) (.int .i64 ((rd_T50 l0_0 x22_1).f1))) (fun _ hk => hk.2) (.int .i64 ((rd_T50 l0_0 x22_1).f2))) (fun _ h_ => h_.1)))) hb); have n1_ := Aside0.mk (Kd.R_below (rC (a := by exact (Kd.R_mono (Kd.R_far (p := ⟨gb279, 2, none⟩) (Kd.R_far (p := ⟨gb279, 1, none⟩) (Kd.R_far (p := ⟨gb279, 0, none⟩) (Kd.R_mono HO_278000.out (fun k_ hk => (⟨hk, hk.2⟩ : _ ∧ k_ ≠ gb279))) (fun _ hk => hk.2) (.int .i64 ((rd_T50 l0_0 x22_1).f0))) (fun _ hk => hk.2) (.int .i64 ((rd_T50 l0_0 x22_1).f1))) (fun _ hk => hk.2) (.int .i64 ((rd_T50 l0_0 x22_1).f2))) (fun _ h_ => h_.1)))) hb); have n2_ := Aside0.mk (Kd.R_below (rC (a := by exact (Kd.R_mono (Kd.R_far (p := ⟨gb279, 2, none⟩) (Kd.R_far (p := ⟨gb279, 1, none⟩) (Kd.R_far (p := ⟨gb279, 0, none⟩) (Kd.R_types HO_278001.out BK279.out (by decide)) (fun _ hk => hk.2) (.int .i64 ((rd_T50 l0_0 x22_1).f0))) (fun _ hk => hk.2) (.int .i64 ((rd_T50 l0_0 x22_1).f1))) (fun _ hk => hk.2) (.int .i64 ((rd_T50 l0_0 x22_1).f2))) (fun _ h_ => h_.1)))) hb); have n3_ := Aside0.mk (Kd.R_below (rC (a := by exact (Kd.R_mono (Kd.R_far (p := ⟨gb279, 2, none⟩) (Kd.R_far (p := ⟨gb279, 1, none⟩) (Kd.R_far (p := ⟨gb279, 0, none⟩) (Kd.R_types HO_278002.out BK279.out (by decide)) (fun _ hk => hk.2) (.int .i64 ((rd_T50 l0_0 x22_1).f0))) (fun _ hk => hk.2) (.int .i64 ((rd_T50 l0_0 x22_1).f1))) (fun _ hk => hk.2) (.int .i64 ((rd_T50 l0_0 x22_1).f2))) (fun _ h_ => h_.1)))) hb); have n4_ := Aside0.mk (blk_below (g := gb268) (o := .cells #[.slice (some ad278) l0_0.length c0_0, .slice A0_1 l0_1.length c0_1, .slice A0_2 l0_2.length c0_2] 29 (0, 0)) (by refine bC (a := ?_); refine blk_far ?_ NB268_279.out _; refine bC (a := ?_); refine blk_far ?_ NB268_279.out _; refine bC (a := ?_); refine blk_far ?_ NB268_279.out _; refine bC (a := ?_); exact BK268.out) hb); have n5_ := Aside0.mk (blk_below (g := gb269) (o := .cells #[.slice none 0 0, .slice none 0 0, .slice none 0 0] 29 (0, 0)) (by refine bC (a := ?_); refine blk_far ?_ NB269_279.out _; refine bC (a := ?_); refine blk_far ?_ NB269_279.out _; refine bC (a := ?_); refine blk_far ?_ NB269_279.out _; refine bC (a := ?_); exact BK269.out) hb); have n6_ := Aside0.mk (blk_below (g := gb277) (o := .cells #[.slice Ao59 x278000_1.length co59, .slice Ao19 t271.length co19, .slice Ao18 t274.length co18] 29 (0, 0)) (by refine bC (a := ?_); refine blk_far ?_ NB277_279.out _; refine bC (a := ?_); refine blk_far ?_ NB277_279.out _; refine bC (a := ?_); refine blk_far ?_ NB277_279.out _; refine bC (a := ?_); exact BK277.out) hb); have n7_ := Aside0.mk (blk_below (g := gb279) (o := .cells #[.int .i64 ((rd_T50 l0_0 x22_1).f0), .int .i64 ((rd_T50 l0_0 x22_1).f1), .int .i64 ((rd_T50 l0_0 x22_1).f2)] 50 (0, 0)) (by refine bC (a := ?_); refine blk_put (cs := #[.int .i64 ((rd_T50 l0_0 x22_1).f0), .int .i64 ((rd_T50 l0_0 x22_1).f1), .int .i64 0]) ?_ 2 _ rfl; refine bC (a := ?_); refine blk_put (cs := #[.int .i64 ((rd_T50 l0_0 x22_1).f0), .int .i64 0, .int .i64 0]) ?_ 1 _ rfl; refine bC (a := ?_); refine blk_put (cs := #[.int .i64 0, .int .i64 0, .int .i64 0]) ?_ 0 _ rfl; refine bC (a := ?_); exact BK279.out) hb); have n8_ := Aside0.mk (below_step (hA HB.out) hb); clear HO_5; clear HO_278000; clear HO_278001; clear HO_278002; clear BK268; clear BK269; clear BK277; clear BK279; clear HB; have HO_5 := n0_; have HO_278000 := n1_; have HO_278001 := n2_; have HO_278002 := n3_; have BK268 := n4_; have BK269 := n5_; have BK277 := n6_; have BK279 := n7_; have HB := n8_; clear n0_ n1_ n2_ n3_ n4_ n5_ n6_ n7_ n8_; (try clear hb); (try clear hb2); (try clear hk); (try clear hi); have hcz61_0 : w60.cell? ⟨gb277, 0, none⟩ = some (.slice Ao59 x278000_1.length co59) := (blk_cell BK277.out 0).trans rfl; have hcz61_1 : w60.cell? ⟨gb277, 1, none⟩ = some (.slice Ao19 t271.length co19) := (blk_cell BK277.out 1).trans rfl; have hcz61_2 : w60.cell? ⟨gb277, 2, none⟩ = some (.slice Ao18 t274.length co18) := (blk_cell BK277.out 2).trans rfl; have hfz61_0 := blk_frozen BK277.out 0; have hfz61_1 := blk_frozen BK277.out 1; have hfz61_2 := blk_frozen BK277.out 2; have hcz62_0 : w60.cell? ⟨gb279, 0, none⟩ = some (.int .i64 ((rd_T50 l0_0 x22_1).f0)) := (blk_cell BK279.out 0).trans rfl; have hcz62_1 : w60.cell? ⟨gb279, 1, none⟩ = some (.int .i64 ((rd_T50 l0_0 x22_1).f1)) := (blk_cell BK279.out 1).trans rfl; have hcz62_2 : w60.cell? ⟨gb279, 2, none⟩ = some (.int .i64 ((rd_T50 l0_0 x22_1).f2)) := (blk_cell BK279.out 2).trans rfl; have hfz62_0 := blk_frozen BK279.out 0; have hfz62_1 := blk_frozen BK279.out 1; have hfz62_2 := blk_frozen BK279.out 2) | ((with_reducible refine gate_builtin (b := .append) (xs := #[.tmp 44, .tmp 46]) rfl ?_); at_builtin; refine Kd.R_append k50 (w0 := w) w.heap.size rfl (.tmp 44) (.tmp 46) 27 50 (.agg #[(.int .i64 0), (.int .i64 0), (.int .i64 0)]) 24 rfl Try.underlying27 info50 rfl (by decide) (by omega) (.slice Ao59 x278000_1.length co59) x278000_1 (⟨(rd_T50 l0_0 x22_1).f0, (rd_T50 l0_0 x22_1).f1, (rd_T50 l0_0 x22_1).f2⟩ : S50) [.int .i64 ((rd_T50 l0_0 x22_1).f0), .int .i64 ((rd_T50 l0_0 x22_1).f1), .int .i64 ((rd_T50 l0_0 x22_1).f2)] (fun k_ => k_ ≠ gb279) (fun _ => False) rfl rfl ?aP (fun _ hk => hk.elim) ?aF ?aO ?aB ?aS ?aL ?_; (case aP => exact k50_mkM _ _ _ (⟨(rd_T50 l0_0 x22_1).f0, (rd_T50 l0_0 x22_1).f1, (rd_T50 l0_0 x22_1).f2⟩ : S50)); (case aB => exact (hA HB.out)); (case aF => exact (fun k_ hk => Kd.freshB (g := gb279) (o := .cells #[.int .i64 ((rd_T50 l0_0 x22_1).f0), .int .i64 ((rd_T50 l0_0 x22_1).f1), .int .i64 ((rd_T50 l0_0 x22_1).f2)] 50 (0, 0)) (bA BK279.out) k_ hk)); (case aO => exact (rC (a := by exact Kd.R_mono HO_278000.out (fun _ hk => hk.2)))); (case aS => exact (below_size (hA HB.out))); (case aL => have := LMc50.out; omega); intro v288 w63 ho hb hg hat; rw [← Ny287.out] at ho; have n0_ := Aside0.mk (Kd.R_over' (rA HO_5.out) (Kd.R_typed (rA HO_278000.out)) (by decide) hg); have n1_ := Aside0.mk (Kd.R_over' (rA HO_278001.out) (Kd.R_typed (rA HO_278000.out)) (by decide) hg); have n2_ := Aside0.mk (Kd.R_over' (rA HO_278002.out) (Kd.R_typed (rA HO_278000.out)) (by decide) hg); have n3_ := Aside0.mk (blk_grown (g := gb268) (o := .cells #[.slice (some ad278) l0_0.length c0_0, .slice A0_1 l0_1.length c0_1, .slice A0_2 l0_2.length c0_2] 29 (0, 0)) (bA BK268.out) hg (Kd.R_ne HO_278000.out BK268.out (by decide))); have n4_ := Aside0.mk (blk_grown (g := gb269) (o := .cells #[.slice none 0 0, .slice none 0 0, .slice none 0 0] 29 (0, 0)) (bA BK269.out) hg (Kd.R_ne HO_278000.out BK269.out (by decide))); have n5_ := Aside0.mk (blk_grown (g := gb277) (o := .cells #[.slice Ao59 x278000_1.length co59, .slice Ao19 t271.length co19, .slice Ao18 t274.length co18] 29 (0, 0)) (bA BK277.out) hg (Kd.R_ne HO_278000.out BK277.out (by decide))); have n6_ := Aside0.mk (blk_grown (g := gb279) (o := .cells #[.int .i64 ((rd_T50 l0_0 x22_1).f0), .int .i64 ((rd_T50 l0_0 x22_1).f1), .int .i64 ((rd_T50 l0_0 x22_1).f2)] 50 (0, 0)) (bA BK279.out) hg (Kd.R_away HO_278000.out (fun _ hk => hk.2))); have n7_ := Aside0.mk (hb); have n8_ := Aside0.mk (ho); clear HO_5; clear HO_278001; clear HO_278002; clear BK268; clear BK269; clear BK277; clear BK279; clear HB; clear HO_278000; have HO_5 := n0_; have HO_278001 := n1_; have HO_278002 := n2_; have BK268 := n3_; have BK269 := n4_; have BK277 := n5_; have BK279 := n6_; have HB := n7_; have HO289 := n8_; clear n0_ n1_ n2_ n3_ n4_ n5_ n6_ n7_ n8_; clear ho hb hg hat; obtain ⟨Ao64, co64, eo64⟩ := Kd.R_slice HO289.out; subst eo64; have hcz65_0 : w63.cell? ⟨gb277, 0, none⟩ = some (.slice Ao59 x278000_1.length co59) := (blk_cell BK277.out 0).trans rfl; have hcz65_1 : w63.cell? ⟨gb277, 1, none⟩ = some (.slice Ao19 t271.length co19) := (blk_cell BK277.out 1).trans rfl; have hcz65_2 : w63.cell? ⟨gb277, 2, none⟩ = some (.slice Ao18 t274.length co18) := (blk_cell BK277.out 2).trans rfl; have hfz65_0 := blk_frozen BK277.out 0; have hfz65_1 := blk_frozen BK277.out 1; have hfz65_2 := blk_frozen BK277.out 2))
          go_roundg k1
          case measure => have := HK1.out; omega
          case rel => exact ⟨(x5_1), (wrap64 (x22_1 + 1)), (y287), (.slice Ao64 y287.length co64), rs, H', ⟨by have := HK1.out; omega⟩, ⟨by refine rC (a := ?_); exact Kd.R_mono (Kd.R_far (p := ⟨gb277, 0, none⟩) (Kd.R_types HO_5.out BK277.out (by decide)) (fun _ hk => hk.2) (.slice Ao64 y287.length co64)) (fun _ hk => ⟨hk.1.1, hk.1.2⟩)⟩, ⟨by refine rC (a := ?_); exact Kd.R_mono (Kd.R_far (p := ⟨gb277, 0, none⟩) (Kd.R_types HO289.out BK277.out (by decide)) (fun _ hk => hk.2) (.slice Ao64 y287.length co64)) (fun _ hk => trivial)⟩, ⟨by refine rC (a := ?_); exact Kd.R_mono (Kd.R_far (p := ⟨gb277, 0, none⟩) (Kd.R_types HO_278001.out BK277.out (by decide)) (fun _ hk => hk.2) (.slice Ao64 y287.length co64)) (fun _ hk => ⟨hk.1.1, hk.1.2⟩)⟩, ⟨by refine rC (a := ?_); exact Kd.R_mono (Kd.R_far (p := ⟨gb277, 0, none⟩) (Kd.R_types HO_278002.out BK277.out (by decide)) (fun _ hk => hk.2) (.slice Ao64 y287.length co64)) (fun _ hk => ⟨hk.1.1, hk.1.2⟩)⟩, ⟨by refine bC (a := ?_); refine blk_far ?_ NB268_277.out _; refine bC (a := ?_); exact BK268.out⟩, ⟨by refine bC (a := ?_); refine blk_far ?_ NB269_277.out _; refine bC (a := ?_); exact BK269.out⟩, ⟨by refine bC (a := ?_); refine blk_put (cs := #[.slice Ao59 x278000_1.length co59, .slice Ao19 t271.length co19, .slice Ao18 t274.length co18]) ?_ 0 _ rfl; refine bC (a := ?_); exact BK277.out⟩, ⟨hA HB.out⟩⟩
         ·rw [if_neg c50] at H
          exact absurd H (by simp)
      ·rw [if_neg c27] at H
       exact absurd H (by simp)
     ·rw [if_neg c26] at H
      exact absurd H (by simp)
    ·rw [if_neg c25] at H
     have c25b0 : decide (x22_1 < (l0_0.length : Int)) = false := decide_eq_false c25
     clear c25
     replace H := Option.bind_eq_some_iff.mp H
     obtain ⟨⟨t290, t293⟩, A660, H⟩ := H
     replace H : (some (x278000_1, t290, t293, x5_1)) = some (r1, r2, r3, r4) := H
     have A66 := Aside0.mk A660
     clear A660
     simp only [Option.some.injEq, Prod.mk.injEq] at H
     obtain ⟨rfl, rfl, rfl, rfl⟩ := H
     have hnb67 := NB277_268.out
     have hnc67 := NB268_277.out
     have hnb68 := NB277_269.out
     have hnc68 := NB269_277.out
     have hcz69_0 : wr.cell? ⟨gb277, 0, none⟩ = some (u278000) := (blk_cell BK277.out 0).trans rfl
     have hcz69_1 : wr.cell? ⟨gb277, 1, none⟩ = some (.slice Ao19 t271.length co19) := (blk_cell BK277.out 1).trans rfl
     have hcz69_2 : wr.cell? ⟨gb277, 2, none⟩ = some (.slice Ao18 t274.length co18) := (blk_cell BK277.out 2).trans rfl
     have hfz69_0 := blk_frozen BK277.out 0
     have hfz69_1 := blk_frozen BK277.out 1
     have hfz69_2 := blk_frozen BK277.out 2
     obtain ⟨Ao70, co70, eo70⟩ := Kd.R_slice HO_278000.out
     subst eo70
     go_wp2_with (first | ((with_reducible refine gate_callee (f := 44) rfl ?_); refine goesL_ (some 52) rfl rfl Try.func44 (by kernel_rfl) rfl #[.agg #[.slice Ao70 x278000_1.length co70, .slice Ao19 t271.length co19, .slice Ao18 t274.length co18]] rfl ar ?_; (with_reducible refine (impl_said.calls k1 _ _ x278000_1 _ _ t271 _ _ t274 t290 t293 _ ?side1 ?side2 ?side3 ?side4 ?side5 ?side6 A66.out).mono ?_); (case side1 => exact cA (Kd.R_reads' HO_278000.out).2.2); (case side2 => exact (Kd.R_reads' HO_278000.out).2.1); (case side3 => exact cA (Kd.R_reads' HO_278001.out).2.2); (case side4 => exact (Kd.R_reads' HO_278001.out).2.1); (case side5 => exact cA (Kd.R_reads' HO_278002.out).2.2); (case side6 => exact (Kd.R_reads' HO_278002.out).2.1); rintro e w71 ⟨v291, v294, rfl, ho0, ho1, hb⟩; refine ⟨_, rfl, ?_⟩; have n0_ := Aside0.mk (Kd.R_mono (Kd.R_told (Kd.R_told (Kd.R_old (rA HO_5.out) hb) (Kd.R_base ho0)) (Kd.R_base ho1)) (fun _ h_ => h_.1)); have n1_ := Aside0.mk (Kd.R_below (rA HO_278000.out) hb); have n2_ := Aside0.mk (Kd.R_mono (Kd.R_told (Kd.R_told (Kd.R_old (rA HO_278001.out) hb) (Kd.R_base ho0)) (Kd.R_base ho1)) (fun _ h_ => h_.1)); have n3_ := Aside0.mk (Kd.R_mono (Kd.R_told (Kd.R_told (Kd.R_old (rA HO_278002.out) hb) (Kd.R_base ho0)) (Kd.R_base ho1)) (fun _ h_ => h_.1)); have n4_ := Aside0.mk (Kd.R_lower (Kd.R_new' (Kd.R_new' (Kd.R_new' ho0 (Kd.R_lt (rA HO_5.out))) (Kd.R_lt (rA HO_278001.out))) (Kd.R_lt (rA HO_278002.out))) (below_size (hA HB.out))); have n5_ := Aside0.mk (Kd.R_lower (Kd.R_new' (Kd.R_new' (Kd.R_new' ho1 (Kd.R_lt (rA HO_5.out))) (Kd.R_lt (rA HO_278001.out))) (Kd.R_lt (rA HO_278002.out))) (below_size (hA HB.out))); have n6_ := Aside0.mk (bB BK268.out hb); have n7_ := Aside0.mk (bB BK269.out hb); have n8_ := Aside0.mk (bB BK277.out hb); have n9_ := Aside0.mk (below_step (hA HB.out) hb); clear HO_5; clear HO_278000; clear HO_278001; clear HO_278002; clear BK268; clear BK269; clear BK277; clear HB; have HO_5 := n0_; have HO_278000 := n1_; have HO_278001 := n2_; have HO_278002 := n3_; have HO292 := n4_; have HO295 := n5_; have BK268 := n6_; have BK269 := n7_; have BK277 := n8_; have HB := n9_; clear n0_ n1_ n2_ n3_ n4_ n5_ n6_ n7_ n8_ n9_; (try clear hb); (try clear hb2); (try clear hk); (try clear hi); (try clear ho0); (try clear ho1); obtain ⟨Ao72, co72, eo72⟩ := Kd.R_slice HO292.out; subst eo72; have hcz73_0 : w71.cell? ⟨gb277, 0, none⟩ = some (.slice Ao70 x278000_1.length co70) := (blk_cell BK277.out 0).trans rfl; have hcz73_1 : w71.cell? ⟨gb277, 1, none⟩ = some (.slice Ao19 t271.length co19) := (blk_cell BK277.out 1).trans rfl; have hcz73_2 : w71.cell? ⟨gb277, 2, none⟩ = some (.slice Ao18 t274.length co18) := (blk_cell BK277.out 2).trans rfl; have hfz73_0 := blk_frozen BK277.out 0; have hfz73_1 := blk_frozen BK277.out 1; have hfz73_2 := blk_frozen BK277.out 2; obtain ⟨Ao74, co74, eo74⟩ := Kd.R_slice HO295.out; subst eo74; have hnb75 := NB269_268.out; have hnc75 := NB268_269.out; have hcz76_0 : w71.cell? ⟨gb269, 0, none⟩ = some (.slice none 0 0) := (blk_cell BK269.out 0).trans rfl; have hcz76_1 : w71.cell? ⟨gb269, 1, none⟩ = some (.slice none 0 0) := (blk_cell BK269.out 1).trans rfl; have hcz76_2 : w71.cell? ⟨gb269, 2, none⟩ = some (.slice none 0 0) := (blk_cell BK269.out 2).trans rfl; have hfz76_0 := blk_frozen BK269.out 0; have hfz76_1 := blk_frozen BK269.out 1; have hfz76_2 := blk_frozen BK269.out 2))
     refine bodyPost_ret (results_ct rfl _ _ gb269 29 #[.slice Ao70 x278000_1.length co70, .slice Ao72 t290.length co72, .slice Ao74 t293.length co74] (0, 0) _ rfl (by refine bC (a := ?_); refine blk_put (cs := #[.slice Ao70 x278000_1.length co70, .slice Ao72 t290.length co72, .slice none 0 0]) ?_ 2 _ rfl; refine bC (a := ?_); refine blk_put (cs := #[.slice Ao70 x278000_1.length co70, .slice none 0 0, .slice none 0 0]) ?_ 1 _ rfl; refine bC (a := ?_); refine blk_put (cs := #[.slice none 0 0, .slice none 0 0, .slice none 0 0]) ?_ 0 _ rfl; refine bC (a := ?_); refine blk_far ?_ NB269_277.out _; refine bC (a := ?_); refine blk_far ?_ NB269_277.out _; refine bC (a := ?_); exact BK269.out) Try.underlying29 rfl (by kernel_rfl)) rfl ?_
     exact ⟨_, _, _, _, er, by refine rC (a := ?_); exact Kd.R_mono (Kd.R_far (p := ⟨gb269, 2, none⟩) (Kd.R_far (p := ⟨gb269, 1, none⟩) (Kd.R_far (p := ⟨gb269, 0, none⟩) (Kd.R_far (p := ⟨gb277, 2, none⟩) (Kd.R_far (p := ⟨gb277, 1, none⟩) (Kd.R_types (Kd.R_types HO_278000.out BK277.out (by decide)) BK269.out (by decide)) (fun _ hk => hk.1.2) (.slice Ao72 t290.length co72)) (fun _ hk => hk.1.2) (.slice Ao74 t293.length co74)) (fun _ hk => hk.2) (.slice Ao70 x278000_1.length co70)) (fun _ hk => hk.2) (.slice Ao72 t290.length co72)) (fun _ hk => hk.2) (.slice Ao74 t293.length co74)) (fun _ hk => trivial), by refine rC (a := ?_); exact Kd.R_mono (Kd.R_far (p := ⟨gb269, 2, none⟩) (Kd.R_far (p := ⟨gb269, 1, none⟩) (Kd.R_far (p := ⟨gb269, 0, none⟩) (Kd.R_far (p := ⟨gb277, 2, none⟩) (Kd.R_far (p := ⟨gb277, 1, none⟩) (Kd.R_types (Kd.R_types HO292.out BK277.out (by decide)) BK269.out (by decide)) (fun _ hk => hk.1.2) (.slice Ao72 t290.length co72)) (fun _ hk => hk.1.2) (.slice Ao74 t293.length co74)) (fun _ hk => hk.2) (.slice Ao70 x278000_1.length co70)) (fun _ hk => hk.2) (.slice Ao72 t290.length co72)) (fun _ hk => hk.2) (.slice Ao74 t293.length co74)) (fun _ hk => ⟨hk.1.1.1.1.1, hk.1.1.1.1.2⟩), by refine rC (a := ?_); exact Kd.R_mono (Kd.R_far (p := ⟨gb269, 2, none⟩) (Kd.R_far (p := ⟨gb269, 1, none⟩) (Kd.R_far (p := ⟨gb269, 0, none⟩) (Kd.R_far (p := ⟨gb277, 2, none⟩) (Kd.R_far (p := ⟨gb277, 1, none⟩) (Kd.R_types (Kd.R_types HO295.out BK277.out (by decide)) BK269.out (by decide)) (fun _ hk => hk.1.2) (.slice Ao72 t290.length co72)) (fun _ hk => hk.1.2) (.slice Ao74 t293.length co74)) (fun _ hk => hk.2) (.slice Ao70 x278000_1.length co70)) (fun _ hk => hk.2) (.slice Ao72 t290.length co72)) (fun _ hk => hk.2) (.slice Ao74 t293.length co74)) (fun _ hk => ⟨hk.1.1.1.1.1, hk.1.1.1.1.2⟩), by refine rC (a := ?_); exact Kd.R_mono (Kd.R_far (p := ⟨gb269, 2, none⟩) (Kd.R_far (p := ⟨gb269, 1, none⟩) (Kd.R_far (p := ⟨gb269, 0, none⟩) (Kd.R_far (p := ⟨gb277, 2, none⟩) (Kd.R_far (p := ⟨gb277, 1, none⟩) (Kd.R_types (Kd.R_types HO_5.out BK277.out (by decide)) BK269.out (by decide)) (fun _ hk => hk.1.2) (.slice Ao72 t290.length co72)) (fun _ hk => hk.1.2) (.slice Ao74 t293.length co74)) (fun _ hk => hk.2) (.slice Ao70 x278000_1.length co70)) (fun _ hk => hk.2) (.slice Ao72 t290.length co72)) (fun _ hk => hk.2) (.slice Ao74 t293.length co74)) (fun _ hk => ⟨hk.1.1.1.2, hk.1.1.2⟩), hA HB.out⟩
 ·replace c3 := Bool.eq_false_iff.mpr c3
  subst c3
  have H1 : (some (([] : List (S50)), ([] : List Int), ([] : List Int), ([] : List Int))) = some (r1, r2, r3, r4) := by rw [if_neg (show ¬ (false = true) by decide)] at H; exact H
  clear H
  have H := H1
  clear H1
  simp only [Option.some.injEq, Prod.mk.injEq] at H
  obtain ⟨rfl, rfl, rfl, rfl⟩ := H
  go_enter Try.func12, Try.ntmps12
  go_wp2_with (first | ((with_reducible refine gate_dst (N := 1) rfl ?_); refine box_event ?hg (N := 1) ?hd (cs := #[.slice A0_0 l0_0.length c0_0, .slice A0_1 l0_1.length c0_1, .slice A0_2 l0_2.length c0_2]) (t := 29) ?hr ?_; (case hd => rfl); (case hg => rfl); (case hr => first | (go_simp; done) | (go_simp; rfl)); intro gb268 hg w77 hbox hb; have n0_ := Aside0.mk (below_step (hA HB.out) hb); have n1_ := Aside0.mk (hbox); have n2_ := Aside0.mk ((by rw [hg]; exact (below_size (hA HB.out)) : w.heap.size ≤ gb268)); have n3_ := Aside0.mk ((by rw [hg]; exact (below_size (hA HB.out)) : w.heap.size ≤ gb268)); clear HB; have HB := n0_; have BK268 := n1_; have GW268 := n2_; have GE268 := n3_; clear n0_ n1_ n2_ n3_; clear hb hbox hg) | ((with_reducible refine gate_dst (N := 2) rfl ?_); refine box_event ?hg (N := 2) ?hd (cs := #[.slice none 0 0, .slice none 0 0, .slice none 0 0]) (t := 29) ?hr ?_; (case hd => rfl); (case hg => rfl); (case hr => first | (go_simp; done) | (go_simp; rfl)); intro gb269 hg w78 hbox hb; have n0_ := Aside0.mk (bB BK268.out hb); have n1_ := Aside0.mk (below_step (hA HB.out) hb); have n2_ := Aside0.mk (hbox); have n3_ := Aside0.mk ((by rw [hg]; exact (below_size (hA HB.out)) : w.heap.size ≤ gb269)); have n4_ := Aside0.mk ((by rw [hg]; exact (below_size (hA HB.out)) : w.heap.size ≤ gb269)); have n5_ := Aside0.mk ((by rw [hg]; exact Nat.ne_of_lt (blk_lt (g := gb268) (o := .cells #[.slice A0_0 l0_0.length c0_0, .slice A0_1 l0_1.length c0_1, .slice A0_2 l0_2.length c0_2] 29 (0, 0)) (bA BK268.out)) : gb268 ≠ gb269)); have n6_ := Aside0.mk ((by rw [hg]; exact Nat.ne_of_gt (blk_lt (g := gb268) (o := .cells #[.slice A0_0 l0_0.length c0_0, .slice A0_1 l0_1.length c0_1, .slice A0_2 l0_2.length c0_2] 29 (0, 0)) (bA BK268.out)) : gb269 ≠ gb268)); clear BK268; clear HB; have BK268 := n0_; have HB := n1_; have BK269 := n2_; have GW269 := n3_; have GE269 := n4_; have NB268_269 := n5_; have NB269_268 := n6_; clear n0_ n1_ n2_ n3_ n4_ n5_ n6_; clear hb hbox hg; have hnb79 := NB268_269.out; have hnc79 := NB269_268.out; have hcz80_0 : w78.cell? ⟨gb268, 0, none⟩ = some (.slice A0_0 l0_0.length c0_0) := (blk_cell BK268.out 0).trans rfl; have hcz80_1 : w78.cell? ⟨gb268, 1, none⟩ = some (.slice A0_1 l0_1.length c0_1) := (blk_cell BK268.out 1).trans rfl; have hcz80_2 : w78.cell? ⟨gb268, 2, none⟩ = some (.slice A0_2 l0_2.length c0_2) := (blk_cell BK268.out 2).trans rfl; have hfz80_0 := blk_frozen BK268.out 0; have hfz80_1 := blk_frozen BK268.out 1; have hfz80_2 := blk_frozen BK268.out 2) | ((with_reducible refine gate_callee (f := 40) rfl ?_); refine goesL_ (some 9) rfl rfl Try.func40 (by kernel_rfl) rfl #[.agg #[.slice A0_0 l0_0.length c0_0, .slice A0_1 l0_1.length c0_1, .slice A0_2 l0_2.length c0_2]] rfl ar ?_; (with_reducible refine (impl_BookOk.calls k _ _ l0_0 (fun k_ => k_ < w.heap.size) _ _ l0_1 (fun k_ => k_ < w.heap.size) _ _ l0_2 false _ ?side1 ?side2 ?side3 ?side4 A2.out).mono ?_); (case side1 => exact cA (Kd.C_below HR0_0.out HB.out)); (case side2 => exact HC0_0.out); (case side3 => exact Kd.V_mk HC0_1.out (Kd.F_below (Kd.C_F (Kd.heap_int .i64) HR0_1.out) (hA HB.out))); (case side4 => exact Kd.V_mk HC0_2.out (Kd.F_below (Kd.C_F (Kd.heap_int .i64) HR0_2.out) (hA HB.out))); rintro e w81 ⟨rfl, hb⟩; refine ⟨_, rfl, ?_⟩; have n0_ := Aside0.mk (bB BK268.out hb); have n1_ := Aside0.mk (bB BK269.out hb); have n2_ := Aside0.mk (below_step (hA HB.out) hb); clear BK268; clear BK269; clear HB; have BK268 := n0_; have BK269 := n1_; have HB := n2_; clear n0_ n1_ n2_; (try clear hb); (try clear hb2); (try clear hk); (try clear hi); have hcz82_0 : w81.cell? ⟨gb269, 0, none⟩ = some (.slice none 0 0) := (blk_cell BK269.out 0).trans rfl; have hcz82_1 : w81.cell? ⟨gb269, 1, none⟩ = some (.slice none 0 0) := (blk_cell BK269.out 1).trans rfl; have hcz82_2 : w81.cell? ⟨gb269, 2, none⟩ = some (.slice none 0 0) := (blk_cell BK269.out 2).trans rfl; have hfz82_0 := blk_frozen BK269.out 0; have hfz82_1 := blk_frozen BK269.out 1; have hfz82_2 := blk_frozen BK269.out 2))
  refine bodyPost_ret (results_ct rfl _ _ gb269 29 #[.slice none 0 0, .slice none 0 0, .slice none 0 0] (0, 0) _ rfl (by refine bC (a := ?_); refine blk_put (cs := #[.slice none 0 0, .slice none 0 0, .slice none 0 0]) ?_ 2 _ rfl; refine bC (a := ?_); refine blk_put (cs := #[.slice none 0 0, .slice none 0 0, .slice none 0 0]) ?_ 1 _ rfl; refine bC (a := ?_); refine blk_put (cs := #[.slice none 0 0, .slice none 0 0, .slice none 0 0]) ?_ 0 _ rfl; refine bC (a := ?_); exact BK269.out) Try.underlying29 rfl (by kernel_rfl)) rfl ?_
  exact ⟨_, _, _, _, er, by first | exact Kd.R_nil _ _ _ _ _ | exact Kd.N_nil _ _ _ _ _ | exact Kd.V_nil _ _ _ _ _ | exact Kd.Q_nil _ _ _ _ _ | exact Kd.S_nil _ _ _ _ _, by first | exact Kd.R_nil _ _ _ _ _ | exact Kd.N_nil _ _ _ _ _ | exact Kd.V_nil _ _ _ _ _ | exact Kd.Q_nil _ _ _ _ _ | exact Kd.S_nil _ _ _ _ _, by first | exact Kd.R_nil _ _ _ _ _ | exact Kd.N_nil _ _ _ _ _ | exact Kd.V_nil _ _ _ _ _ | exact Kd.Q_nil _ _ _ _ _ | exact Kd.S_nil _ _ _ _ _, by first | exact Kd.R_nil _ _ _ _ _ | exact Kd.N_nil _ _ _ _ _ | exact Kd.V_nil _ _ _ _ _ | exact Kd.Q_nil _ _ _ _ _ | exact Kd.S_nil _ _ _ _ _, hA HB.out⟩

/-! ### impl_Talk_66: function 66 -/
def impl_Talk_66.f (l0 : List (S50)) : Option (List (S50)) := if l0.length ≤ 1048576 then some l0 else none
theorem impl_Talk_66.calls (A0 : Option Addr) (c0 : Nat) (l0 : List (S50)) (r : List (S50)) (w : World) (hr0 : Kd.C k50 w A0 l0.length l0) (hc0 : l0.length ≤ c0) (h : impl_Talk_66.f l0 = some r) :
  Calls Try.prog 66 #[.slice A0 l0.length c0] w fun e w' => ∃ v0_ : Value, e = .returned (v0_) ∧ Kd.R k50 50 w' w.heap.size (fun _ => True) v0_ r ∧ Below w.heap.size w w' := by
 unfold impl_Talk_66.f at h
 split at h
 ·obtain rfl := Option.some.inj h
  exact cloneT_calls A0 c0 _ w hr0 hc0 (by assumption)
 ·cases h

end Go.Proofs.Ytngnkfpciloamaa.MFnExactRestart
