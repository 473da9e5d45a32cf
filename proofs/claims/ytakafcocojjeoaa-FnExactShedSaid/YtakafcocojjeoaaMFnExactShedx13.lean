/- The functions that the law FnExactShed reaches, as plain functions, and that the code comes to them. Begun as a text of the print over stubs; turned by wip/handstub.py and wip/mend.py. -/
import Derived.Test.YtakafcocojjeoaaHandSort
import Derived.Test.YtakafcocojjeoaaMFnExactShedx0
import Derived.Test.YtakafcocojjeoaaMFnExactShedx3
import Derived.Test.YtakafcocojjeoaaMFnExactShedx7
namespace Go.Proofs.Ytakafcocojjeoaa.MFnExactShed
open Go.RowKit Go.Proofs.YtakafcocojjeoaaW.PrintWords Go.Proofs.YtakafcocojjeoaaW.PrintLast Go.Proofs.YtakafcocojjeoaaW.PrintMore
attribute [local go_sem] max2_int min2_int max_two min_two max_three min_three max_four min_four   -- for this text's walks alone
set_option linter.unusedVariables false
set_option linter.unusedSimpArgs false

-- NOT PRINTED: function 55 (slices_pdqsortOrdered_int)

/-! ### slices_Sort_int_int: function 46 -/
def slices_Sort_int_int.f (k : Nat) (l0 : List Int) : Option (List Int) := if l0.length < 4611686018427387904 then some (Go.Proofs.Ytakafcocojjeoaa.HandSort.sorted l0) else none
theorem slices_Sort_int_int.mono : ∀ a0 k, LeO (slices_Sort_int_int.f k a0) (slices_Sort_int_int.f (k + 1) a0) := fun _ _ => LeO.refl _
theorem slices_Sort_int_int.calls (k : Nat) (P0_ : Nat → Prop) (u9000_ : Value) (l0 : List Int) (r : List Int) (w0 w : World) (hB : Below w0.heap.size w0 w) (ho0 : Kd.R (Kd.int .i64) 3 w w0.heap.size P0_ u9000_ l0) (h : slices_Sort_int_int.f k l0 = some r) :
    Calls Try.prog 46 #[u9000_] w fun e w' => e = .returned (.tuple #[]) ∧ Kd.R (Kd.int .i64) 3 w' w0.heap.size (fun k_ => (P0_ k_ ∨ w.heap.size ≤ k_)) u9000_ r ∧ Below w0.heap.size w0 w' ∧ Kept w w' (fun k_ => P0_ k_) := by
  unfold slices_Sort_int_int.f at h
  by_cases c : l0.length < 4611686018427387904
  · rw [if_pos c] at h
    obtain rfl := Option.some.inj h
    refine (Go.Proofs.Ytakafcocojjeoaa.HandSort.sort_own u9000_ l0 w w0.heap.size P0_ c ho0).mono ?_
    rintro e w' ⟨rfl, hr, hg⟩
    exact ⟨rfl, Kd.R_mono hr (fun k_ hk => .inl hk), hB.grown hg hB.size (fun k e => Kd.R_base ho0 k e), Kept.of_grown (S := fun k_ => P0_ k_) hg (Kept.refl w _) (fun k_ e_ => .inl (ho0.1 k_ e_))⟩
  · rw [if_neg c] at h
    cases h

/-! ### impl_Shed: function 24 -/
mutual
def impl_Shed.j0 : Nat → Int → Int → List (S43) → Bool → Option ((List (S43)) × Bool)
  | 0, _, _, _, _ => none
  | k + 1, x1, x2, x3, x25 => if x25 = true then (some (([] : List (S43)), false)) else (if 0 ≤ (x3.length : Int) then (if ((x3.length : Int) : Int).toNat ≤ 35184372088832 then ((some (List.replicate ((x3.length : Int) : Int).toNat 0 : List Int)).bind fun y293 => (impl_Shed.l0 k x1 x2 x3 y293 (y293.length : Int) 0)) else (none)) else (none))
def impl_Shed.l0 : Nat → Int → Int → List (S43) → List Int → Int → Int → Option ((List (S43)) × Bool)
  | 0, _, _, _, _, _, _ => none
  | k + 1, x1, x2, x3, x8, x30, x31 => if x31 < x30 then (if 0 ≤ x31 then (if x31 < (x8.length : Int) then (impl_Shed.l0 k x1 x2 x3 (x8.set (x31 : Int).toNat x31) x30 (wrap64 (x31 + 1))) else (none)) else (none)) else ((slices_SortStableFunc_int_int.f k x8 x3).bind fun t297 => (if 0 ≤ (mn (x8.length : Int) (mx 0 (wrap64 (x2 - x1)))) then (if (mn (x8.length : Int) (mx 0 (wrap64 (x2 - x1)))) ≤ (x8.length : Int) then ((some (t297.take ((mn (x8.length : Int) (mx 0 (wrap64 (x2 - x1)))) : Int).toNat : List Int)).bind fun y298 => ((slices_Sort_int_int.f k y298).bind fun t301 => (impl_Shed.l1 k x3 ([] : List (S43)) t301 (y298.length : Int) 0))) else (none)) else (none)))
def impl_Shed.l1 : Nat → List (S43) → List (S43) → List Int → Int → Int → Option ((List (S43)) × Bool)
  | 0, _, _, _, _, _ => none
  | k + 1, x3, x10, x53, x54, x55 => if x55 < x54 then (if 0 ≤ x55 then (if x55 < (x53.length : Int) then (if 0 ≤ (rd x53 x55) then (if (rd x53 x55) < (x3.length : Int) then (if x10.length < 5864062014805 then (impl_Shed.l1 k x3 (x10 ++ [(⟨(rd_T43 x3 (rd x53 x55)).f0, (rd_T43 x3 (rd x53 x55)).f1, (rd_T43 x3 (rd x53 x55)).f2⟩ : S43)]) x53 x54 (wrap64 (x55 + 1))) else (none)) else (none)) else (none)) else (none)) else (none)) else (some (x10, true))
end
def impl_Shed.f (k : Nat) (l0 : List (S43)) (a1 : Int) (a2 : Int) : Option ((List (S43)) × Bool) := (impl_arrivalsOk.f k l0).bind fun t290 => (if t290 = true then ((impl_in.f a1 0 10000).bind fun t291 => (if t291 = true then ((impl_in.f a2 0 10000).bind fun t292 => (impl_Shed.j0 k a1 a2 l0 (!t292))) else (impl_Shed.j0 k a1 a2 l0 true))) else (impl_Shed.j0 k a1 a2 l0 true))
theorem impl_Shed.mono_l : ∀ k, (∀ y0 y1 y2 y3, LeO (impl_Shed.j0 k y0 y1 y2 y3) (impl_Shed.j0 (k + 1) y0 y1 y2 y3)) ∧ (∀ y0 y1 y2 y3 y4 y5, LeO (impl_Shed.l0 k y0 y1 y2 y3 y4 y5) (impl_Shed.l0 (k + 1) y0 y1 y2 y3 y4 y5)) ∧ (∀ y0 y1 y2 y3 y4, LeO (impl_Shed.l1 k y0 y1 y2 y3 y4) (impl_Shed.l1 (k + 1) y0 y1 y2 y3 y4))
  | 0 => ⟨fun _ _ _ _ r h => by simp [impl_Shed.j0] at h, fun _ _ _ _ _ _ r h => by simp [impl_Shed.l0] at h, fun _ _ _ _ _ r h => by simp [impl_Shed.l1] at h⟩
  | k + 1 => by
    obtain ⟨ih0, ih1, ih2⟩ := impl_Shed.mono_l k
    refine ⟨?_, ?_, ?_⟩
    · intro y0 y1 y2 y3
      unfold impl_Shed.j0
      repeat' first
      | (with_reducible exact ih0 _ _ _ _)
      | (with_reducible exact ih1 _ _ _ _ _ _)
      | (with_reducible exact ih2 _ _ _ _ _)
      | (with_reducible exact impl_arrivalsOk.mono _ _)
      | (with_reducible exact slices_SortStableFunc_int_int.mono _ _ _)
      | (with_reducible exact slices_Sort_int_int.mono _ _)
      | (with_reducible exact LeO.refl _)
      | (with_reducible exact LeO.none _)
      | (with_reducible refine LeO.ite ?_ ?_)
      | (with_reducible refine LeO.bind ?_ (fun _ => ?_))
      | exact ih0 _ _ _ _
      | exact ih1 _ _ _ _ _ _
      | exact ih2 _ _ _ _ _
      | exact impl_arrivalsOk.mono _ _
      | exact slices_SortStableFunc_int_int.mono _ _ _
      | exact slices_Sort_int_int.mono _ _
      | exact LeO.none _
      | refine LeO.ite ?_ ?_
      | refine LeO.bind ?_ (fun _ => ?_)
    · intro y0 y1 y2 y3 y4 y5
      unfold impl_Shed.l0
      repeat' first
      | (with_reducible exact ih0 _ _ _ _)
      | (with_reducible exact ih1 _ _ _ _ _ _)
      | (with_reducible exact ih2 _ _ _ _ _)
      | (with_reducible exact impl_arrivalsOk.mono _ _)
      | (with_reducible exact slices_SortStableFunc_int_int.mono _ _ _)
      | (with_reducible exact slices_Sort_int_int.mono _ _)
      | (with_reducible exact LeO.refl _)
      | (with_reducible exact LeO.none _)
      | (with_reducible refine LeO.ite ?_ ?_)
      | (with_reducible refine LeO.bind ?_ (fun _ => ?_))
      | exact ih0 _ _ _ _
      | exact ih1 _ _ _ _ _ _
      | exact ih2 _ _ _ _ _
      | exact impl_arrivalsOk.mono _ _
      | exact slices_SortStableFunc_int_int.mono _ _ _
      | exact slices_Sort_int_int.mono _ _
      | exact LeO.none _
      | refine LeO.ite ?_ ?_
      | refine LeO.bind ?_ (fun _ => ?_)
    · intro y0 y1 y2 y3 y4
      unfold impl_Shed.l1
      repeat' first
      | (with_reducible exact ih0 _ _ _ _)
      | (with_reducible exact ih1 _ _ _ _ _ _)
      | (with_reducible exact ih2 _ _ _ _ _)
      | (with_reducible exact impl_arrivalsOk.mono _ _)
      | (with_reducible exact slices_SortStableFunc_int_int.mono _ _ _)
      | (with_reducible exact slices_Sort_int_int.mono _ _)
      | (with_reducible exact LeO.refl _)
      | (with_reducible exact LeO.none _)
      | (with_reducible refine LeO.ite ?_ ?_)
      | (with_reducible refine LeO.bind ?_ (fun _ => ?_))
      | exact ih0 _ _ _ _
      | exact ih1 _ _ _ _ _ _
      | exact ih2 _ _ _ _ _
      | exact impl_arrivalsOk.mono _ _
      | exact slices_SortStableFunc_int_int.mono _ _ _
      | exact slices_Sort_int_int.mono _ _
      | exact LeO.none _
      | refine LeO.ite ?_ ?_
      | refine LeO.bind ?_ (fun _ => ?_)
theorem impl_Shed.mono : ∀ a0 a1 a2 k, LeO (impl_Shed.f k a0 a1 a2) (impl_Shed.f (k + 1) a0 a1 a2) := by
  intro a0 a1 a2 k
  obtain ⟨ih0, ih1, ih2⟩ := impl_Shed.mono_l k
  unfold impl_Shed.f
  repeat' first
      | (with_reducible exact ih0 _ _ _ _)
      | (with_reducible exact ih1 _ _ _ _ _ _)
      | (with_reducible exact ih2 _ _ _ _ _)
      | (with_reducible exact impl_arrivalsOk.mono _ _)
      | (with_reducible exact slices_SortStableFunc_int_int.mono _ _ _)
      | (with_reducible exact slices_Sort_int_int.mono _ _)
      | (with_reducible exact LeO.refl _)
      | (with_reducible exact LeO.none _)
      | (with_reducible refine LeO.ite ?_ ?_)
      | (with_reducible refine LeO.bind ?_ (fun _ => ?_))
      | exact ih0 _ _ _ _
      | exact ih1 _ _ _ _ _ _
      | exact ih2 _ _ _ _ _
      | exact impl_arrivalsOk.mono _ _
      | exact slices_SortStableFunc_int_int.mono _ _ _
      | exact slices_Sort_int_int.mono _ _
      | exact LeO.none _
      | refine LeO.ite ?_ ?_
      | refine LeO.bind ?_ (fun _ => ?_)
set_option maxHeartbeats 8000000 in
set_option maxRecDepth 100000 in
theorem impl_Shed.calls (k : Nat) (A0 : Option Addr) (c0 : Nat) (l0 : List (S43)) (a1 : Int) (a2 : Int) (r1 : List (S43)) (r2 : Bool) (w00 : World) (hr0 : Kd.C k43 w00 A0 l0.length l0) (hc0 : l0.length ≤ c0) (h : impl_Shed.f k l0 a1 a2 = some (r1, r2)) :
    Calls Try.prog 24 #[.slice A0 l0.length c0, .int .i64 a1, .int .i64 a2] w00 fun e w00' => ∃ v0_ : Value, e = .returned (.tuple #[v0_, .bool r2]) ∧ Kd.R k43 43 w00' w00.heap.size (fun _ => True) v0_ r1 ∧ Below w00.heap.size w00 w00' := by
  have hu43 := Try.underlying43
  have HR0 := Aside0.mk hr0
  have HC0 := Aside0.mk hc0
  clear hr0 hc0
  have HB := Aside0.mk (Below.refl w00.heap.size w00)
  have H : ((impl_arrivalsOk.f k l0).bind fun t290 => (if t290 = true then ((impl_in.f a1 0 10000).bind fun t291 => (if t291 = true then ((impl_in.f a2 0 10000).bind fun t292 => (impl_Shed.j0 k a1 a2 l0 (!t292))) else (impl_Shed.j0 k a1 a2 l0 true))) else (impl_Shed.j0 k a1 a2 l0 true))) = some (r1, r2) := h
  clear h
  have HC4 := Aside0.mk H
  clear H
  go_enter Try.func24, Try.ntmps24
  go_upto_region 1 with (fail)
  obtain ⟨w, hw_⟩ : ∃ w_ : World, w_ = w00.alloc (.cells #[.slice A0 l0.length c0] 29 (0, 0)) := ⟨_, rfl⟩
  obtain ⟨gb3, hgA_⟩ : ∃ g_ : Nat, g_ = w00.heap.size := ⟨_, rfl⟩
  have hbx_ : w.heap[gb3]? = some (.cells #[.slice A0 l0.length c0] 29 (0, 0)) := by rw [hw_, hgA_]; exact blk_new w00 _
  have hb : Below w00.heap.size w00 w := by rw [hw_]; exact below_alloc (Below.refl _ _) _
  have n0_ := Aside0.mk (Kd.C_below HR0.out hb)
  have BXL := Aside0.mk (blk_lt hbx_)
  have BX := Aside0.mk hbx_
  have hcl_ : w.cell? ⟨gb3, 0, none⟩ = some (.slice A0 l0.length c0) := (blk_cell hbx_ 0).trans rfl
  have HCL := Aside0.mk hcl_
  have FIN := Aside0.mk (show ∀ (e : Ending) (w' : World), (∃ v0_ : Value, e = .returned (.tuple #[v0_, .bool r2]) ∧ Kd.R k43 43 w' w.heap.size (fun _ => True) v0_ r1 ∧ Below w.heap.size w w') → (∃ v0_ : Value, e = .returned (.tuple #[v0_, .bool r2]) ∧ Kd.R k43 43 w' w00.heap.size (fun _ => True) v0_ r1 ∧ Below w00.heap.size w00 w') from fun e w' ⟨v_, e_, h1_, h2_⟩ => ⟨v_, e_, Kd.R_lower h1_ hb.size, below_step hb h2_⟩)
  clear HR0 HB
  have HR0 := n0_
  have HB := Aside0.mk (Below.refl w.heap.size w)
  clear n0_ hb hbx_
  rw [← hw_, ← hgA_]
  clear hw_ hgA_
  go_cut [25] (fun v25 wc => ∃ (kq : Nat) (x25_3 : Bool), v25 = .bool x25_3 ∧ Aside0 (impl_Shed.j0 kq a1 a2 l0 x25_3 = some (r1, r2)) ∧ Aside0 (kq ≤ k) ∧ Aside0 (Below w.heap.size w wc))
  case first =>
    have H := HC4.out
    clear HC4
    replace H := Option.bind_eq_some_iff.mp H
    obtain ⟨t290, A50, H⟩ := H
    replace H : (if t290 = true then ((impl_in.f a1 0 10000).bind fun t291 => (if t291 = true then ((impl_in.f a2 0 10000).bind fun t292 => (impl_Shed.j0 k a1 a2 l0 (!t292))) else (impl_Shed.j0 k a1 a2 l0 true))) else (impl_Shed.j0 k a1 a2 l0 true)) = some (r1, r2) := H
    have A5 := Aside0.mk A50
    clear A50
    by_cases c6 : t290 = true
    · subst c6
      have H1 : ((impl_in.f a1 0 10000).bind fun t291 => (if t291 = true then ((impl_in.f a2 0 10000).bind fun t292 => (impl_Shed.j0 k a1 a2 l0 (!t292))) else (impl_Shed.j0 k a1 a2 l0 true))) = some (r1, r2) := by rw [if_pos rfl] at H; exact H
      clear H
      have H := H1
      clear H1
      replace H := Option.bind_eq_some_iff.mp H
      obtain ⟨t291, A70, H⟩ := H
      replace H : (if t291 = true then ((impl_in.f a2 0 10000).bind fun t292 => (impl_Shed.j0 k a1 a2 l0 (!t292))) else (impl_Shed.j0 k a1 a2 l0 true)) = some (r1, r2) := H
      have A7 := Aside0.mk A70
      clear A70
      by_cases c8 : t291 = true
      · subst c8
        have H1 : ((impl_in.f a2 0 10000).bind fun t292 => (impl_Shed.j0 k a1 a2 l0 (!t292))) = some (r1, r2) := by rw [if_pos rfl] at H; exact H
        clear H
        have H := H1
        clear H1
        replace H := Option.bind_eq_some_iff.mp H
        obtain ⟨t292, A90, H⟩ := H
        replace H : (impl_Shed.j0 k a1 a2 l0 (!t292)) = some (r1, r2) := H
        have A9 := Aside0.mk A90
        clear A90
        have H' := Aside0.mk H
        clear H
        go_wp2_with (first | ((with_reducible refine gate_callee (f := 33) rfl ?_); refine goesL_ (some 14) rfl rfl Try.func33 (by kernel_rfl) rfl #[.slice A0 l0.length c0] rfl (by (try simp only [List.map_toArray, List.map_cons, List.map_nil]); first | done | rfl | (simp only [List.length_drop, List.length_take]; rfl)) ?_; (with_reducible refine (impl_arrivalsOk.calls k _ _ l0 true _ ?side1 ?side2 A5.out).mono ?_); (case side1 => repeat (first | exact (Kd.C_below HR0.out HB.out) | (with_reducible refine Kd.C_alloc ?_ _) | (with_reducible refine Kd.C_drewN ?_ _) | (with_reducible refine Kd.C_drew ?_))); (case side2 => exact HC0.out); rintro e w10 ⟨rfl, hb⟩; refine ⟨_, rfl, ?_⟩; have n0_ := Aside0.mk (below_step (by repeat (first | (with_reducible first | exact HB.out | apply below_alloc | apply pw_below_drewN | apply below_drew1) | exact HB.out)) hb); clear HB; have HB := n0_; clear n0_; (try clear hb); (try clear hb2); (try clear hk); (try clear hi)) | (go_at_call 31; (with_reducible refine (impl_in.calls a1 0 10000 true _ A7.out).mono ?_); rintro e w' ⟨rfl, ⟨nd, rfl⟩⟩) | (go_at_call 31; (with_reducible refine (impl_in.calls a2 0 10000 t292 _ A9.out).mono ?_); rintro e w' ⟨rfl, ⟨nd, rfl⟩⟩))
        go_meet
        case rel => exact ⟨_, (!t292), (by first | rfl | (simp; done) | (simp [*]; done)), H', ⟨by first | omega | exact Nat.le_refl _⟩, ⟨by repeat (first | (with_reducible first | exact HB.out | apply below_alloc | apply pw_below_drewN | apply below_drew1) | exact HB.out)⟩⟩
      · replace c8 := Bool.eq_false_iff.mpr c8
        subst c8
        have H1 : (impl_Shed.j0 k a1 a2 l0 true) = some (r1, r2) := by rw [if_neg (show ¬ (false = true) by decide)] at H; exact H
        clear H
        have H := H1
        clear H1
        have H' := Aside0.mk H
        clear H
        go_wp2_with (first | ((with_reducible refine gate_callee (f := 33) rfl ?_); refine goesL_ (some 14) rfl rfl Try.func33 (by kernel_rfl) rfl #[.slice A0 l0.length c0] rfl (by (try simp only [List.map_toArray, List.map_cons, List.map_nil]); first | done | rfl | (simp only [List.length_drop, List.length_take]; rfl)) ?_; (with_reducible refine (impl_arrivalsOk.calls k _ _ l0 true _ ?side1 ?side2 A5.out).mono ?_); (case side1 => repeat (first | exact (Kd.C_below HR0.out HB.out) | (with_reducible refine Kd.C_alloc ?_ _) | (with_reducible refine Kd.C_drewN ?_ _) | (with_reducible refine Kd.C_drew ?_))); (case side2 => exact HC0.out); rintro e w11 ⟨rfl, hb⟩; refine ⟨_, rfl, ?_⟩; have n0_ := Aside0.mk (below_step (by repeat (first | (with_reducible first | exact HB.out | apply below_alloc | apply pw_below_drewN | apply below_drew1) | exact HB.out)) hb); clear HB; have HB := n0_; clear n0_; (try clear hb); (try clear hb2); (try clear hk); (try clear hi)) | (go_at_call 31; (with_reducible refine (impl_in.calls a1 0 10000 false _ A7.out).mono ?_); rintro e w' ⟨rfl, ⟨nd, rfl⟩⟩))
        go_meet
        case rel => exact ⟨_, (true), (by first | rfl | (simp; done) | (simp [*]; done)), H', ⟨by first | omega | exact Nat.le_refl _⟩, ⟨by repeat (first | (with_reducible first | exact HB.out | apply below_alloc | apply pw_below_drewN | apply below_drew1) | exact HB.out)⟩⟩
    · replace c6 := Bool.eq_false_iff.mpr c6
      subst c6
      have H1 : (impl_Shed.j0 k a1 a2 l0 true) = some (r1, r2) := by rw [if_neg (show ¬ (false = true) by decide)] at H; exact H
      clear H
      have H := H1
      clear H1
      have H' := Aside0.mk H
      clear H
      go_wp2_with (first | ((with_reducible refine gate_callee (f := 33) rfl ?_); refine goesL_ (some 14) rfl rfl Try.func33 (by kernel_rfl) rfl #[.slice A0 l0.length c0] rfl (by (try simp only [List.map_toArray, List.map_cons, List.map_nil]); first | done | rfl | (simp only [List.length_drop, List.length_take]; rfl)) ?_; (with_reducible refine (impl_arrivalsOk.calls k _ _ l0 false _ ?side1 ?side2 A5.out).mono ?_); (case side1 => repeat (first | exact (Kd.C_below HR0.out HB.out) | (with_reducible refine Kd.C_alloc ?_ _) | (with_reducible refine Kd.C_drewN ?_ _) | (with_reducible refine Kd.C_drew ?_))); (case side2 => exact HC0.out); rintro e w12 ⟨rfl, hb⟩; refine ⟨_, rfl, ?_⟩; have n0_ := Aside0.mk (below_step (by repeat (first | (with_reducible first | exact HB.out | apply below_alloc | apply pw_below_drewN | apply below_drew1) | exact HB.out)) hb); clear HB; have HB := n0_; clear n0_; (try clear hb); (try clear hb2); (try clear hk); (try clear hi)))
      go_meet
      case rel => exact ⟨_, (true), (by first | rfl | (simp; done) | (simp [*]; done)), H', ⟨by first | omega | exact Nat.le_refl _⟩, ⟨by repeat (first | (with_reducible first | exact HB.out | apply below_alloc | apply pw_below_drewN | apply below_drew1) | exact HB.out)⟩⟩
  case rest =>
    clear HC4
    try clear c2
    try clear p2
    try clear c3
    try clear c6
    try clear c8
    obtain ⟨kq, x25_3, rfl, HA, HJ3, HB⟩ := hcut
    (try clear hcl_); have hcl_ := (HB.out.cell (World.block_lt_of_cell? w _ HCL.out)).trans HCL.out
    cases kq with
    | zero => exact absurd HA.out (by simp [impl_Shed.j0])
    | succ kj3 =>
      have H := HA.out
      clear HA
      simp only [impl_Shed.j0] at H
      by_cases c13 : x25_3 = true
      · subst c13
        have H1 : (some (([] : List (S43)), false)) = some (r1, r2) := by rw [if_pos rfl] at H; exact H
        clear H
        have H := H1
        clear H1
        simp only [Option.some.injEq, Prod.mk.injEq] at H
        obtain ⟨rfl, rfl⟩ := H
        go_wp2
        go_ret2
        exact FIN.out _ _ ⟨_, by first | rfl | (simp [errW_none, errW_some] <;> rfl) | (simp [*, errW_none, errW_some] <;> rfl), by first | exact Kd.R_nil _ _ _ _ _ | exact Kd.N_nil _ _ _ _ _ | exact Kd.V_nil _ _ _ _ _ | exact Kd.Q_nil _ _ _ _ _ | exact Kd.S_nil _ _ _ _ _, by repeat (first | (with_reducible first | exact HB.out | apply below_alloc | apply pw_below_drewN | apply below_drew1) | exact HB.out)⟩
      · replace c13 := Bool.eq_false_iff.mpr c13
        subst c13
        have H1 : (if 0 ≤ (l0.length : Int) then (if ((l0.length : Int) : Int).toNat ≤ 35184372088832 then ((some (List.replicate ((l0.length : Int) : Int).toNat 0 : List Int)).bind fun y293 => (impl_Shed.l0 kj3 a1 a2 l0 y293 (y293.length : Int) 0)) else (none)) else (none)) = some (r1, r2) := by rw [if_neg (show ¬ (false = true) by decide)] at H; exact H
        clear H
        have H := H1
        clear H1
        by_cases c14 : 0 ≤ (l0.length : Int)
        · rw [if_pos c14] at H
          have c14b0 := eq_true c14
          have c14b1 : decide (0 ≤ (l0.length : Int)) = true := decide_eq_true c14
          clear c14
          by_cases c15 : ((l0.length : Int) : Int).toNat ≤ 35184372088832
          · rw [if_pos c15] at H
            have c15b0 := eq_true c15
            have c15b1 : decide (((l0.length : Int) : Int).toNat ≤ 35184372088832) = true := decide_eq_true c15
            clear c15
            obtain ⟨y293, hy293⟩ : ∃ y_ : List Int, y_ = (List.replicate ((l0.length : Int) : Int).toNat 0) := ⟨_, rfl⟩
            replace H : (impl_Shed.l0 kj3 a1 a2 l0 y293 (y293.length : Int) 0) = some (r1, r2) := by first | (rw [hy293]; with_reducible exact H) | (have H2_ := (Option.bind_some _ _).symm.trans H; rw [hy293]; with_reducible exact H2_) | (have H2_ := (Option.bind_some _ _).symm.trans H; with_reducible exact H2_) | with_reducible exact H | (rw [hy293]; exact H) | exact H
            have Ny293 := Aside0.mk hy293
            clear hy293
            have H' := Aside0.mk H
            clear H
            go_wp2_with (first | ((with_reducible refine gate_dst (N := 28) rfl ?_); refine Kd.R_make (Kd.int .i64) _ 3 rfl (N := 28) rfl 22 _ _ rfl (l0.length : Int) rfl rfl Try.underlying22 (.int .i64 0) 8 info3 rfl (by decide) (by omega) 0 (ok := fun _ => True) (okp := fun _ => True) rfl (fun _ hk => hk) trivial (of_decide_eq_true (by first | (with_reducible assumption) | assumption)) (Nat.le_trans (Nat.mul_le_mul_right _ (of_decide_eq_true (by first | (with_reducible assumption) | assumption) : (l0.length : Int).toNat ≤ 35184372088832)) (by omega)) (Below.refl _ _) (Nat.le_refl _) ?_; intro v294 w16 ho17 hb hg_ hnew_; clear hg_ hnew_; (first | rw [← Ny293.out] at ho17 | (simp only [Int.reduceToNat] at ho17; rw [← Ny293.out] at ho17)); have n0_ := Aside0.mk (Kd.R_lower ho17 (below_size (by repeat (first | (with_reducible first | exact HB.out | apply below_alloc | apply pw_below_drewN | apply below_drew1) | exact HB.out)))); have n1_ := Aside0.mk (below_step (by repeat (first | (with_reducible first | exact HB.out | apply below_alloc | apply pw_below_drewN | apply below_drew1) | exact HB.out)) hb); clear HB; have HO295 := n0_; have HB := n1_; clear n0_ n1_; clear hb ho17; obtain ⟨Ao18, co18, eo18⟩ := Kd.R_slice HO295.out; subst eo18))
            go_loopg [31] kj3 (fun kq v31 w' => ∃ (x8_2 : List Int) (x31_2 : Int), v31 = .int .i64 x31_2 ∧ Aside0 (impl_Shed.l0 kq a1 a2 l0 x8_2 (y293.length : Int) x31_2 = some (r1, r2)) ∧ Aside0 (kq ≤ kj3) ∧ Aside0 (Kd.R (Kd.int .i64) 3 w' w.heap.size (fun _ => True) (.slice Ao18 y293.length co18) x8_2) ∧ Aside0 (Below w.heap.size w w'))
            case atStart => exact ⟨(y293), (0), (by first | rfl | (simp; done) | (simp [*]; done)), H', ⟨Nat.le_refl _⟩, ⟨by (with_reducible repeat (first | apply Kd.R_alloc | apply Kd.R_drewN | apply Kd.R_drew)); exact HO295.out⟩, ⟨by repeat (first | (with_reducible first | exact HB.out | apply below_alloc | apply pw_below_drewN | apply below_drew1) | exact HB.out)⟩⟩
            case round =>
              clear H'
              try clear c1
              try clear c2
              try clear p2
              try clear c3
              try clear c6
              try clear c8
              try clear c13
              try clear c14
              try clear c14b0
              try clear c14b1
              try clear c15
              try clear c15b0
              try clear c15b1
              try clear p2
              obtain ⟨x8_2, x31_2, rfl, HA, HK2, HO_8, HB⟩ := hrel
              have hl8_2 := (Kd.R_reads' HO_8.out).1
              rw [hl8_2] at HO_8
              (try simp only [hl8_2])
              cases gk with
              | zero => exact absurd HA.out (by simp [impl_Shed.l0])
              | succ k2 =>
                have H := HA.out
                clear HA
                simp only [impl_Shed.l0] at H
                by_cases c19 : x31_2 < (y293.length : Int)
                · rw [if_pos c19] at H
                  have c19b0 : decide (x31_2 < (y293.length : Int)) = true := decide_eq_true c19
                  clear c19
                  by_cases c20 : 0 ≤ x31_2
                  · rw [if_pos c20] at H
                    have c20b0 : decide (0 ≤ x31_2) = true := decide_eq_true c20
                    clear c20
                    by_cases c21 : x31_2 < (x8_2.length : Int)
                    · rw [if_pos c21] at H
                      have c21b0 : decide (x31_2 < (x8_2.length : Int)) = true := decide_eq_true c21
                      clear c21
                      obtain ⟨y296, hy296⟩ : ∃ y_ : List Int, y_ = (x8_2.set (x31_2 : Int).toNat x31_2) := ⟨_, rfl⟩
                      replace H : (impl_Shed.l0 k2 a1 a2 l0 y296 (y293.length : Int) (wrap64 (x31_2 + 1))) = some (r1, r2) := by first | (rw [hy296]; with_reducible exact H) | (have H2_ := (Option.bind_some _ _).symm.trans H; rw [hy296]; with_reducible exact H2_) | (have H2_ := (Option.bind_some _ _).symm.trans H; with_reducible exact H2_) | with_reducible exact H | (rw [hy296]; exact H) | exact H
                      have Ny296 := Aside0.mk hy296
                      clear hy296
                      have H' := Aside0.mk H
                      clear H
                      have p22 : 0 ≤ (x31_2 : Int) := of_decide_eq_true (by first | (with_reducible assumption) | assumption)
                      have q22 : (x31_2 : Int) < ((x8_2.length : Int) : Int) := of_decide_eq_true (by first | (with_reducible assumption) | assumption)
                      obtain ⟨go22, co22, eo22, gb22, gl22, cl22, HG22⟩ := Kd.R_form HO_8.out (by omega)
                      (first | cases eo22 | (injection eo22 with ea_ en_ ec_; (first | subst ea_ | (injection ea_ with ea_; subst ea_)); subst ec_; clear en_))
                      have GB22 := Aside0.mk gb22
                      have GG22 := Aside0.mk HG22
                      clear gb22 gl22 HG22
                      obtain ⟨hx22_0, hf22_0⟩ := Kd.R_celln 0 HO_8.out (x31_2 : Int) p22 q22
                      replace p22 := eq_true p22
                      replace q22 := eq_true q22
                      have HP23 := Kd.R_putg HO_8.out (x31_2 : Int) x31_2
                      go_wp2_with (first | ((with_reducible refine gate_store (t := 3) (p := 37) rfl ?_); refine store_event (t := 3) (p := 37) (v := ?vo_w24) (w1 := (wr.setCell ⟨go22, (x31_2 : Int).toNat, none⟩ (.int .i64 x31_2))) ?hg ?ho ?hn ?hr ?_; (case ho => rfl); (case hg => rfl); (case hn => rfl); (case hr => first | (go_simp; done) | (go_simp; rfl)); intro w24 hw; have hg : wr.grownBy w24 (some go22) := (by rw [hw]; exact HP23.2); have hp_ : Kd.R (Kd.int .i64) 3 w24 w.heap.size (fun _ => True) (.slice (some ⟨go22, 0, none⟩) x8_2.length co18) y296 := (by rw [hw, Ny296.out]; exact HP23.1); clear HP23; have n0_ := Aside0.mk (hp_); have n1_ := Aside0.mk ((by rw [hw]; exact below_set (HB.out) GB22.out : Below w.heap.size w w24)); clear HO_8; clear HB; have HO_8 := n0_; have HB := n1_; clear n0_ n1_; clear hg hw hp_))
                      (try simp only [← hl8_2])
                      go_roundg k2
                      case measure => have := HJ3.out; have := HK2.out; omega
                      case rel => exact ⟨(y296), (wrap64 (x31_2 + 1)), (by first | rfl | (simp; done) | (simp [*]; done)), H', ⟨by have := HJ3.out; have := HK2.out; omega⟩, ⟨by (try simp only [hl8_2]); (with_reducible repeat (first | apply Kd.R_alloc | apply Kd.R_drewN | apply Kd.R_drew)); exact HO_8.out⟩, ⟨by repeat (first | (with_reducible first | exact HB.out | apply below_alloc | apply pw_below_drewN | apply below_drew1) | exact HB.out)⟩⟩
                    · rw [if_neg c21] at H
                      exact absurd H (by simp)
                  · rw [if_neg c20] at H
                    exact absurd H (by simp)
                · rw [if_neg c19] at H
                  have c19b0 : decide (x31_2 < (y293.length : Int)) = false := decide_eq_false c19
                  have c19z_ : decide (x31_2 < (x8_2.length : Int)) = false := by rw [← hl8_2]; exact c19b0
                  clear c19
                  replace H := Option.bind_eq_some_iff.mp H
                  obtain ⟨t297, A250, H⟩ := H
                  replace H : (if 0 ≤ (mn (x8_2.length : Int) (mx 0 (wrap64 (a2 - a1)))) then (if (mn (x8_2.length : Int) (mx 0 (wrap64 (a2 - a1)))) ≤ (x8_2.length : Int) then ((some (t297.take ((mn (x8_2.length : Int) (mx 0 (wrap64 (a2 - a1)))) : Int).toNat : List Int)).bind fun y298 => ((slices_Sort_int_int.f k2 y298).bind fun t301 => (impl_Shed.l1 k2 l0 ([] : List (S43)) t301 (y298.length : Int) 0))) else (none)) else (none)) = some (r1, r2) := H
                  have A25 := Aside0.mk A250
                  clear A250
                  obtain ⟨ji26, hji26⟩ : ∃ j_ : Int, (mx 0 (wrap64 (a2 - a1))) = j_ := ⟨_, rfl⟩
                  replace H : (if 0 ≤ (mn (x8_2.length : Int) (ji26)) then (if (mn (x8_2.length : Int) (ji26)) ≤ (x8_2.length : Int) then ((some (t297.take ((mn (x8_2.length : Int) (ji26)) : Int).toNat : List Int)).bind fun y298 => ((slices_Sort_int_int.f k2 y298).bind fun t301 => (impl_Shed.l1 k2 l0 ([] : List (S43)) t301 (y298.length : Int) 0))) else (none)) else (none)) = some (r1, r2) := by first | (rw [hji26] at H; exact H) | (simp only [hji26] at H ⊢; exact H)
                  (try rw [hji26] at A25)
                  have hji26_ : (if 0 < (wrap64 (a2 - a1)) then (wrap64 (a2 - a1)) else 0) = ji26 := hji26
                  obtain ⟨ji27, hji27⟩ : ∃ j_ : Int, (mn (x8_2.length : Int) (ji26)) = j_ := ⟨_, rfl⟩
                  replace H : (if 0 ≤ (ji27) then (if (ji27) ≤ (x8_2.length : Int) then ((some (t297.take ((ji27) : Int).toNat : List Int)).bind fun y298 => ((slices_Sort_int_int.f k2 y298).bind fun t301 => (impl_Shed.l1 k2 l0 ([] : List (S43)) t301 (y298.length : Int) 0))) else (none)) else (none)) = some (r1, r2) := by first | (rw [hji27] at H; exact H) | (simp only [hji27] at H ⊢; exact H)
                  (try rw [hji27] at A25)
                  have hji27_ : (if (ji26) < (x8_2.length : Int) then (ji26) else (x8_2.length : Int)) = ji27 := hji27
                  by_cases c28 : 0 ≤ (ji27)
                  · rw [if_pos c28] at H
                    have c28b0 := eq_true c28
                    have c28b1 : decide (0 ≤ (ji27)) = true := decide_eq_true c28
                    clear c28
                    by_cases c29 : (ji27) ≤ (x8_2.length : Int)
                    · rw [if_pos c29] at H
                      have c29b0 := eq_true c29
                      have c29b1 : decide ((ji27) ≤ (x8_2.length : Int)) = true := decide_eq_true c29
                      clear c29
                      obtain ⟨y298, hy298⟩ : ∃ y_ : List Int, y_ = (t297.take ((ji27) : Int).toNat) := ⟨_, rfl⟩
                      replace H : ((slices_Sort_int_int.f k2 y298).bind fun t301 => (impl_Shed.l1 k2 l0 ([] : List (S43)) t301 (y298.length : Int) 0)) = some (r1, r2) := by first | (rw [hy298]; with_reducible exact H) | (have H2_ := (Option.bind_some _ _).symm.trans H; rw [hy298]; with_reducible exact H2_) | (have H2_ := (Option.bind_some _ _).symm.trans H; with_reducible exact H2_) | with_reducible exact H | (rw [hy298]; exact H) | exact H
                      have Ny298 := Aside0.mk hy298
                      clear hy298
                      replace H := Option.bind_eq_some_iff.mp H
                      obtain ⟨t301, A300, H⟩ := H
                      replace H : (impl_Shed.l1 k2 l0 ([] : List (S43)) t301 (y298.length : Int) 0) = some (r1, r2) := H
                      have A30 := Aside0.mk A300
                      clear A300
                      have H' := Aside0.mk H
                      clear H
                      go_wp2_with (first | ((with_reducible refine gate_callee (f := 44) rfl ?_); refine goesL_ (some 41) rfl rfl Try.func44 (by kernel_rfl) rfl #[.slice Ao18 x8_2.length co18, .func (.func 45) #[] #[.pointer (some ⟨gb3, 0, none⟩)]] rfl (by (try simp only [List.map_toArray, List.map_cons, List.map_nil]); first | done | rfl | (simp only [List.length_drop, List.length_take]; rfl)) ?_; (with_reducible refine (slices_SortStableFunc_int_int.calls k2 (fun k_ => some k_ = (.slice Ao18 x8_2.length co18 : Value).ownBlock) (.slice Ao18 x8_2.length co18) x8_2 (some ⟨gb3, 0, none⟩) c0 l0 t297 w _ ?side1 ?side2 ?side3 ?side4 A25.out).mono ?_); (case side1 => repeat (first | (with_reducible first | exact HB.out | apply below_alloc | apply pw_below_drewN | apply below_drew1) | exact HB.out)); (case side2 => exact Kd.R_tight rfl HO_8.out); (case side3 => exact fun W_ hk_ => ⟨gb3, A0, rfl, ((hk_.2 gb3 (Nat.lt_of_lt_of_le BXL.out HB.out.size) (fun e_ => absurd (Kd.R_base HO_8.out gb3 e_.symm) (Nat.not_le_of_lt BXL.out))).trans (HB.out.block gb3 BXL.out)).trans BX.out, (Kd.C_kept_came k43_heap HR0.out (by repeat (first | (with_reducible first | exact HB.out | apply below_alloc | apply pw_below_drewN | apply below_drew1) | exact HB.out)) (fun k_ hs_ => (fun e_ => Kd.R_base HO_8.out k_ e_.symm) hs_)) W_ hk_⟩); (case side4 => exact HC0.out); rintro e w31 ⟨rfl, hy0, hb, hkp⟩; refine ⟨_, rfl, ?_⟩; have n0_ := Aside0.mk (Kd.R_reok rfl hy0 (fun k_ e_ => HO_8.out.1 k_ e_)); have n1_ := Aside0.mk (hb); clear HO_8; clear HB; have HO_8 := n0_; have HB := n1_; clear n0_ n1_; (try clear hb); (try clear hkp); (try clear hy0); have q32 : ((ji27) : Int) ≤ ((x8_2.length : Int) : Int) := of_decide_eq_true (by first | (with_reducible assumption) | assumption); obtain ⟨i032, hi032, _, hsz32, _⟩ := info_parts info3; have hcut32 := cut_to (P := Try.prog) 22 3 .i64 Try.underlying22 hi032 Ao18 x8_2.length co18 (ji27) (of_decide_eq_true (by first | (with_reducible assumption) | assumption)) q32 (Kd.R_reads' HO_8.out).2.1; have HL_ := Aside0.mk (by obtain ⟨_, _, eo_⟩ := Kd.R_slice HO_8.out; injection eo_ with ea_ en_ ec_ : x8_2.length = t297.length); have hr32 := Kd.R_take (m := ((ji27) : Int).toNat) HO_8.out (by have := HL_.out; omega); have hy32 : y298.length = ((ji27) : Int).toNat := (by rw [Ny298.out, List.length_take]; have := HL_.out; omega); rw [← Ny298.out] at hr32; rw [← hy32] at hr32 hcut32; clear hy32 hi032 hsz32 HO_8; have HO300 := Aside0.mk hr32; clear hr32; replace q32 := eq_true q32) | ((with_reducible refine gate_callee (f := 46) rfl ?_); refine goesL_ (some 52) rfl rfl Try.func46 (by kernel_rfl) rfl #[.slice Ao18 y298.length co18] rfl (by (try simp only [List.map_toArray, List.map_cons, List.map_nil]); first | done | rfl | (simp only [List.length_drop, List.length_take]; rfl)) ?_; (with_reducible refine (slices_Sort_int_int.calls k2 (fun k_ => some k_ = (.slice Ao18 y298.length co18 : Value).ownBlock) (.slice Ao18 y298.length co18) y298 t301 w _ ?side1 ?side2 A30.out).mono ?_); (case side1 => repeat (first | (with_reducible first | exact HB.out | apply below_alloc | apply pw_below_drewN | apply below_drew1) | exact HB.out)); (case side2 => exact Kd.R_tight rfl HO300.out); rintro e w33 ⟨rfl, hy0, hb, hkp⟩; refine ⟨_, rfl, ?_⟩; have n0_ := Aside0.mk (Kd.R_reok rfl hy0 (fun k_ e_ => HO300.out.1 k_ e_)); have n1_ := Aside0.mk (hb); clear HO300; clear HB; have HO300 := n0_; have HB := n1_; clear n0_ n1_; (try clear hb); (try clear hkp); (try clear hy0)))
                      go_loopg [10, 55] k2 (fun kq v10 v55 w' => ∃ (x10_3 : List (S43)) (x55_3 : Int), v55 = .int .i64 x55_3 ∧ Aside0 (impl_Shed.l1 kq l0 x10_3 t301 (y298.length : Int) x55_3 = some (r1, r2)) ∧ Aside0 (kq ≤ k2) ∧ Aside0 (Kd.R k43 43 w' w.heap.size (fun _ => True) v10 x10_3) ∧ Aside0 (Kd.R (Kd.int .i64) 3 w' w.heap.size (fun _ => True) (.slice Ao18 y298.length co18) t301) ∧ Aside0 (Below w.heap.size w w'))
                      case atStart => exact ⟨(([] : List (S43))), (0), (by first | rfl | (simp; done) | (simp [*]; done)), H', ⟨Nat.le_refl _⟩, ⟨by (try simp only [hl8_2]); first | exact Kd.R_nil _ _ _ _ _ | exact Kd.N_nil _ _ _ _ _ | exact Kd.V_nil _ _ _ _ _ | exact Kd.Q_nil _ _ _ _ _ | exact Kd.S_nil _ _ _ _ _⟩, ⟨by (try simp only [hl8_2]); (with_reducible repeat (first | apply Kd.R_alloc | apply Kd.R_drewN | apply Kd.R_drew)); exact HO300.out⟩, ⟨by repeat (first | (with_reducible first | exact HB.out | apply below_alloc | apply pw_below_drewN | apply below_drew1) | exact HB.out)⟩⟩
                      case round =>
                        clear H'
                        try clear c1
                        try clear c2
                        try clear p2
                        try clear q2
                        try clear hx2
                        try clear c3
                        try clear q3
                        try clear c4
                        try clear c6
                        try clear p6
                        try clear c8
                        try clear c13
                        try clear c14
                        try clear c14b0
                        try clear c14b1
                        try clear c15
                        try clear c15b0
                        try clear c15b1
                        try clear c19
                        try clear c19b0
                        try clear c20
                        try clear c20b0
                        try clear c21
                        try clear c21b0
                        try clear p22
                        try clear q22
                        try clear hx22
                        try clear hf22
                        try clear c24
                        try clear c28
                        try clear c28b0
                        try clear c28b1
                        try clear c29
                        try clear c29b0
                        try clear c29b1
                        try clear q32
                        try clear c33
                        try clear hx22_0
                        try clear p2
                        try clear p22
                        try clear q22
                        try clear q32
                        obtain ⟨x10_3, x55_3, rfl, HA, HK3, HO_10, HO_53, HB⟩ := hrel
                        (try clear hcl_); have hcl_ := (HB.out.cell (World.block_lt_of_cell? w _ HCL.out)).trans HCL.out
                        have hl53_3 := (Kd.R_reads' HO_53.out).1
                        rw [hl53_3] at HO_53
                        (try simp only [hl53_3])
                        (try simp only [hl53_3] at HO_10)
                        cases gk with
                        | zero => exact absurd HA.out (by simp [impl_Shed.l1])
                        | succ k3 =>
                          have H := HA.out
                          clear HA
                          simp only [impl_Shed.l1] at H
                          by_cases c34 : x55_3 < (y298.length : Int)
                          · rw [if_pos c34] at H
                            have c34b0 : decide (x55_3 < (y298.length : Int)) = true := decide_eq_true c34
                            clear c34
                            by_cases c35 : 0 ≤ x55_3
                            · rw [if_pos c35] at H
                              have c35b0 : decide (0 ≤ x55_3) = true := decide_eq_true c35
                              clear c35
                              by_cases c36 : x55_3 < (t301.length : Int)
                              · rw [if_pos c36] at H
                                have c36b0 : decide (x55_3 < (t301.length : Int)) = true := decide_eq_true c36
                                clear c36
                                by_cases c37 : 0 ≤ (rd t301 x55_3)
                                · rw [if_pos c37] at H
                                  have c37b0 : decide (0 ≤ (rd t301 x55_3)) = true := decide_eq_true c37
                                  clear c37
                                  by_cases c38 : (rd t301 x55_3) < (l0.length : Int)
                                  · rw [if_pos c38] at H
                                    have c38b0 : decide ((rd t301 x55_3) < (l0.length : Int)) = true := decide_eq_true c38
                                    clear c38
                                    by_cases c39 : x10_3.length < 5864062014805
                                    · rw [if_pos c39] at H
                                      have LMc39 := Aside0.mk c39
                                      clear c39
                                      obtain ⟨y304, hy304⟩ : ∃ y_ : List (S43), y_ = (x10_3 ++ [(⟨(rd_T43 l0 (rd t301 x55_3)).f0, (rd_T43 l0 (rd t301 x55_3)).f1, (rd_T43 l0 (rd t301 x55_3)).f2⟩ : S43)]) := ⟨_, rfl⟩
                                      replace H : (impl_Shed.l1 k3 l0 y304 t301 (y298.length : Int) (wrap64 (x55_3 + 1))) = some (r1, r2) := by first | (rw [hy304]; with_reducible exact H) | (have H2_ := (Option.bind_some _ _).symm.trans H; rw [hy304]; with_reducible exact H2_) | (have H2_ := (Option.bind_some _ _).symm.trans H; with_reducible exact H2_) | with_reducible exact H | (rw [hy304]; exact H) | exact H
                                      have Ny304 := Aside0.mk hy304
                                      clear hy304
                                      have H' := Aside0.mk H
                                      clear H
                                      have p302 : 0 ≤ (x55_3 : Int) := of_decide_eq_true (by first | (with_reducible assumption) | assumption)
                                      have q302 : x55_3 < (t301.length : Int) := of_decide_eq_true (by first | (with_reducible assumption) | assumption)
                                      obtain ⟨ad302, e302, hx302_0⟩ := Kd.at_int (Kd.R_reads' HO_53.out).2.2 x55_3 p302 q302
                                      cases e302
                                      replace p302 := eq_true p302
                                      replace q302 := eq_true q302
                                      have p303 : 0 ≤ ((rd t301 x55_3) : Int) := of_decide_eq_true (by first | (with_reducible assumption) | assumption)
                                      have q303 : (rd t301 x55_3) < (l0.length : Int) := of_decide_eq_true (by first | (with_reducible assumption) | assumption)
                                      obtain ⟨ad303, e303, hx303_0, hx303_1, hx303_2⟩ := at_T43 HR0.out (rd t301 x55_3) p303 q303
                                      cases e303
                                      try (replace hx303_0 := (HB.out.cell (World.block_lt_of_cell? w _ hx303_0)).trans hx303_0)
                                      try (replace hx303_1 := (HB.out.cell (World.block_lt_of_cell? w _ hx303_1)).trans hx303_1)
                                      try (replace hx303_2 := (HB.out.cell (World.block_lt_of_cell? w _ hx303_2)).trans hx303_2)
                                      replace p303 := eq_true p303
                                      replace q303 := eq_true q303
                                      go_wp2_with (first | ((with_reducible refine gate_builtin (b := .append) (xs := #[.tmp 59, .tmp 64]) rfl ?_); at_builtin; refine Kd.R_append k43 (w0 := w) w.heap.size rfl (.tmp 59) (.tmp 64) 29 43 (.agg #[(.int .i64 0), (.int .i64 0), (.int .i64 0)]) 24 rfl Try.underlying29 info43 rfl (by decide) (by omega) u10 x10_3 (⟨(rd_T43 l0 (rd t301 x55_3)).f0, (rd_T43 l0 (rd t301 x55_3)).f1, (rd_T43 l0 (rd t301 x55_3)).f2⟩ : S43) [.int .i64 ((rd_T43 l0 (rd t301 x55_3)).f0), .int .i64 ((rd_T43 l0 (rd t301 x55_3)).f1), .int .i64 ((rd_T43 l0 (rd t301 x55_3)).f2)] (fun _ => True) (fun _ => False) rfl rfl ?aP (fun _ hk => hk.elim) ?aF ?aO ?aB ?aS ?aL ?_; (case aP => exact k43_mkM _ _ _ (⟨(rd_T43 l0 (rd t301 x55_3)).f0, (rd_T43 l0 (rd t301 x55_3)).f1, (rd_T43 l0 (rd t301 x55_3)).f2⟩ : S43)); (case aB => exact (by repeat (first | (with_reducible first | exact HB.out | apply below_alloc | apply pw_below_drewN | apply below_drew1) | exact HB.out))); (case aF => exact (fun _ _ => trivial)); (case aO => exact (by (with_reducible repeat (first | apply Kd.R_alloc | apply Kd.R_drewN | apply Kd.R_drew)); exact HO_10.out)); (case aS => exact (below_size (by repeat (first | (with_reducible first | exact HB.out | apply below_alloc | apply pw_below_drewN | apply below_drew1) | exact HB.out)))); (case aL => have := LMc39.out; omega); intro v305 w40 ho hb hg hat; rw [← Ny304.out] at ho; have n0_ := Aside0.mk (Kd.R_over' (by (with_reducible repeat (first | apply Kd.R_alloc | apply Kd.R_drewN | apply Kd.R_drew)); exact HO_53.out) (Kd.R_typed (by (with_reducible repeat (first | apply Kd.R_alloc | apply Kd.R_drewN | apply Kd.R_drew)); exact HO_10.out)) (by decide) hg); have n1_ := Aside0.mk (hb); have n2_ := Aside0.mk (ho); clear HO_53; clear HB; clear HO_10; have HO_53 := n0_; have HB := n1_; have HO306 := n2_; clear n0_ n1_ n2_; clear ho hb hg hat))
                                      (try simp only [← hl53_3])
                                      go_roundg k3
                                      case measure => have := HJ3.out; have := HK2.out; have := HK3.out; omega
                                      case rel => exact ⟨(y304), (wrap64 (x55_3 + 1)), (by first | rfl | (simp; done) | (simp [*]; done)), H', ⟨by have := HJ3.out; have := HK2.out; have := HK3.out; omega⟩, ⟨by (try simp only [hl8_2]); (try simp only [hl53_3]); (with_reducible repeat (first | apply Kd.R_alloc | apply Kd.R_drewN | apply Kd.R_drew)); exact HO306.out⟩, ⟨by (try simp only [hl8_2]); (try simp only [hl53_3]); (with_reducible repeat (first | apply Kd.R_alloc | apply Kd.R_drewN | apply Kd.R_drew)); exact HO_53.out⟩, ⟨by repeat (first | (with_reducible first | exact HB.out | apply below_alloc | apply pw_below_drewN | apply below_drew1) | exact HB.out)⟩⟩
                                    · rw [if_neg c39] at H
                                      exact absurd H (by simp)
                                  · rw [if_neg c38] at H
                                    exact absurd H (by simp)
                                · rw [if_neg c37] at H
                                  exact absurd H (by simp)
                              · rw [if_neg c36] at H
                                exact absurd H (by simp)
                            · rw [if_neg c35] at H
                              exact absurd H (by simp)
                          · rw [if_neg c34] at H
                            have c34b0 : decide (x55_3 < (y298.length : Int)) = false := decide_eq_false c34
                            have c34z_ : decide (x55_3 < (t301.length : Int)) = false := by rw [← hl53_3]; exact c34b0
                            clear c34
                            simp only [Option.some.injEq, Prod.mk.injEq] at H
                            obtain ⟨rfl, rfl⟩ := H
                            go_wp2
                            go_ret2
                            exact FIN.out _ _ ⟨_, by first | rfl | (simp [errW_none, errW_some] <;> rfl) | (simp only [← hji26, ← hji27]; first | rfl | (simp [errW_none, errW_some] <;> rfl)) | (simp [*, errW_none, errW_some] <;> rfl), by (with_reducible repeat (first | apply Kd.R_alloc | apply Kd.R_drewN | apply Kd.R_drew)); exact HO_10.out, by repeat (first | (with_reducible first | exact HB.out | apply below_alloc | apply pw_below_drewN | apply below_drew1) | exact HB.out)⟩
                    · rw [if_neg c29] at H
                      exact absurd H (by simp)
                  · rw [if_neg c28] at H
                    exact absurd H (by simp)
          · rw [if_neg c15] at H
            exact absurd H (by simp)
        · rw [if_neg c14] at H
          exact absurd H (by simp)

/-! ### laws_heldArrivalS: function 25 -/
def laws_heldArrivalS.l0 : Nat → List (S43) → Int → Int → Option (Int)
  | 0, _, _, _ => none
  | k + 1, x0, x1, x5 => if x5 < (x0.length : Int) then (if 0 ≤ x5 then (if ((rd_T43 x0 x5).f0) = x1 then (if ((rd_T43 x0 x5).f1) = (wrap64 (x1 + 1)) then (if ((rd_T43 x0 x5).f2) = (wrap64 ((wrap64 (x1 + 1)) + 1)) then (laws_heldArrivalS.l0 k x0 (wrap64 ((wrap64 ((wrap64 (x1 + 1)) + 1)) + 1)) (wrap64 (x5 + 1))) else (some (-1))) else (some (-1))) else (some (-1))) else (none)) else (some x1)
def laws_heldArrivalS.f (k : Nat) (l0 : List (S43)) (a1 : Int) : Option (Int) := laws_heldArrivalS.l0 k l0 a1 0
theorem laws_heldArrivalS.mono_l : ∀ k, (∀ y0 y1 y2, LeO (laws_heldArrivalS.l0 k y0 y1 y2) (laws_heldArrivalS.l0 (k + 1) y0 y1 y2))
  | 0 => fun _ _ _ r h => by simp [laws_heldArrivalS.l0] at h
  | k + 1 => by
    have ih0 := laws_heldArrivalS.mono_l k
    · intro y0 y1 y2
      unfold laws_heldArrivalS.l0
      repeat' first
      | (with_reducible exact ih0 _ _ _)
      | (with_reducible exact LeO.refl _)
      | (with_reducible exact LeO.none _)
      | (with_reducible refine LeO.ite ?_ ?_)
      | (with_reducible refine LeO.bind ?_ (fun _ => ?_))
      | exact ih0 _ _ _
      | exact LeO.none _
      | refine LeO.ite ?_ ?_
      | refine LeO.bind ?_ (fun _ => ?_)
theorem laws_heldArrivalS.mono : ∀ a0 a1 k, LeO (laws_heldArrivalS.f k a0 a1) (laws_heldArrivalS.f (k + 1) a0 a1) := by
  intro a0 a1 k
  have ih0 := laws_heldArrivalS.mono_l k
  unfold laws_heldArrivalS.f
  repeat' first
      | (with_reducible exact ih0 _ _ _)
      | (with_reducible exact LeO.refl _)
      | (with_reducible exact LeO.none _)
      | (with_reducible refine LeO.ite ?_ ?_)
      | (with_reducible refine LeO.bind ?_ (fun _ => ?_))
      | exact ih0 _ _ _
      | exact LeO.none _
      | refine LeO.ite ?_ ?_
      | refine LeO.bind ?_ (fun _ => ?_)
set_option maxHeartbeats 8000000 in
set_option maxRecDepth 100000 in
theorem laws_heldArrivalS.calls (k : Nat) (A0 : Option Addr) (c0 : Nat) (l0 : List (S43)) (a1 : Int) (r : Int) (w : World) (hr0 : Kd.C k43 w A0 l0.length l0) (hc0 : l0.length ≤ c0) (h : laws_heldArrivalS.f k l0 a1 = some r) :
    Calls Try.prog 25 #[.slice A0 l0.length c0, .int .i64 a1] w fun e w' => e = .returned (.int .i64 r) ∧ Drawn0 w w' := by
  have HR0 := Aside0.mk hr0
  have HC0 := Aside0.mk hc0
  clear hr0 hc0
  have H : (laws_heldArrivalS.l0 k l0 a1 0) = some r := h
  clear h
  have H' := Aside0.mk H
  clear H
  go_enter Try.func25, Try.ntmps25
  go_wp2
  go_loopg [1, 5] k (fun kq v1 v5 w' => ∃ (x1_1 : Int) (x5_1 : Int), v1 = .int .i64 x1_1 ∧ v5 = .int .i64 x5_1 ∧ Aside0 (laws_heldArrivalS.l0 kq l0 x1_1 x5_1 = some r) ∧ Aside0 (kq ≤ k) ∧ Drawn0 w w')
  case atStart => exact ⟨(a1), (0), (by first | rfl | (simp; done) | (simp [*]; done)), (by first | rfl | (simp; done) | (simp [*]; done)), H', ⟨Nat.le_refl _⟩, by repeat (first | exact Drawn0.refl _ | apply Drawn0.step)⟩
  case round =>
    clear H'
    try clear c2
    try clear p2
    obtain ⟨x1_1, x5_1, rfl, rfl, HA, HK1, ⟨m1, rfl⟩⟩ := hrel
    cases gk with
    | zero => exact absurd HA.out (by simp [laws_heldArrivalS.l0])
    | succ k1 =>
      have H := HA.out
      clear HA
      simp only [laws_heldArrivalS.l0] at H
      by_cases c3 : x5_1 < (l0.length : Int)
      · rw [if_pos c3] at H
        have c3b0 : decide (x5_1 < (l0.length : Int)) = true := decide_eq_true c3
        clear c3
        by_cases c4 : 0 ≤ x5_1
        · rw [if_pos c4] at H
          have c4b0 : decide (0 ≤ x5_1) = true := decide_eq_true c4
          clear c4
          by_cases c5 : ((rd_T43 l0 x5_1).f0) = x1_1
          · rw [if_pos c5] at H
            have c5b0 : (((rd_T43 l0 x5_1).f0) == x1_1) = true := beq_iff_eq.mpr c5
            have c5b1 : (((rd_T43 l0 x5_1).f0) != x1_1) = false := bne_eq_false_iff_eq.mpr c5
            clear c5
            by_cases c6 : ((rd_T43 l0 x5_1).f1) = (wrap64 (x1_1 + 1))
            · rw [if_pos c6] at H
              have c6b0 : (((rd_T43 l0 x5_1).f1) == (wrap64 (x1_1 + 1))) = true := beq_iff_eq.mpr c6
              have c6b1 : (((rd_T43 l0 x5_1).f1) != (wrap64 (x1_1 + 1))) = false := bne_eq_false_iff_eq.mpr c6
              clear c6
              by_cases c7 : ((rd_T43 l0 x5_1).f2) = (wrap64 ((wrap64 (x1_1 + 1)) + 1))
              · rw [if_pos c7] at H
                have c7b0 : (((rd_T43 l0 x5_1).f2) == (wrap64 ((wrap64 (x1_1 + 1)) + 1))) = true := beq_iff_eq.mpr c7
                have c7b1 : (((rd_T43 l0 x5_1).f2) != (wrap64 ((wrap64 (x1_1 + 1)) + 1))) = false := bne_eq_false_iff_eq.mpr c7
                clear c7
                have H' := Aside0.mk H
                clear H
                have p307 : 0 ≤ (x5_1 : Int) := of_decide_eq_true (by first | (with_reducible assumption) | assumption)
                have q307 : x5_1 < (l0.length : Int) := of_decide_eq_true (by first | (with_reducible assumption) | assumption)
                obtain ⟨ad307, e307, hx307_0, hx307_1, hx307_2⟩ := at_T43 HR0.out x5_1 p307 q307
                cases e307
                replace p307 := eq_true p307
                replace q307 := eq_true q307
                have p308 : 0 ≤ (x5_1 : Int) := of_decide_eq_true (by first | (with_reducible assumption) | assumption)
                have q308 : x5_1 < (l0.length : Int) := of_decide_eq_true (by first | (with_reducible assumption) | assumption)
                obtain ⟨ad308, e308, hx308_0, hx308_1, hx308_2⟩ := at_T43 HR0.out x5_1 p308 q308
                obtain rfl : ad307 = ad308 := (by injection e308)
                replace p308 := eq_true p308
                replace q308 := eq_true q308
                have p309 : 0 ≤ (x5_1 : Int) := of_decide_eq_true (by first | (with_reducible assumption) | assumption)
                have q309 : x5_1 < (l0.length : Int) := of_decide_eq_true (by first | (with_reducible assumption) | assumption)
                obtain ⟨ad309, e309, hx309_0, hx309_1, hx309_2⟩ := at_T43 HR0.out x5_1 p309 q309
                obtain rfl : ad307 = ad309 := (by injection e309)
                replace p309 := eq_true p309
                replace q309 := eq_true q309
                go_wp2
                go_roundg k1
                case measure => have := HK1.out; omega
                case rel => exact ⟨(wrap64 ((wrap64 ((wrap64 (x1_1 + 1)) + 1)) + 1)), (wrap64 (x5_1 + 1)), (by first | rfl | (simp; done) | (simp [*]; done)), (by first | rfl | (simp; done) | (simp [*]; done)), H', ⟨by have := HK1.out; omega⟩, by repeat (first | exact Drawn0.refl _ | apply Drawn0.step)⟩
              · rw [if_neg c7] at H
                have c7b0 : (((rd_T43 l0 x5_1).f2) == (wrap64 ((wrap64 (x1_1 + 1)) + 1))) = false := beq_eq_false_iff_ne.mpr c7
                have c7b1 : (((rd_T43 l0 x5_1).f2) != (wrap64 ((wrap64 (x1_1 + 1)) + 1))) = true := bne_iff_ne.mpr c7
                obtain rfl := Option.some.inj H
                have p307 : 0 ≤ (x5_1 : Int) := of_decide_eq_true (by first | (with_reducible assumption) | assumption)
                have q307 : x5_1 < (l0.length : Int) := of_decide_eq_true (by first | (with_reducible assumption) | assumption)
                obtain ⟨ad307, e307, hx307_0, hx307_1, hx307_2⟩ := at_T43 HR0.out x5_1 p307 q307
                cases e307
                replace p307 := eq_true p307
                replace q307 := eq_true q307
                have p308 : 0 ≤ (x5_1 : Int) := of_decide_eq_true (by first | (with_reducible assumption) | assumption)
                have q308 : x5_1 < (l0.length : Int) := of_decide_eq_true (by first | (with_reducible assumption) | assumption)
                obtain ⟨ad308, e308, hx308_0, hx308_1, hx308_2⟩ := at_T43 HR0.out x5_1 p308 q308
                obtain rfl : ad307 = ad308 := (by injection e308)
                replace p308 := eq_true p308
                replace q308 := eq_true q308
                have p309 : 0 ≤ (x5_1 : Int) := of_decide_eq_true (by first | (with_reducible assumption) | assumption)
                have q309 : x5_1 < (l0.length : Int) := of_decide_eq_true (by first | (with_reducible assumption) | assumption)
                obtain ⟨ad309, e309, hx309_0, hx309_1, hx309_2⟩ := at_T43 HR0.out x5_1 p309 q309
                obtain rfl : ad307 = ad309 := (by injection e309)
                replace p309 := eq_true p309
                replace q309 := eq_true q309
                go_wp2
                go_ret
                exact ⟨by first | rfl | (simp; done) | (simp [*]; done), by repeat (first | exact Drawn0.refl _ | apply Drawn0.step)⟩
            · rw [if_neg c6] at H
              have c6b0 : (((rd_T43 l0 x5_1).f1) == (wrap64 (x1_1 + 1))) = false := beq_eq_false_iff_ne.mpr c6
              have c6b1 : (((rd_T43 l0 x5_1).f1) != (wrap64 (x1_1 + 1))) = true := bne_iff_ne.mpr c6
              obtain rfl := Option.some.inj H
              have p307 : 0 ≤ (x5_1 : Int) := of_decide_eq_true (by first | (with_reducible assumption) | assumption)
              have q307 : x5_1 < (l0.length : Int) := of_decide_eq_true (by first | (with_reducible assumption) | assumption)
              obtain ⟨ad307, e307, hx307_0, hx307_1, hx307_2⟩ := at_T43 HR0.out x5_1 p307 q307
              cases e307
              replace p307 := eq_true p307
              replace q307 := eq_true q307
              have p308 : 0 ≤ (x5_1 : Int) := of_decide_eq_true (by first | (with_reducible assumption) | assumption)
              have q308 : x5_1 < (l0.length : Int) := of_decide_eq_true (by first | (with_reducible assumption) | assumption)
              obtain ⟨ad308, e308, hx308_0, hx308_1, hx308_2⟩ := at_T43 HR0.out x5_1 p308 q308
              obtain rfl : ad307 = ad308 := (by injection e308)
              replace p308 := eq_true p308
              replace q308 := eq_true q308
              go_wp2
              go_ret
              exact ⟨by first | rfl | (simp; done) | (simp [*]; done), by repeat (first | exact Drawn0.refl _ | apply Drawn0.step)⟩
          · rw [if_neg c5] at H
            have c5b0 : (((rd_T43 l0 x5_1).f0) == x1_1) = false := beq_eq_false_iff_ne.mpr c5
            have c5b1 : (((rd_T43 l0 x5_1).f0) != x1_1) = true := bne_iff_ne.mpr c5
            obtain rfl := Option.some.inj H
            have p307 : 0 ≤ (x5_1 : Int) := of_decide_eq_true (by first | (with_reducible assumption) | assumption)
            have q307 : x5_1 < (l0.length : Int) := of_decide_eq_true (by first | (with_reducible assumption) | assumption)
            obtain ⟨ad307, e307, hx307_0, hx307_1, hx307_2⟩ := at_T43 HR0.out x5_1 p307 q307
            cases e307
            replace p307 := eq_true p307
            replace q307 := eq_true q307
            go_wp2
            go_ret
            exact ⟨by first | rfl | (simp; done) | (simp [*]; done), by repeat (first | exact Drawn0.refl _ | apply Drawn0.step)⟩
        · rw [if_neg c4] at H
          exact absurd H (by simp)
      · rw [if_neg c3] at H
        have c3b0 : decide (x5_1 < (l0.length : Int)) = false := decide_eq_false c3
        clear c3
        obtain rfl := Option.some.inj H
        go_wp2
        go_ret
        exact ⟨by first | rfl | (simp; done) | (simp [*]; done), by repeat (first | exact Drawn0.refl _ | apply Drawn0.step)⟩

end Go.Proofs.Ytakafcocojjeoaa.MFnExactShed
