/- What the code of the law FnBooked answers. -/
import Derived.Test.YtngnkfpciloamaaShortFnBooked
import Derived.Test.YtngnkfpciloamaaHandBookFnBooked
import Derived.Test.YtngnkfpciloamaaHandRepeatFnBooked
import Derived.Test.YtngnkfpciloamaaMFnBookedx0
import Derived.Test.YtngnkfpciloamaaMFnBookedx4
namespace Go.Proofs.Ytngnkfpciloamaa.MFnBooked
open Go.RowKit Go.Proofs.YtngnkfpciloamaaW.PrintWords Go.Proofs.YtngnkfpciloamaaW.PrintLast Go.Proofs.YtngnkfpciloamaaW.PrintMore
attribute [local go_sem] max2_int min2_int max_two min_two max_three min_three max_four min_four
set_option linter.unusedVariables false
set_option linter.unusedSimpArgs false
def impl_in.f (a0 : Int) (a1 : Int) (a2 : Int) : Option (Bool) := if a0 ≥ a1 then (some (decide (a0 ≤ a2))) else (some false)
set_option maxHeartbeats 8000000 in
set_option maxRecDepth 100000 in
theorem impl_in.calls (a0 : Int) (a1 : Int) (a2 : Int) (r : Bool) (w : World) (h : impl_in.f a0 a1 a2 = some r) :
  Calls Try.prog 54 #[.int .i64 a0, .int .i64 a1, .int .i64 a2] w fun e w' => e = .returned (.bool r) ∧ Drawn0 w w' := by
 have H : (if a0 ≥ a1 then (some (decide (a0 ≤ a2))) else (some false)) = some r := h
 clear h
 by_cases c4 : a0 ≥ a1
 ·rw [if_pos c4] at H
  have c4b0 : decide (a1 ≤ a0) = true := decide_eq_true c4
  clear c4
  obtain rfl := Option.some.inj H
  go_enter Try.func54, Try.ntmps54
  go_wp2
  go_ret
  exact ⟨rs, by repeat (first | exact Drawn0.refl _ | apply Drawn0.step)⟩
 ·rw [if_neg c4] at H
  have c4b0 : decide (a1 ≤ a0) = false := decide_eq_false c4
  clear c4
  obtain rfl := Option.some.inj H
  go_enter Try.func54, Try.ntmps54
  go_wp2
  go_ret
  exact ⟨rs, by repeat (first | exact Drawn0.refl _ | apply Drawn0.step)⟩
mutual
def impl_BookOk.l0 : Nat → List (List Int) → Int → Int → List (S50) → List Int → List Int → Option (Bool)
 | 0, _, _, _, _, _, _ => none
 | k + 1, x13, x14, x15, x162000, x162001, x162002 => if x15 < x14 then (if 0 ≤ x15 then (if x15 < (x13.length : Int) then (impl_BookOk.l1 k (rd_L3 x13 x15) x13 x14 x15 (rd_L3 x13 x15) ((rd_L3 x13 x15).length : Int) 0 x162000 x162001 x162002) else (none)) else (none)) else (impl_BookOk.l2 k x162000 (x162000.length : Int) 0 x162000 x162001 x162002)
def impl_BookOk.l1 : Nat → List Int → List (List Int) → Int → Int → List Int → Int → Int → List (S50) → List Int → List Int → Option (Bool)
 | 0, _, _, _, _, _, _, _, _, _, _ => none
 | k + 1, x4, x13, x14, x15, x19, x20, x21, x162000, x162001, x162002 => if x21 < x20 then (if 0 ≤ x21 then (if x21 < (x19.length : Int) then ((impl_in.f (rd x19 x21) (-1) 30).bind fun t167 => (if t167 = true then (impl_BookOk.l1 k x4 x13 x14 x15 x19 x20 (wrap64 (x21 + 1)) x162000 x162001 x162002) else (some false))) else (none)) else (none)) else (if (x4.length : Int) > 30 then (some false) else (impl_BookOk.l0 k x13 x14 (wrap64 (x15 + 1)) x162000 x162001 x162002))
def impl_BookOk.l2 : Nat → List (S50) → Int → Int → List (S50) → List Int → List Int → Option (Bool)
 | 0, _, _, _, _, _, _ => none
 | k + 1, x34, x35, x36, x162000, x162001, x162002 => if x36 < x35 then (if 0 ≤ x36 then (if x36 < (x34.length : Int) then ((impl_in.f ((rd_T50 x34 x36).f0) 0 (wrap64 ((x162001.length : Int) - 1))).bind fun t170 => (if t170 = true then ((impl_in.f ((rd_T50 x34 x36).f1) 0 (wrap64 ((x162001.length : Int) - 1))).bind fun t171 => (if t171 = true then ((impl_in.f ((rd_T50 x34 x36).f2) (-1) (wrap64 ((x162002.length : Int) - 1))).bind fun t172 => (if t172 = true then (impl_BookOk.l2 k x34 x35 (wrap64 (x36 + 1)) x162000 x162001 x162002) else (some false))) else (some false))) else (some false))) else (none)) else (none)) else (some (decide ((x162000.length : Int) ≤ 30)))
end
def impl_BookOk.f (k : Nat) (lp : List (S50)) (lq : List Int) (lr : List Int) : Option (Bool) := (some (([lq, lr] : List (List Int)) : List (List Int))).bind fun y162 => (impl_BookOk.l0 k y162 (y162.length : Int) 0 lp lq lr)
theorem impl_BookOk.mono_l : ∀ k, (∀ y0 y1 y2 y3 y4 y5, LeO (impl_BookOk.l0 k y0 y1 y2 y3 y4 y5) (impl_BookOk.l0 (k + 1) y0 y1 y2 y3 y4 y5)) ∧ (∀ y0 y1 y2 y3 y4 y5 y6 y7 y8 y9, LeO (impl_BookOk.l1 k y0 y1 y2 y3 y4 y5 y6 y7 y8 y9) (impl_BookOk.l1 (k + 1) y0 y1 y2 y3 y4 y5 y6 y7 y8 y9)) ∧ (∀ y0 y1 y2 y3 y4 y5, LeO (impl_BookOk.l2 k y0 y1 y2 y3 y4 y5) (impl_BookOk.l2 (k + 1) y0 y1 y2 y3 y4 y5))
 | 0 => ⟨fun _ _ _ _ _ _ r h => by simp [impl_BookOk.l0] at h, fun _ _ _ _ _ _ _ _ _ _ r h => by simp [impl_BookOk.l1] at h, fun _ _ _ _ _ _ r h => by simp [impl_BookOk.l2] at h⟩
 | k + 1 => by
  obtain ⟨ih0, ih1, ih2⟩ := impl_BookOk.mono_l k
  refine ⟨?_, ?_, ?_⟩
  ·intro y0 y1 y2 y3 y4 y5
   unfold impl_BookOk.l0
   repeat' first
   | (with_reducible exact ih0 _ _ _ _ _ _)
   | (with_reducible exact ih1 _ _ _ _ _ _ _ _ _ _)
   | (with_reducible exact ih2 _ _ _ _ _ _)
   | (with_reducible exact LeO.refl _)
   | (with_reducible exact LeO.none _)
   | (with_reducible refine LeO.ite ?_ ?_)
   | (with_reducible refine LeO.bind ?_ (fun _ => ?_))
   | exact ih0 _ _ _ _ _ _
   | exact ih1 _ _ _ _ _ _ _ _ _ _
   | exact ih2 _ _ _ _ _ _
   | exact LeO.none _
   | refine LeO.ite ?_ ?_
   | refine LeO.bind ?_ (fun _ => ?_)
  ·intro y0 y1 y2 y3 y4 y5 y6 y7 y8 y9
   unfold impl_BookOk.l1
   repeat' first
   | (with_reducible exact ih0 _ _ _ _ _ _)
   | (with_reducible exact ih1 _ _ _ _ _ _ _ _ _ _)
   | (with_reducible exact ih2 _ _ _ _ _ _)
   | (with_reducible exact LeO.refl _)
   | (with_reducible exact LeO.none _)
   | (with_reducible refine LeO.ite ?_ ?_)
   | (with_reducible refine LeO.bind ?_ (fun _ => ?_))
   | exact ih0 _ _ _ _ _ _
   | exact ih1 _ _ _ _ _ _ _ _ _ _
   | exact ih2 _ _ _ _ _ _
   | exact LeO.none _
   | refine LeO.ite ?_ ?_
   | refine LeO.bind ?_ (fun _ => ?_)
  ·intro y0 y1 y2 y3 y4 y5
   unfold impl_BookOk.l2
   repeat' first
   | (with_reducible exact ih0 _ _ _ _ _ _)
   | (with_reducible exact ih1 _ _ _ _ _ _ _ _ _ _)
   | (with_reducible exact ih2 _ _ _ _ _ _)
   | (with_reducible exact LeO.refl _)
   | (with_reducible exact LeO.none _)
   | (with_reducible refine LeO.ite ?_ ?_)
   | (with_reducible refine LeO.bind ?_ (fun _ => ?_))
   | exact ih0 _ _ _ _ _ _
   | exact ih1 _ _ _ _ _ _ _ _ _ _
   | exact ih2 _ _ _ _ _ _
   | exact LeO.none _
   | refine LeO.ite ?_ ?_
   | refine LeO.bind ?_ (fun _ => ?_)
theorem impl_BookOk.mono : ∀ a0 a1 a2 k, LeO (impl_BookOk.f k a0 a1 a2) (impl_BookOk.f (k + 1) a0 a1 a2) := by
 intro a0 a1 a2 k
 obtain ⟨ih0, ih1, ih2⟩ := impl_BookOk.mono_l k
 unfold impl_BookOk.f
 repeat' first
   | (with_reducible exact ih0 _ _ _ _ _ _)
   | (with_reducible exact ih1 _ _ _ _ _ _ _ _ _ _)
   | (with_reducible exact ih2 _ _ _ _ _ _)
   | (with_reducible exact LeO.refl _)
   | (with_reducible exact LeO.none _)
   | (with_reducible refine LeO.ite ?_ ?_)
   | (with_reducible refine LeO.bind ?_ (fun _ => ?_))
   | exact ih0 _ _ _ _ _ _
   | exact ih1 _ _ _ _ _ _ _ _ _ _
   | exact ih2 _ _ _ _ _ _
   | exact LeO.none _
   | refine LeO.ite ?_ ?_
   | refine LeO.bind ?_ (fun _ => ?_)
set_option maxHeartbeats 8000000 in
set_option maxRecDepth 100000 in
theorem impl_BookOk.calls (k : Nat) (Ap : Option Addr) (cp : Nat) (lp : List (S50)) (P0_1_ : Nat → Prop) (Aq : Option Addr) (cq : Nat) (lq : List Int) (P0_2_ : Nat → Prop) (Ar : Option Addr) (cr : Nat) (lr : List Int) (r : Bool) (w : World) (hr0_0 : Kd.C k50 w Ap lp.length lp) (hc0_0 : lp.length ≤ cp) (hs0_1 : Kd.V (Kd.int .i64) 3 w w.heap.size (fun k_ => P0_1_ k_) (.slice Aq lq.length cq) lq) (hs0_2 : Kd.V (Kd.int .i64) 3 w w.heap.size (fun k_ => P0_2_ k_) (.slice Ar lr.length cr) lr) (h : impl_BookOk.f k lp lq lr = some r) :
  Calls Try.prog 40 #[.agg #[.slice Ap lp.length cp, .slice Aq lq.length cq, .slice Ar lr.length cr]] w fun e w' => e = .returned (.bool r) ∧ Below w.heap.size w w' := by
 have hu29 := Try.underlying29
 have hu50 := Try.underlying50
 have HR0_0 := mk0 hr0_0
 have HC0_0 := mk0 hc0_0
 clear hr0_0 hc0_0
 have HO0_1 := mk0 (show Kd.V (Kd.int .i64) 3 w w.heap.size (fun k_ => ((P0_1_ k_ ∨ P0_2_ k_) ∨ w.heap.size ≤ k_)) (.slice Aq lq.length cq) lq from Kd.V_mono hs0_1 (fun k_ hk => .inl (.inl hk)))
 have HO0_2 := mk0 (show Kd.V (Kd.int .i64) 3 w w.heap.size (fun k_ => ((P0_1_ k_ ∨ P0_2_ k_) ∨ w.heap.size ≤ k_)) (.slice Ar lr.length cr) lr from Kd.V_mono hs0_2 (fun k_ hk => .inl (.inr hk)))
 have HB := mk0 (Below.refl w.heap.size w)
 have H : ((some (([lq, lr] : List (List Int)) : List (List Int))).bind fun y162 => (impl_BookOk.l0 k y162 (y162.length : Int) 0 lp lq lr)) = some r := h
 clear h
 obtain ⟨y162, hy162⟩ : ∃ y_ : List (List Int), y_ = (([lq, lr] : List (List Int))) := ⟨_, rfl⟩
 replace H : (impl_BookOk.l0 k y162 (y162.length : Int) 0 lp lq lr) = some r := by first | (rw [hy162]; with_reducible exact H) | (have H2_ := (Option.bind_some _ _).symm.trans H; rw [hy162]; with_reducible exact H2_) | (have H2_ := (Option.bind_some _ _).symm.trans H; with_reducible exact H2_) | with_reducible exact H | (rw [hy162]; exact H) | exact H
 have Ny162 := mk0 hy162
 clear hy162
 have H' := mk0 H
 clear H
 go_enter Try.func40, Try.ntmps40
 go_wp2_with (first | ((with_reducible refine gate_dst (N := 1) rfl ?_); (try (refine gate_guard (by rfl) ?_; dsimp only)); refine box_event ?hg (N := 1) ?hd (cs := #[.slice Ap lp.length cp, .slice Aq lq.length cq, .slice Ar lr.length cr]) (t := 29) ?hr ?_; (case hd | hg => rfl); (case hr => first | (go_simp; done) | (go_simp; rfl)); intro gb161 hg w2 hbox hb; have n0_ := mk0 (Kd.V_below (Kd.V_elderB (by (with_reducible repeat (first | apply Kd.V_alloc | apply Kd.V_drewN | apply Kd.V_drew)); exact HO0_1.out) gb161 (Nat.le_of_eq hg.symm)) hb); have n1_ := mk0 (Kd.V_below (Kd.V_elderB (by (with_reducible repeat (first | apply Kd.V_alloc | apply Kd.V_drewN | apply Kd.V_drew)); exact HO0_2.out) gb161 (Nat.le_of_eq hg.symm)) hb); have n2_ := mk0 (below_step (hA HB.out) hb); have n3_ := mk0 (hbox); have n4_ := mk0 ((by rw [hg]; exact (below_size (hA HB.out)) : w.heap.size ≤ gb161)); have n5_ := mk0 ((by rw [hg]; exact (below_size (hA HB.out)) : w.heap.size ≤ gb161)); clear HO0_1; clear HO0_2; clear HB; have HO0_1 := n0_; have HO0_2 := n1_; have HB := n2_; have BK161 := n3_; have GW161 := n4_; have GE161 := n5_; clear n0_ n1_ n2_ n3_ n4_ n5_; clear hb hbox hg; have hcz3_0 : w2.cell? ⟨gb161, 0, none⟩ = some (.slice Ap lp.length cp) := (blk_cell BK161.out 0).trans rfl; have hcz3_1 : w2.cell? ⟨gb161, 1, none⟩ = some (.slice Aq lq.length cq) := (blk_cell BK161.out 1).trans rfl; have hcz3_2 : w2.cell? ⟨gb161, 2, none⟩ = some (.slice Ar lr.length cr) := (blk_cell BK161.out 2).trans rfl; have hfz3_0 := blk_frozen BK161.out 0; have hfz3_1 := blk_frozen BK161.out 1; have hfz3_2 := blk_frozen BK161.out 2) | ((with_reducible refine gate_dst (N := 13) rfl ?_); (try (refine gate_guard (by rfl) ?_; dsimp only)); refine Kd.N_lit (Kd.slice 3 (Kd.int .i64)) _ 23 ?hg (N' := 13) ?hd (xs := ([lq, lr] : List (List Int))) (inner := [.slice Aq lq.length cq, .slice Ar lr.length cr]) (ok := (fun k_ => ((P0_1_ k_ ∨ P0_2_ k_) ∨ w.heap.size ≤ k_) ∧ k_ ≠ gb161)) (okp := (fun k_ => ((P0_1_ k_ ∨ P0_2_ k_) ∨ w.heap.size ≤ k_) ∧ k_ ≠ gb161)) ?hr ?hp (fun _ hk => hk) ((show ∀ k_, w2.heap.size ≤ k_ → (fun k_ => ((P0_1_ k_ ∨ P0_2_ k_) ∨ w.heap.size ≤ k_) ∧ k_ ≠ gb161) k_ from fun k_ hk => ⟨(.inr (Nat.le_trans (below_size (hA HB.out)) hk)), Kd.freshB (g := gb161) (o := .cells #[.slice Ap lp.length cp, .slice Aq lq.length cq, .slice Ar lr.length cr] 29 (0, 0)) (bA BK161.out) k_ hk⟩) _ (Nat.le_refl _)) (Below.refl _ _) (Nat.le_refl _) (by simp) ?_; (case hd | hg => rfl); (case hr => first | (go_simp; done) | (go_simp; rfl)); (case hp => exact (Reps.one (show Kd.FK (Kd.slice 3 (Kd.int .i64)) _ _ lq [.slice Aq lq.length cq] from (Kd.FK_slice_mk (Kd.V_reads' (Kd.V_mono (ok' := (fun k_ => ((P0_1_ k_ ∨ P0_2_ k_) ∨ w.heap.size ≤ k_) ∧ k_ ≠ gb161)) (HO0_1.out) (fun k_ hk => ⟨hk.1, hk.2⟩))).2.1 (Kd.V_F (Kd.V_mono (ok' := (fun k_ => ((P0_1_ k_ ∨ P0_2_ k_) ∨ w.heap.size ≤ k_) ∧ k_ ≠ gb161)) (HO0_1.out) (fun k_ hk => ⟨hk.1, hk.2⟩))))) (Reps.one (show Kd.FK (Kd.slice 3 (Kd.int .i64)) _ _ lr [.slice Ar lr.length cr] from (Kd.FK_slice_mk (Kd.V_reads' (Kd.V_mono (ok' := (fun k_ => ((P0_1_ k_ ∨ P0_2_ k_) ∨ w.heap.size ≤ k_) ∧ k_ ≠ gb161)) (HO0_2.out) (fun k_ hk => ⟨hk.1, hk.2⟩))).2.1 (Kd.V_F (Kd.V_mono (ok' := (fun k_ => ((P0_1_ k_ ∨ P0_2_ k_) ∨ w.heap.size ≤ k_) ∧ k_ ≠ gb161)) (HO0_2.out) (fun k_ hk => ⟨hk.1, hk.2⟩))))) (Reps.none _ _)))); intro v163 w4 ho5 hb hg_ hnew_; clear hg_ hnew_; (first | rw [← Ny162.out] at ho5 | (simp only [Int.reduceToNat] at ho5; rw [← Ny162.out] at ho5)); have n0_ := mk0 (Kd.V_elder' (by (with_reducible repeat (first | apply Kd.V_alloc | apply Kd.V_drewN | apply Kd.V_drew)); exact HO0_1.out) (Kd.N_base ho5) hb); have n1_ := mk0 (Kd.V_elder' (by (with_reducible repeat (first | apply Kd.V_alloc | apply Kd.V_drewN | apply Kd.V_drew)); exact HO0_2.out) (Kd.N_base ho5) hb); have n2_ := mk0 (Kd.N_lower ho5 (below_size (hA HB.out))); have n3_ := mk0 (bB BK161.out hb); have n4_ := mk0 (below_step (hA HB.out) hb); clear HO0_1; clear HO0_2; clear BK161; clear HB; have HO0_1 := n0_; have HO0_2 := n1_; have HO164 := n2_; have BK161 := n3_; have HB := n4_; clear n0_ n1_ n2_ n3_ n4_; clear hb ho5; obtain ⟨Ao6, co6, eo6⟩ := Kd.N_slice HO164.out; subst eo6))
 go_loopg [15] k (fun kq v15 w' => ∃ (x15_1 : Int), v15 = .int .i64 x15_1 ∧ Aside0 (impl_BookOk.l0 kq y162 (y162.length : Int) x15_1 lp lq lr = some r) ∧ Aside0 (kq ≤ k) ∧ Aside0 (Kd.N (Kd.slice 3 (Kd.int .i64)) 23 w' w.heap.size (fun k_ => ((P0_1_ k_ ∨ P0_2_ k_) ∨ w.heap.size ≤ k_) ∧ k_ ≠ gb161) (.slice Ao6 y162.length co6) y162) ∧ Aside0 (Kd.V (Kd.int .i64) 3 w' w.heap.size (fun k_ => ((P0_1_ k_ ∨ P0_2_ k_) ∨ w.heap.size ≤ k_) ∧ some k_ ≠ ((.slice Ao6 y162.length co6) : Value).ownBlock ∧ k_ ≠ gb161) (.slice Aq lq.length cq) lq) ∧ Aside0 (Kd.V (Kd.int .i64) 3 w' w.heap.size (fun k_ => ((P0_1_ k_ ∨ P0_2_ k_) ∨ w.heap.size ≤ k_) ∧ some k_ ≠ ((.slice Ao6 y162.length co6) : Value).ownBlock ∧ k_ ≠ gb161) (.slice Ar lr.length cr) lr) ∧ Aside0 (w'.heap[gb161]? = some (.cells #[(.slice Ap lp.length cp), (.slice Aq lq.length cq), (.slice Ar lr.length cr)] 29 (0, 0))) ∧ Aside0 (Below w.heap.size w w'))
 case atStart => exact ⟨(0), rs, H', ⟨Nat.le_refl _⟩, ⟨by (with_reducible repeat (first | apply Kd.N_alloc | apply Kd.N_drewN | apply Kd.N_drew)); exact HO164.out⟩, ⟨by (with_reducible repeat (first | apply Kd.V_alloc | apply Kd.V_drewN | apply Kd.V_drew)); exact Kd.V_mono HO0_1.out (fun _ hk => ⟨hk.1.1, ⟨hk.2, hk.1.2⟩⟩)⟩, ⟨by (with_reducible repeat (first | apply Kd.V_alloc | apply Kd.V_drewN | apply Kd.V_drew)); exact Kd.V_mono HO0_2.out (fun _ hk => ⟨hk.1.1, ⟨hk.2, hk.1.2⟩⟩)⟩, ⟨by refine bC (a := ?_); exact BK161.out⟩, ⟨hA HB.out⟩⟩
 case round =>
  clear H'
  (try clear p2); (try clear c4); (try clear hcz3_0); (try clear hcz3_1); (try clear hcz3_2); (try clear hfz3_0); (try clear hfz3_1); (try clear hfz3_2)
  obtain ⟨x15_1, rfl, HA, HK1, HO_13, HO_162001, HO_162002, BK161, HB⟩ := hrel
  cases gk with
  | zero => exact absurd HA.out (by simp [impl_BookOk.l0])
  | succ k1 =>
   have H := HA.out
   clear HA
   simp only [impl_BookOk.l0] at H
   by_cases c7 : x15_1 < (y162.length : Int)
   ·rw [if_pos c7] at H
    have c7b0 : decide (x15_1 < (y162.length : Int)) = true := decide_eq_true c7
    clear c7
    by_cases c8 : 0 ≤ x15_1
    ·rw [if_pos c8] at H
     have c8b0 : decide (0 ≤ x15_1) = true := decide_eq_true c8
     clear c8
     by_cases c9 : x15_1 < (y162.length : Int)
     ·rw [if_pos c9] at H
      have c9b0 : decide (x15_1 < (y162.length : Int)) = true := decide_eq_true c9
      clear c9
      have H' := mk0 H
      clear H
      have p165 : 0 ≤ (x15_1 : Int) := of_decide_eq_true sm
      have q165 : x15_1 < (y162.length : Int) := of_decide_eq_true sm
      obtain ⟨ad165, A165_0, c165_0, e165, hx165_0, hl165_0, hi165_0⟩ := at_L3 (Kd.N_reads' HO_13.out).2.2 x15_1 p165 q165
      cases e165
      obtain ⟨ce165, hce165, hMe165, hcc165⟩ := Kd.N_get HO_13.out [] x15_1 p165 (by first | exact q165 | exact of_decide_eq_true sm | (have e_ := (Kd.N_reads' HO_13.out).1; omega))
      obtain ⟨ua165_0, uc165_0, rfl, ul165_0, ge165_0⟩ := Kd.FK_slice_open hMe165
      have hv165_0 := hcc165 0 _ rfl
      rw [Nat.add_zero, show ((Kd.slice 3 (Kd.int .i64))).sz = 1 from rfl, Nat.mul_one] at hv165_0
      replace hv165_0 := Option.some.inj (hv165_0.symm.trans hx165_0)
      injection hv165_0 with hva_ hvn_ hvc_
      rw [hva_] at ge165_0
      rw [hvc_] at ul165_0
      have HL165_0 := mk0 (show Kd.V (Kd.int .i64) 3 _ w.heap.size _ _ (rd_L3 y162 x15_1) from Kd.V_mk ul165_0 ge165_0)
      clear hva_ hvn_ hvc_ ge165_0 ul165_0
      clear hcc165 hce165
      have HR165_0 := mk0 hi165_0
      have HC165_0 := mk0 hl165_0
      clear hi165_0 hl165_0
      replace p165 := eq_true p165
      replace q165 := eq_true q165
      go_wp2
      go_loopg [21] k1 (fun kq v21 w' => ∃ (x21_2 : Int), v21 = .int .i64 x21_2 ∧ Aside0 (impl_BookOk.l1 kq (rd_L3 y162 x15_1) y162 (y162.length : Int) x15_1 (rd_L3 y162 x15_1) ((rd_L3 y162 x15_1).length : Int) x21_2 lp lq lr = some r) ∧ Aside0 (kq ≤ k1) ∧ Aside0 (Kd.N (Kd.slice 3 (Kd.int .i64)) 23 w' w.heap.size (fun k_ => ((P0_1_ k_ ∨ P0_2_ k_) ∨ w.heap.size ≤ k_) ∧ k_ ≠ gb161) (.slice (some ad165) y162.length co6) y162) ∧ Aside0 (Kd.V (Kd.int .i64) 3 w' w.heap.size (fun k_ => ((P0_1_ k_ ∨ P0_2_ k_) ∨ w.heap.size ≤ k_) ∧ some k_ ≠ ((.slice (some ad165) y162.length co6) : Value).ownBlock ∧ k_ ≠ gb161) (.slice Aq lq.length cq) lq) ∧ Aside0 (Kd.V (Kd.int .i64) 3 w' w.heap.size (fun k_ => ((P0_1_ k_ ∨ P0_2_ k_) ∨ w.heap.size ≤ k_) ∧ some k_ ≠ ((.slice (some ad165) y162.length co6) : Value).ownBlock ∧ k_ ≠ gb161) (.slice Ar lr.length cr) lr) ∧ Aside0 (w'.heap[gb161]? = some (.cells #[(.slice Ap lp.length cp), (.slice Aq lq.length cq), (.slice Ar lr.length cr)] 29 (0, 0))) ∧ Aside0 (Kd.C (Kd.int .i64) w' A165_0 (rd_L3 y162 x15_1).length (rd_L3 y162 x15_1)) ∧ Aside0 (Below w.heap.size w w'))
      case atStart => exact ⟨(0), rs, H', ⟨Nat.le_refl _⟩, ⟨by (with_reducible repeat (first | apply Kd.N_alloc | apply Kd.N_drewN | apply Kd.N_drew)); exact HO_13.out⟩, ⟨by (with_reducible repeat (first | apply Kd.V_alloc | apply Kd.V_drewN | apply Kd.V_drew)); exact HO_162001.out⟩, ⟨by (with_reducible repeat (first | apply Kd.V_alloc | apply Kd.V_drewN | apply Kd.V_drew)); exact HO_162002.out⟩, ⟨by refine bC (a := ?_); exact BK161.out⟩, ⟨by repeat (first | (with_reducible exact HR165_0.out) | (with_reducible refine Kd.C_alloc ?_ _) | (with_reducible refine Kd.C_drewN ?_ _) | (with_reducible refine Kd.C_drew ?_) | exact HR165_0.out)⟩, ⟨hA HB.out⟩⟩
      case round =>
       clear H'
       (try clear c1); (try clear p1); (try clear q1); (try clear hx1); (try clear p2); (try clear c4); (try clear c7); (try clear c7b0); (try clear c8); (try clear c8b0); (try clear c9); (try clear c9b0); (try clear hcz3_0); (try clear hcz3_1); (try clear hcz3_2); (try clear hfz3_0); (try clear hfz3_1); (try clear hfz3_2); (try clear hx165_0); (try clear p165); (try clear p2); (try clear q165)
       obtain ⟨x21_2, rfl, HA, HK2, HO_13, HO_162001, HO_162002, BK161, HR165_0, HB⟩ := hrel
       cases gk with
       | zero => exact absurd HA.out (by simp [impl_BookOk.l1])
       | succ k2 =>
        have H := HA.out
        clear HA
        simp only [impl_BookOk.l1] at H
        by_cases c10 : x21_2 < ((rd_L3 y162 x15_1).length : Int)
        ·rw [if_pos c10] at H
         have c10b0 : decide (x21_2 < ((rd_L3 y162 x15_1).length : Int)) = true := decide_eq_true c10
         clear c10
         by_cases c11 : 0 ≤ x21_2
         ·rw [if_pos c11] at H
          have c11b0 : decide (0 ≤ x21_2) = true := decide_eq_true c11
          clear c11
          by_cases c12 : x21_2 < ((rd_L3 y162 x15_1).length : Int)
          ·rw [if_pos c12] at H
           have c12b0 : decide (x21_2 < ((rd_L3 y162 x15_1).length : Int)) = true := decide_eq_true c12
           clear c12
           replace H := Option.bind_eq_some_iff.mp H
           obtain ⟨t167, A130, H⟩ := H
           replace H : (if t167 = true then (impl_BookOk.l1 k2 (rd_L3 y162 x15_1) y162 (y162.length : Int) x15_1 (rd_L3 y162 x15_1) ((rd_L3 y162 x15_1).length : Int) (wrap64 (x21_2 + 1)) lp lq lr) else (some false)) = some r := H
           have A13 := mk0 A130
           clear A130
           by_cases c14 : t167 = true
           ·subst c14
            have H1 : (impl_BookOk.l1 k2 (rd_L3 y162 x15_1) y162 (y162.length : Int) x15_1 (rd_L3 y162 x15_1) ((rd_L3 y162 x15_1).length : Int) (wrap64 (x21_2 + 1)) lp lq lr) = some r := by rw [if_pos rfl] at H; exact H
            clear H
            have H := H1
            clear H1
            have H' := mk0 H
            clear H
            have p166 : 0 ≤ (x21_2 : Int) := of_decide_eq_true sm
            have q166 : x21_2 < ((rd_L3 y162 x15_1).length : Int) := of_decide_eq_true sm
            obtain ⟨ad166, e166, hx166_0⟩ := Kd.at_int HR165_0.out x21_2 p166 q166
            cases e166
            try (replace hx166_0 := (HB.out.cell (World.block_lt_of_cell? w _ hx166_0)).trans hx166_0)
            replace p166 := eq_true p166
            replace q166 := eq_true q166
            go_wp2_with (first | ((with_reducible refine gate_callee (f := 54) rfl ?_); refine goesL_ (some 26) rfl rfl Try.func54 (by kernel_rfl) rfl #[.int .i64 (rd (rd_L3 y162 x15_1) x21_2), .int .i64 (-1), .int .i64 30] rfl ar ?_; (with_reducible refine (impl_in.calls (rd (rd_L3 y162 x15_1) x21_2) (-1) 30 true _ A13.out).mono ?_); rintro e w' ⟨rfl, ⟨nd, rfl⟩⟩; refine ⟨_, rfl, ?_⟩))
            go_roundg k2
            case measure => have := HK1.out; have := HK2.out; omega
            case rel => exact ⟨(wrap64 (x21_2 + 1)), rs, H', ⟨by have := HK1.out; have := HK2.out; omega⟩, ⟨by (with_reducible repeat (first | apply Kd.N_alloc | apply Kd.N_drewN | apply Kd.N_drew)); exact HO_13.out⟩, ⟨by (with_reducible repeat (first | apply Kd.V_alloc | apply Kd.V_drewN | apply Kd.V_drew)); exact HO_162001.out⟩, ⟨by (with_reducible repeat (first | apply Kd.V_alloc | apply Kd.V_drewN | apply Kd.V_drew)); exact HO_162002.out⟩, ⟨by refine bC (a := ?_); exact BK161.out⟩, ⟨by repeat (first | (with_reducible exact HR165_0.out) | (with_reducible refine Kd.C_alloc ?_ _) | (with_reducible refine Kd.C_drewN ?_ _) | (with_reducible refine Kd.C_drew ?_) | exact HR165_0.out)⟩, ⟨hA HB.out⟩⟩
           ·replace c14 := Bool.eq_false_iff.mpr c14
            subst c14
            have H1 : (some false) = some r := by rw [if_neg (show ¬ (false = true) by decide)] at H; exact H
            clear H
            have H := H1
            clear H1
            obtain rfl := Option.some.inj H
            have p166 : 0 ≤ (x21_2 : Int) := of_decide_eq_true sm
            have q166 : x21_2 < ((rd_L3 y162 x15_1).length : Int) := of_decide_eq_true sm
            obtain ⟨ad166, e166, hx166_0⟩ := Kd.at_int HR165_0.out x21_2 p166 q166
            cases e166
            try (replace hx166_0 := (HB.out.cell (World.block_lt_of_cell? w _ hx166_0)).trans hx166_0)
            replace p166 := eq_true p166
            replace q166 := eq_true q166
            go_wp2_with (first | ((with_reducible refine gate_callee (f := 54) rfl ?_); refine goesL_ (some 26) rfl rfl Try.func54 (by kernel_rfl) rfl #[.int .i64 (rd (rd_L3 y162 x15_1) x21_2), .int .i64 (-1), .int .i64 30] rfl ar ?_; (with_reducible refine (impl_in.calls (rd (rd_L3 y162 x15_1) x21_2) (-1) 30 false _ A13.out).mono ?_); rintro e w' ⟨rfl, ⟨nd, rfl⟩⟩; refine ⟨_, rfl, ?_⟩))
            go_ret
            exact ⟨er, hA HB.out⟩
          ·rw [if_neg c12] at H
           exact absurd H (by simp)
         ·rw [if_neg c11] at H
          exact absurd H (by simp)
        ·rw [if_neg c10] at H
         have c10b0 : decide (x21_2 < ((rd_L3 y162 x15_1).length : Int)) = false := decide_eq_false c10
         clear c10
         by_cases c15 : ((rd_L3 y162 x15_1).length : Int) > 30
         ·rw [if_pos c15] at H
          have c15b0 : decide (30 < ((rd_L3 y162 x15_1).length : Int)) = true := decide_eq_true c15
          have c15b1 : decide (30 < (rd_L3 y162 x15_1).length) = true := decide_eq_true (by omega)
          clear c15
          obtain rfl := Option.some.inj H
          go_wp2
          go_ret
          exact ⟨er, hA HB.out⟩
         ·rw [if_neg c15] at H
          have c15b0 : decide (30 < ((rd_L3 y162 x15_1).length : Int)) = false := decide_eq_false c15
          have c15b1 : decide (30 < (rd_L3 y162 x15_1).length) = false := decide_eq_false (by omega)
          clear c15
          have H' := mk0 H
          clear H
          go_wp2
          go_roundg k2
          case measure => have := HK1.out; have := HK2.out; omega
          case rel => exact ⟨(wrap64 (x15_1 + 1)), rs, H', ⟨by have := HK1.out; have := HK2.out; omega⟩, ⟨by (with_reducible repeat (first | apply Kd.N_alloc | apply Kd.N_drewN | apply Kd.N_drew)); exact HO_13.out⟩, ⟨by (with_reducible repeat (first | apply Kd.V_alloc | apply Kd.V_drewN | apply Kd.V_drew)); exact HO_162001.out⟩, ⟨by (with_reducible repeat (first | apply Kd.V_alloc | apply Kd.V_drewN | apply Kd.V_drew)); exact HO_162002.out⟩, ⟨by refine bC (a := ?_); exact BK161.out⟩, ⟨hA HB.out⟩⟩
     ·rw [if_neg c9] at H
      exact absurd H (by simp)
    ·rw [if_neg c8] at H
     exact absurd H (by simp)
   ·rw [if_neg c7] at H
    have c7b0 : decide (x15_1 < (y162.length : Int)) = false := decide_eq_false c7
    clear c7
    have H' := mk0 H
    clear H
    have hcz16_0 : wr.cell? ⟨gb161, 0, none⟩ = some (.slice Ap lp.length cp) := (blk_cell BK161.out 0).trans rfl
    have hcz16_1 : wr.cell? ⟨gb161, 1, none⟩ = some (.slice Aq lq.length cq) := (blk_cell BK161.out 1).trans rfl
    have hcz16_2 : wr.cell? ⟨gb161, 2, none⟩ = some (.slice Ar lr.length cr) := (blk_cell BK161.out 2).trans rfl
    have hfz16_0 := blk_frozen BK161.out 0
    have hfz16_1 := blk_frozen BK161.out 1
    have hfz16_2 := blk_frozen BK161.out 2
    go_wp2
    go_loopg [36] k1 (fun kq v36 w' => ∃ (x36_2 : Int), v36 = .int .i64 x36_2 ∧ Aside0 (impl_BookOk.l2 kq lp (lp.length : Int) x36_2 lp lq lr = some r) ∧ Aside0 (kq ≤ k1) ∧ Aside0 (Kd.V (Kd.int .i64) 3 w' w.heap.size (fun k_ => ((P0_1_ k_ ∨ P0_2_ k_) ∨ w.heap.size ≤ k_) ∧ k_ ≠ gb161) (.slice Aq lq.length cq) lq) ∧ Aside0 (Kd.V (Kd.int .i64) 3 w' w.heap.size (fun k_ => ((P0_1_ k_ ∨ P0_2_ k_) ∨ w.heap.size ≤ k_) ∧ k_ ≠ gb161) (.slice Ar lr.length cr) lr) ∧ Aside0 (w'.heap[gb161]? = some (.cells #[(.slice Ap lp.length cp), (.slice Aq lq.length cq), (.slice Ar lr.length cr)] 29 (0, 0))) ∧ Aside0 (Below w.heap.size w w'))
    case atStart => exact ⟨(0), rs, H', ⟨Nat.le_refl _⟩, ⟨by (with_reducible repeat (first | apply Kd.V_alloc | apply Kd.V_drewN | apply Kd.V_drew)); exact Kd.V_mono HO_162001.out (fun _ hk => ⟨hk.1, hk.2.2⟩)⟩, ⟨by (with_reducible repeat (first | apply Kd.V_alloc | apply Kd.V_drewN | apply Kd.V_drew)); exact Kd.V_mono HO_162002.out (fun _ hk => ⟨hk.1, hk.2.2⟩)⟩, ⟨by refine bC (a := ?_); exact BK161.out⟩, ⟨hA HB.out⟩⟩
    case round =>
     clear H'
     (try clear c1); (try clear p1); (try clear q1); (try clear hx1); (try clear p2); (try clear c4); (try clear c5); (try clear p6); (try clear c7); (try clear c7b0); (try clear c8); (try clear c8b0); (try clear c9); (try clear c9b0); (try clear c10); (try clear c10b0); (try clear c11); (try clear c11b0); (try clear c12); (try clear c12b0); (try clear c14); (try clear c15); (try clear c15b0); (try clear c15b1); (try clear c16); (try clear p16); (try clear q16); (try clear hx16); (try clear hcz16_0); (try clear hcz16_1); (try clear hcz16_2); (try clear hcz3_0); (try clear hcz3_1); (try clear hcz3_2); (try clear hfz16_0); (try clear hfz16_1); (try clear hfz16_2); (try clear hfz3_0); (try clear hfz3_1); (try clear hfz3_2); (try clear hx165_0); (try clear hx166_0); (try clear p1); (try clear p165); (try clear p166); (try clear p2); (try clear q1); (try clear q165); (try clear q166)
     obtain ⟨x36_2, rfl, HA, HK2, HO_162001, HO_162002, BK161, HB⟩ := hrel
     cases gk with
     | zero => exact absurd HA.out (by simp [impl_BookOk.l2])
     | succ k2 =>
      have H := HA.out
      clear HA
      simp only [impl_BookOk.l2] at H
      by_cases c17 : x36_2 < (lp.length : Int)
      ·rw [if_pos c17] at H
       have c17b0 : decide (x36_2 < (lp.length : Int)) = true := decide_eq_true c17
       clear c17
       by_cases c18 : 0 ≤ x36_2
       ·rw [if_pos c18] at H
        have c18b0 : decide (0 ≤ x36_2) = true := decide_eq_true c18
        clear c18
        by_cases c19 : x36_2 < (lp.length : Int)
        ·rw [if_pos c19] at H
         have c19b0 : decide (x36_2 < (lp.length : Int)) = true := decide_eq_true c19
         clear c19
         replace H := Option.bind_eq_some_iff.mp H
         obtain ⟨t170, A200, H⟩ := H
         replace H : (if t170 = true then ((impl_in.f ((rd_T50 lp x36_2).f1) 0 (wrap64 ((lq.length : Int) - 1))).bind fun t171 => (if t171 = true then ((impl_in.f ((rd_T50 lp x36_2).f2) (-1) (wrap64 ((lr.length : Int) - 1))).bind fun t172 => (if t172 = true then (impl_BookOk.l2 k2 lp (lp.length : Int) (wrap64 (x36_2 + 1)) lp lq lr) else (some false))) else (some false))) else (some false)) = some r := H
         have A20 := mk0 A200
         clear A200
         by_cases c21 : t170 = true
         ·subst c21
          have H1 : ((impl_in.f ((rd_T50 lp x36_2).f1) 0 (wrap64 ((lq.length : Int) - 1))).bind fun t171 => (if t171 = true then ((impl_in.f ((rd_T50 lp x36_2).f2) (-1) (wrap64 ((lr.length : Int) - 1))).bind fun t172 => (if t172 = true then (impl_BookOk.l2 k2 lp (lp.length : Int) (wrap64 (x36_2 + 1)) lp lq lr) else (some false))) else (some false))) = some r := by rw [if_pos rfl] at H; exact H
          clear H
          have H := H1
          clear H1
          replace H := Option.bind_eq_some_iff.mp H
          obtain ⟨t171, A220, H⟩ := H
          replace H : (if t171 = true then ((impl_in.f ((rd_T50 lp x36_2).f2) (-1) (wrap64 ((lr.length : Int) - 1))).bind fun t172 => (if t172 = true then (impl_BookOk.l2 k2 lp (lp.length : Int) (wrap64 (x36_2 + 1)) lp lq lr) else (some false))) else (some false)) = some r := H
          have A22 := mk0 A220
          clear A220
          by_cases c23 : t171 = true
          ·subst c23
           have H1 : ((impl_in.f ((rd_T50 lp x36_2).f2) (-1) (wrap64 ((lr.length : Int) - 1))).bind fun t172 => (if t172 = true then (impl_BookOk.l2 k2 lp (lp.length : Int) (wrap64 (x36_2 + 1)) lp lq lr) else (some false))) = some r := by rw [if_pos rfl] at H; exact H
           clear H
           have H := H1
           clear H1
           replace H := Option.bind_eq_some_iff.mp H
           obtain ⟨t172, A240, H⟩ := H
           replace H : (if t172 = true then (impl_BookOk.l2 k2 lp (lp.length : Int) (wrap64 (x36_2 + 1)) lp lq lr) else (some false)) = some r := H
           have A24 := mk0 A240
           clear A240
           by_cases c25 : t172 = true
           ·subst c25
            have H1 : (impl_BookOk.l2 k2 lp (lp.length : Int) (wrap64 (x36_2 + 1)) lp lq lr) = some r := by rw [if_pos rfl] at H; exact H
            clear H
            have H := H1
            clear H1
            have H' := mk0 H
            clear H
            have p168 : 0 ≤ (x36_2 : Int) := of_decide_eq_true sm
            have q168 : x36_2 < (lp.length : Int) := of_decide_eq_true sm
            obtain ⟨ad168, e168, hx168_0, hx168_1, hx168_2⟩ := at_T50 HR0_0.out x36_2 p168 q168
            cases e168
            try (replace hx168_0 := (HB.out.cell (World.block_lt_of_cell? w _ hx168_0)).trans hx168_0)
            try (replace hx168_1 := (HB.out.cell (World.block_lt_of_cell? w _ hx168_1)).trans hx168_1)
            try (replace hx168_2 := (HB.out.cell (World.block_lt_of_cell? w _ hx168_2)).trans hx168_2)
            replace p168 := eq_true p168
            replace q168 := eq_true q168
            go_wp2_with (first | ((with_reducible refine gate_dst (N := 8) rfl ?_); (try (refine gate_guard (by rfl) ?_; dsimp only)); refine box_event ?hg (N := 8) ?hd (cs := #[.int .i64 0, .int .i64 0, .int .i64 0]) (t := 50) ?hr ?_; (case hd | hg => rfl); (case hr => first | (go_simp; done) | (go_simp; rfl)); intro gb169 hg w26 hbox hb; have n0_ := mk0 (Kd.V_below (Kd.V_elderB (by (with_reducible repeat (first | apply Kd.V_alloc | apply Kd.V_drewN | apply Kd.V_drew)); exact HO_162001.out) gb169 (Nat.le_of_eq hg.symm)) hb); have n1_ := mk0 (Kd.V_below (Kd.V_elderB (by (with_reducible repeat (first | apply Kd.V_alloc | apply Kd.V_drewN | apply Kd.V_drew)); exact HO_162002.out) gb169 (Nat.le_of_eq hg.symm)) hb); have n2_ := mk0 (bB BK161.out hb); have n3_ := mk0 (below_step (hA HB.out) hb); have n4_ := mk0 (hbox); have n5_ := mk0 ((by rw [hg]; exact (below_size (hA HB.out)) : w.heap.size ≤ gb169)); have n6_ := mk0 ((by rw [hg]; exact (below_size (hA HB.out)) : w.heap.size ≤ gb169)); have n7_ := mk0 ((by rw [hg]; exact Nat.ne_of_lt (blk_lt (g := gb161) (o := .cells #[.slice (some ad168) lp.length cp, .slice Aq lq.length cq, .slice Ar lr.length cr] 29 (0, 0)) (bA BK161.out)) : gb161 ≠ gb169)); have n8_ := mk0 ((by rw [hg]; exact Nat.ne_of_gt (blk_lt (g := gb161) (o := .cells #[.slice (some ad168) lp.length cp, .slice Aq lq.length cq, .slice Ar lr.length cr] 29 (0, 0)) (bA BK161.out)) : gb169 ≠ gb161)); clear HO_162001; clear HO_162002; clear BK161; clear HB; have HO_162001 := n0_; have HO_162002 := n1_; have BK161 := n2_; have HB := n3_; have BK169 := n4_; have GW169 := n5_; have GE169 := n6_; have NB161_169 := n7_; have NB169_161 := n8_; clear n0_ n1_ n2_ n3_ n4_ n5_ n6_ n7_ n8_; clear hb hbox hg; have hnb27 := NB169_161.out; have hnc27 := NB161_169.out; have hcz28_0 : w26.cell? ⟨gb169, 0, none⟩ = some (.int .i64 0) := (blk_cell BK169.out 0).trans rfl; have hcz28_1 : w26.cell? ⟨gb169, 1, none⟩ = some (.int .i64 0) := (blk_cell BK169.out 1).trans rfl; have hcz28_2 : w26.cell? ⟨gb169, 2, none⟩ = some (.int .i64 0) := (blk_cell BK169.out 2).trans rfl; have hfz28_0 := blk_frozen BK169.out 0; have hfz28_1 := blk_frozen BK169.out 1; have hfz28_2 := blk_frozen BK169.out 2; have hcz29_0 : w26.cell? ⟨gb161, 0, none⟩ = some (.slice (some ad168) lp.length cp) := (blk_cell BK161.out 0).trans rfl; have hcz29_1 : w26.cell? ⟨gb161, 1, none⟩ = some (.slice Aq lq.length cq) := (blk_cell BK161.out 1).trans rfl; have hcz29_2 : w26.cell? ⟨gb161, 2, none⟩ = some (.slice Ar lr.length cr) := (blk_cell BK161.out 2).trans rfl; have hfz29_0 := blk_frozen BK161.out 0; have hfz29_1 := blk_frozen BK161.out 1; have hfz29_2 := blk_frozen BK161.out 2) | ((with_reducible refine gate_callee (f := 54) rfl ?_); refine goesL_ (some 46) rfl rfl Try.func54 (by kernel_rfl) rfl #[.int .i64 ((rd_T50 lp x36_2).f0), .int .i64 0, .int .i64 (wrap64 ((lq.length : Int) - 1))] rfl ar ?_; (with_reducible refine (impl_in.calls ((rd_T50 lp x36_2).f0) 0 (wrap64 ((lq.length : Int) - 1)) true _ A20.out).mono ?_); rintro e w' ⟨rfl, ⟨nd, rfl⟩⟩; refine ⟨_, rfl, ?_⟩) | (go_at_call 54; (with_reducible refine (impl_in.calls ((rd_T50 lp x36_2).f1) 0 (wrap64 ((lq.length : Int) - 1)) true _ A22.out).mono ?_); rintro e w' ⟨rfl, ⟨nd, rfl⟩⟩) | (go_at_call 54; (with_reducible refine (impl_in.calls ((rd_T50 lp x36_2).f2) (-1) (wrap64 ((lr.length : Int) - 1)) true _ A24.out).mono ?_); rintro e w' ⟨rfl, ⟨nd, rfl⟩⟩))
            go_roundg k2
            case measure => have := HK1.out; have := HK2.out; omega
            case rel => exact ⟨(wrap64 (x36_2 + 1)), rs, H', ⟨by have := HK1.out; have := HK2.out; omega⟩, ⟨by (with_reducible repeat (first | apply Kd.V_alloc | apply Kd.V_drewN | apply Kd.V_drew)); exact Kd.V_mono (Kd.V_far (p := ⟨gb169, 2, none⟩) (Kd.V_far (p := ⟨gb169, 1, none⟩) (Kd.V_far (p := ⟨gb169, 0, none⟩) (Kd.V_mono HO_162001.out (fun k_ hk => (⟨hk, hk.2⟩ : _ ∧ k_ ≠ gb169))) (fun _ hk => hk.2) (.int .i64 ((rd_T50 lp x36_2).f0))) (fun _ hk => hk.2) (.int .i64 ((rd_T50 lp x36_2).f1))) (fun _ hk => hk.2) (.int .i64 ((rd_T50 lp x36_2).f2))) (fun _ hk => ⟨hk.1.1.1, hk.1.1.2⟩)⟩, ⟨by (with_reducible repeat (first | apply Kd.V_alloc | apply Kd.V_drewN | apply Kd.V_drew)); exact Kd.V_mono (Kd.V_far (p := ⟨gb169, 2, none⟩) (Kd.V_far (p := ⟨gb169, 1, none⟩) (Kd.V_far (p := ⟨gb169, 0, none⟩) (Kd.V_mono HO_162002.out (fun k_ hk => (⟨hk, hk.2⟩ : _ ∧ k_ ≠ gb169))) (fun _ hk => hk.2) (.int .i64 ((rd_T50 lp x36_2).f0))) (fun _ hk => hk.2) (.int .i64 ((rd_T50 lp x36_2).f1))) (fun _ hk => hk.2) (.int .i64 ((rd_T50 lp x36_2).f2))) (fun _ hk => ⟨hk.1.1.1, hk.1.1.2⟩)⟩, ⟨by refine bC (a := ?_); refine blk_far ?_ NB161_169.out _; refine bC (a := ?_); refine blk_far ?_ NB161_169.out _; refine bC (a := ?_); refine blk_far ?_ NB161_169.out _; refine bC (a := ?_); exact BK161.out⟩, ⟨hA HB.out⟩⟩
           ·replace c25 := Bool.eq_false_iff.mpr c25
            subst c25
            have H1 : (some false) = some r := by rw [if_neg (show ¬ (false = true) by decide)] at H; exact H
            clear H
            have H := H1
            clear H1
            obtain rfl := Option.some.inj H
            have p168 : 0 ≤ (x36_2 : Int) := of_decide_eq_true sm
            have q168 : x36_2 < (lp.length : Int) := of_decide_eq_true sm
            obtain ⟨ad168, e168, hx168_0, hx168_1, hx168_2⟩ := at_T50 HR0_0.out x36_2 p168 q168
            cases e168
            try (replace hx168_0 := (HB.out.cell (World.block_lt_of_cell? w _ hx168_0)).trans hx168_0)
            try (replace hx168_1 := (HB.out.cell (World.block_lt_of_cell? w _ hx168_1)).trans hx168_1)
            try (replace hx168_2 := (HB.out.cell (World.block_lt_of_cell? w _ hx168_2)).trans hx168_2)
            replace p168 := eq_true p168
            replace q168 := eq_true q168
            go_wp2_with (first | ((with_reducible refine gate_dst (N := 8) rfl ?_); (try (refine gate_guard (by rfl) ?_; dsimp only)); refine box_event ?hg (N := 8) ?hd (cs := #[.int .i64 0, .int .i64 0, .int .i64 0]) (t := 50) ?hr ?_; (case hd | hg => rfl); (case hr => first | (go_simp; done) | (go_simp; rfl)); intro gb169 hg w30 hbox hb; have n0_ := mk0 (Kd.V_below (Kd.V_elderB (by (with_reducible repeat (first | apply Kd.V_alloc | apply Kd.V_drewN | apply Kd.V_drew)); exact HO_162001.out) gb169 (Nat.le_of_eq hg.symm)) hb); have n1_ := mk0 (Kd.V_below (Kd.V_elderB (by (with_reducible repeat (first | apply Kd.V_alloc | apply Kd.V_drewN | apply Kd.V_drew)); exact HO_162002.out) gb169 (Nat.le_of_eq hg.symm)) hb); have n2_ := mk0 (bB BK161.out hb); have n3_ := mk0 (below_step (hA HB.out) hb); have n4_ := mk0 (hbox); have n5_ := mk0 ((by rw [hg]; exact (below_size (hA HB.out)) : w.heap.size ≤ gb169)); have n6_ := mk0 ((by rw [hg]; exact (below_size (hA HB.out)) : w.heap.size ≤ gb169)); have n7_ := mk0 ((by rw [hg]; exact Nat.ne_of_lt (blk_lt (g := gb161) (o := .cells #[.slice (some ad168) lp.length cp, .slice Aq lq.length cq, .slice Ar lr.length cr] 29 (0, 0)) (bA BK161.out)) : gb161 ≠ gb169)); have n8_ := mk0 ((by rw [hg]; exact Nat.ne_of_gt (blk_lt (g := gb161) (o := .cells #[.slice (some ad168) lp.length cp, .slice Aq lq.length cq, .slice Ar lr.length cr] 29 (0, 0)) (bA BK161.out)) : gb169 ≠ gb161)); clear HO_162001; clear HO_162002; clear BK161; clear HB; have HO_162001 := n0_; have HO_162002 := n1_; have BK161 := n2_; have HB := n3_; have BK169 := n4_; have GW169 := n5_; have GE169 := n6_; have NB161_169 := n7_; have NB169_161 := n8_; clear n0_ n1_ n2_ n3_ n4_ n5_ n6_ n7_ n8_; clear hb hbox hg; have hnb31 := NB169_161.out; have hnc31 := NB161_169.out; have hcz32_0 : w30.cell? ⟨gb169, 0, none⟩ = some (.int .i64 0) := (blk_cell BK169.out 0).trans rfl; have hcz32_1 : w30.cell? ⟨gb169, 1, none⟩ = some (.int .i64 0) := (blk_cell BK169.out 1).trans rfl; have hcz32_2 : w30.cell? ⟨gb169, 2, none⟩ = some (.int .i64 0) := (blk_cell BK169.out 2).trans rfl; have hfz32_0 := blk_frozen BK169.out 0; have hfz32_1 := blk_frozen BK169.out 1; have hfz32_2 := blk_frozen BK169.out 2; have hcz33_0 : w30.cell? ⟨gb161, 0, none⟩ = some (.slice (some ad168) lp.length cp) := (blk_cell BK161.out 0).trans rfl; have hcz33_1 : w30.cell? ⟨gb161, 1, none⟩ = some (.slice Aq lq.length cq) := (blk_cell BK161.out 1).trans rfl; have hcz33_2 : w30.cell? ⟨gb161, 2, none⟩ = some (.slice Ar lr.length cr) := (blk_cell BK161.out 2).trans rfl; have hfz33_0 := blk_frozen BK161.out 0; have hfz33_1 := blk_frozen BK161.out 1; have hfz33_2 := blk_frozen BK161.out 2) | ((with_reducible refine gate_callee (f := 54) rfl ?_); refine goesL_ (some 46) rfl rfl Try.func54 (by kernel_rfl) rfl #[.int .i64 ((rd_T50 lp x36_2).f0), .int .i64 0, .int .i64 (wrap64 ((lq.length : Int) - 1))] rfl ar ?_; (with_reducible refine (impl_in.calls ((rd_T50 lp x36_2).f0) 0 (wrap64 ((lq.length : Int) - 1)) true _ A20.out).mono ?_); rintro e w' ⟨rfl, ⟨nd, rfl⟩⟩; refine ⟨_, rfl, ?_⟩) | (go_at_call 54; (with_reducible refine (impl_in.calls ((rd_T50 lp x36_2).f1) 0 (wrap64 ((lq.length : Int) - 1)) true _ A22.out).mono ?_); rintro e w' ⟨rfl, ⟨nd, rfl⟩⟩) | (go_at_call 54; (with_reducible refine (impl_in.calls ((rd_T50 lp x36_2).f2) (-1) (wrap64 ((lr.length : Int) - 1)) false _ A24.out).mono ?_); rintro e w' ⟨rfl, ⟨nd, rfl⟩⟩))
            go_ret
            exact ⟨er, hA HB.out⟩
          ·replace c23 := Bool.eq_false_iff.mpr c23
           subst c23
           have H1 : (some false) = some r := by rw [if_neg (show ¬ (false = true) by decide)] at H; exact H
           clear H
           have H := H1
           clear H1
           obtain rfl := Option.some.inj H
           have p168 : 0 ≤ (x36_2 : Int) := of_decide_eq_true sm
           have q168 : x36_2 < (lp.length : Int) := of_decide_eq_true sm
           obtain ⟨ad168, e168, hx168_0, hx168_1, hx168_2⟩ := at_T50 HR0_0.out x36_2 p168 q168
           cases e168
           try (replace hx168_0 := (HB.out.cell (World.block_lt_of_cell? w _ hx168_0)).trans hx168_0)
           try (replace hx168_1 := (HB.out.cell (World.block_lt_of_cell? w _ hx168_1)).trans hx168_1)
           try (replace hx168_2 := (HB.out.cell (World.block_lt_of_cell? w _ hx168_2)).trans hx168_2)
           replace p168 := eq_true p168
           replace q168 := eq_true q168
           go_wp2_with (first | ((with_reducible refine gate_dst (N := 8) rfl ?_); (try (refine gate_guard (by rfl) ?_; dsimp only)); refine box_event ?hg (N := 8) ?hd (cs := #[.int .i64 0, .int .i64 0, .int .i64 0]) (t := 50) ?hr ?_; (case hd | hg => rfl); (case hr => first | (go_simp; done) | (go_simp; rfl)); intro gb169 hg w34 hbox hb; have n0_ := mk0 (Kd.V_below (Kd.V_elderB (by (with_reducible repeat (first | apply Kd.V_alloc | apply Kd.V_drewN | apply Kd.V_drew)); exact HO_162001.out) gb169 (Nat.le_of_eq hg.symm)) hb); have n1_ := mk0 (Kd.V_below (Kd.V_elderB (by (with_reducible repeat (first | apply Kd.V_alloc | apply Kd.V_drewN | apply Kd.V_drew)); exact HO_162002.out) gb169 (Nat.le_of_eq hg.symm)) hb); have n2_ := mk0 (bB BK161.out hb); have n3_ := mk0 (below_step (hA HB.out) hb); have n4_ := mk0 (hbox); have n5_ := mk0 ((by rw [hg]; exact (below_size (hA HB.out)) : w.heap.size ≤ gb169)); have n6_ := mk0 ((by rw [hg]; exact (below_size (hA HB.out)) : w.heap.size ≤ gb169)); have n7_ := mk0 ((by rw [hg]; exact Nat.ne_of_lt (blk_lt (g := gb161) (o := .cells #[.slice (some ad168) lp.length cp, .slice Aq lq.length cq, .slice Ar lr.length cr] 29 (0, 0)) (bA BK161.out)) : gb161 ≠ gb169)); have n8_ := mk0 ((by rw [hg]; exact Nat.ne_of_gt (blk_lt (g := gb161) (o := .cells #[.slice (some ad168) lp.length cp, .slice Aq lq.length cq, .slice Ar lr.length cr] 29 (0, 0)) (bA BK161.out)) : gb169 ≠ gb161)); clear HO_162001; clear HO_162002; clear BK161; clear HB; have HO_162001 := n0_; have HO_162002 := n1_; have BK161 := n2_; have HB := n3_; have BK169 := n4_; have GW169 := n5_; have GE169 := n6_; have NB161_169 := n7_; have NB169_161 := n8_; clear n0_ n1_ n2_ n3_ n4_ n5_ n6_ n7_ n8_; clear hb hbox hg; have hnb35 := NB169_161.out; have hnc35 := NB161_169.out; have hcz36_0 : w34.cell? ⟨gb169, 0, none⟩ = some (.int .i64 0) := (blk_cell BK169.out 0).trans rfl; have hcz36_1 : w34.cell? ⟨gb169, 1, none⟩ = some (.int .i64 0) := (blk_cell BK169.out 1).trans rfl; have hcz36_2 : w34.cell? ⟨gb169, 2, none⟩ = some (.int .i64 0) := (blk_cell BK169.out 2).trans rfl; have hfz36_0 := blk_frozen BK169.out 0; have hfz36_1 := blk_frozen BK169.out 1; have hfz36_2 := blk_frozen BK169.out 2; have hcz37_0 : w34.cell? ⟨gb161, 0, none⟩ = some (.slice (some ad168) lp.length cp) := (blk_cell BK161.out 0).trans rfl; have hcz37_1 : w34.cell? ⟨gb161, 1, none⟩ = some (.slice Aq lq.length cq) := (blk_cell BK161.out 1).trans rfl; have hcz37_2 : w34.cell? ⟨gb161, 2, none⟩ = some (.slice Ar lr.length cr) := (blk_cell BK161.out 2).trans rfl; have hfz37_0 := blk_frozen BK161.out 0; have hfz37_1 := blk_frozen BK161.out 1; have hfz37_2 := blk_frozen BK161.out 2) | ((with_reducible refine gate_callee (f := 54) rfl ?_); refine goesL_ (some 46) rfl rfl Try.func54 (by kernel_rfl) rfl #[.int .i64 ((rd_T50 lp x36_2).f0), .int .i64 0, .int .i64 (wrap64 ((lq.length : Int) - 1))] rfl ar ?_; (with_reducible refine (impl_in.calls ((rd_T50 lp x36_2).f0) 0 (wrap64 ((lq.length : Int) - 1)) true _ A20.out).mono ?_); rintro e w' ⟨rfl, ⟨nd, rfl⟩⟩; refine ⟨_, rfl, ?_⟩) | (go_at_call 54; (with_reducible refine (impl_in.calls ((rd_T50 lp x36_2).f1) 0 (wrap64 ((lq.length : Int) - 1)) false _ A22.out).mono ?_); rintro e w' ⟨rfl, ⟨nd, rfl⟩⟩))
           go_ret
           exact ⟨er, hA HB.out⟩
         ·replace c21 := Bool.eq_false_iff.mpr c21
          subst c21
          have H1 : (some false) = some r := by rw [if_neg (show ¬ (false = true) by decide)] at H; exact H
          clear H
          have H := H1
          clear H1
          obtain rfl := Option.some.inj H
          have p168 : 0 ≤ (x36_2 : Int) := of_decide_eq_true sm
          have q168 : x36_2 < (lp.length : Int) := of_decide_eq_true sm
          obtain ⟨ad168, e168, hx168_0, hx168_1, hx168_2⟩ := at_T50 HR0_0.out x36_2 p168 q168
          cases e168
          try (replace hx168_0 := (HB.out.cell (World.block_lt_of_cell? w _ hx168_0)).trans hx168_0)
          try (replace hx168_1 := (HB.out.cell (World.block_lt_of_cell? w _ hx168_1)).trans hx168_1)
          try (replace hx168_2 := (HB.out.cell (World.block_lt_of_cell? w _ hx168_2)).trans hx168_2)
          replace p168 := eq_true p168
          replace q168 := eq_true q168
          go_wp2_with (first | ((with_reducible refine gate_dst (N := 8) rfl ?_); (try (refine gate_guard (by rfl) ?_; dsimp only)); refine box_event ?hg (N := 8) ?hd (cs := #[.int .i64 0, .int .i64 0, .int .i64 0]) (t := 50) ?hr ?_; (case hd | hg => rfl); (case hr => first | (go_simp; done) | (go_simp; rfl)); intro gb169 hg w38 hbox hb; have n0_ := mk0 (Kd.V_below (Kd.V_elderB (by (with_reducible repeat (first | apply Kd.V_alloc | apply Kd.V_drewN | apply Kd.V_drew)); exact HO_162001.out) gb169 (Nat.le_of_eq hg.symm)) hb); have n1_ := mk0 (Kd.V_below (Kd.V_elderB (by (with_reducible repeat (first | apply Kd.V_alloc | apply Kd.V_drewN | apply Kd.V_drew)); exact HO_162002.out) gb169 (Nat.le_of_eq hg.symm)) hb); have n2_ := mk0 (bB BK161.out hb); have n3_ := mk0 (below_step (hA HB.out) hb); have n4_ := mk0 (hbox); have n5_ := mk0 ((by rw [hg]; exact (below_size (hA HB.out)) : w.heap.size ≤ gb169)); have n6_ := mk0 ((by rw [hg]; exact (below_size (hA HB.out)) : w.heap.size ≤ gb169)); have n7_ := mk0 ((by rw [hg]; exact Nat.ne_of_lt (blk_lt (g := gb161) (o := .cells #[.slice (some ad168) lp.length cp, .slice Aq lq.length cq, .slice Ar lr.length cr] 29 (0, 0)) (bA BK161.out)) : gb161 ≠ gb169)); have n8_ := mk0 ((by rw [hg]; exact Nat.ne_of_gt (blk_lt (g := gb161) (o := .cells #[.slice (some ad168) lp.length cp, .slice Aq lq.length cq, .slice Ar lr.length cr] 29 (0, 0)) (bA BK161.out)) : gb169 ≠ gb161)); clear HO_162001; clear HO_162002; clear BK161; clear HB; have HO_162001 := n0_; have HO_162002 := n1_; have BK161 := n2_; have HB := n3_; have BK169 := n4_; have GW169 := n5_; have GE169 := n6_; have NB161_169 := n7_; have NB169_161 := n8_; clear n0_ n1_ n2_ n3_ n4_ n5_ n6_ n7_ n8_; clear hb hbox hg; have hnb39 := NB169_161.out; have hnc39 := NB161_169.out; have hcz40_0 : w38.cell? ⟨gb169, 0, none⟩ = some (.int .i64 0) := (blk_cell BK169.out 0).trans rfl; have hcz40_1 : w38.cell? ⟨gb169, 1, none⟩ = some (.int .i64 0) := (blk_cell BK169.out 1).trans rfl; have hcz40_2 : w38.cell? ⟨gb169, 2, none⟩ = some (.int .i64 0) := (blk_cell BK169.out 2).trans rfl; have hfz40_0 := blk_frozen BK169.out 0; have hfz40_1 := blk_frozen BK169.out 1; have hfz40_2 := blk_frozen BK169.out 2; have hcz41_0 : w38.cell? ⟨gb161, 0, none⟩ = some (.slice (some ad168) lp.length cp) := (blk_cell BK161.out 0).trans rfl; have hcz41_1 : w38.cell? ⟨gb161, 1, none⟩ = some (.slice Aq lq.length cq) := (blk_cell BK161.out 1).trans rfl; have hcz41_2 : w38.cell? ⟨gb161, 2, none⟩ = some (.slice Ar lr.length cr) := (blk_cell BK161.out 2).trans rfl; have hfz41_0 := blk_frozen BK161.out 0; have hfz41_1 := blk_frozen BK161.out 1; have hfz41_2 := blk_frozen BK161.out 2) | ((with_reducible refine gate_callee (f := 54) rfl ?_); refine goesL_ (some 46) rfl rfl Try.func54 (by kernel_rfl) rfl #[.int .i64 ((rd_T50 lp x36_2).f0), .int .i64 0, .int .i64 (wrap64 ((lq.length : Int) - 1))] rfl ar ?_; (with_reducible refine (impl_in.calls ((rd_T50 lp x36_2).f0) 0 (wrap64 ((lq.length : Int) - 1)) false _ A20.out).mono ?_); rintro e w' ⟨rfl, ⟨nd, rfl⟩⟩; refine ⟨_, rfl, ?_⟩))
          go_ret
          exact ⟨er, hA HB.out⟩
        ·rw [if_neg c19] at H
         exact absurd H (by simp)
       ·rw [if_neg c18] at H
        exact absurd H (by simp)
      ·rw [if_neg c17] at H
       have c17b0 : decide (x36_2 < (lp.length : Int)) = false := decide_eq_false c17
       clear c17
       obtain rfl := Option.some.inj H
       have hcz42_0 : wr.cell? ⟨gb161, 0, none⟩ = some (.slice Ap lp.length cp) := (blk_cell BK161.out 0).trans rfl
       have hcz42_1 : wr.cell? ⟨gb161, 1, none⟩ = some (.slice Aq lq.length cq) := (blk_cell BK161.out 1).trans rfl
       have hcz42_2 : wr.cell? ⟨gb161, 2, none⟩ = some (.slice Ar lr.length cr) := (blk_cell BK161.out 2).trans rfl
       have hfz42_0 := blk_frozen BK161.out 0
       have hfz42_1 := blk_frozen BK161.out 1
       have hfz42_2 := blk_frozen BK161.out 2
       go_wp2
       go_ret
       exact ⟨er, hA HB.out⟩
def impl_Talk_42.f (k : Nat) (l0 : List (S50)) (a1_0 : Int) (a1_1 : Int) (a1_2 : Int) : Option (Bool) := if l0.length ≤ 1048576 then some (l0.any (meetB ⟨a1_0, a1_1, a1_2⟩)) else none
theorem impl_Talk_42.mono : ∀ a0 a1 a2 a3 k, LeO (impl_Talk_42.f k a0 a1 a2 a3) (impl_Talk_42.f (k + 1) a0 a1 a2 a3) := fun _ _ _ _ _ => LeO.refl _
theorem impl_Talk_42.calls (k : Nat) (A0 : Option Addr) (c0 : Nat) (l0 : List (S50)) (a1_0 : Int) (a1_1 : Int) (a1_2 : Int) (r : Bool) (w : World) (hr0 : Kd.C k50 w A0 l0.length l0) (hc0 : l0.length ≤ c0) (h : impl_Talk_42.f k l0 a1_0 a1_1 a1_2 = some r) :
  Calls Try.prog 42 #[.slice A0 l0.length c0, .func (.func 43) #[.agg #[.int .i64 a1_0, .int .i64 a1_1, .int .i64 a1_2]] #[]] w fun e w' => e = .returned (.bool r) ∧ Below w.heap.size w w' := by
 unfold impl_Talk_42.f at h
 split at h
 ·obtain rfl := Option.some.inj h
  exact contains_calls ⟨a1_0, a1_1, a1_2⟩ A0 c0 _ w hr0 (by assumption)
 ·cases h
def bits_Mul32.f (a0 : Int) (a1 : Int) : Option (Int × Int) := some (((IntKind.u64.wrap ((IntKind.u64.wrap (a0)) * (IntKind.u64.wrap (a1)))) / 4294967296) % 4294967296, (IntKind.u64.wrap ((IntKind.u64.wrap (a0)) * (IntKind.u64.wrap (a1)))) % 4294967296)
set_option maxHeartbeats 8000000 in
set_option maxRecDepth 100000 in
theorem bits_Mul32.calls (a0 : Int) (a1 : Int) (r1 : Int) (r2 : Int) (w : World) (h : bits_Mul32.f a0 a1 = some (r1, r2)) :
  Calls Try.prog 70 #[.int .u32 a0, .int .u32 a1] w fun e w' => e = .returned (.tuple #[.int .u32 r1, .int .u32 r2]) ∧ Drawn0 w w' := by
 have H : (some (((IntKind.u64.wrap ((IntKind.u64.wrap (a0)) * (IntKind.u64.wrap (a1)))) / 4294967296) % 4294967296, (IntKind.u64.wrap ((IntKind.u64.wrap (a0)) * (IntKind.u64.wrap (a1)))) % 4294967296)) = some (r1, r2) := h
 clear h
 simp only [Option.some.injEq, Prod.mk.injEq] at H
 obtain ⟨rfl, rfl⟩ := H
 go_enter Try.func70, Try.ntmps70
 go_wp2
 go_ret2
 exact ⟨rs, by repeat (first | exact Drawn0.refl _ | apply Drawn0.step)⟩
def bits_Mul64.f (a0 : Int) (a1 : Int) : Option (Int × Int) := some (IntKind.u64.wrap ((IntKind.u64.wrap ((IntKind.u64.wrap ((a0 / 4294967296) * (a1 / 4294967296))) + ((IntKind.u64.wrap ((IntKind.u64.wrap ((a0 / 4294967296) * (Go.bits .and .u64 a1 4294967295))) + ((IntKind.u64.wrap ((Go.bits .and .u64 a0 4294967295) * (Go.bits .and .u64 a1 4294967295))) / 4294967296))) / 4294967296))) + ((IntKind.u64.wrap ((Go.bits .and .u64 (IntKind.u64.wrap ((IntKind.u64.wrap ((a0 / 4294967296) * (Go.bits .and .u64 a1 4294967295))) + ((IntKind.u64.wrap ((Go.bits .and .u64 a0 4294967295) * (Go.bits .and .u64 a1 4294967295))) / 4294967296))) 4294967295) + (IntKind.u64.wrap ((Go.bits .and .u64 a0 4294967295) * (a1 / 4294967296))))) / 4294967296)), IntKind.u64.wrap (a0 * a1))
set_option maxHeartbeats 8000000 in
set_option maxRecDepth 100000 in
theorem bits_Mul64.calls (a0 : Int) (a1 : Int) (r1 : Int) (r2 : Int) (w : World) (h : bits_Mul64.f a0 a1 = some (r1, r2)) :
  Calls Try.prog 71 #[.int .u64 a0, .int .u64 a1] w fun e w' => e = .returned (.tuple #[.int .u64 r1, .int .u64 r2]) ∧ Drawn0 w w' := by
 have H : (some (IntKind.u64.wrap ((IntKind.u64.wrap ((IntKind.u64.wrap ((a0 / 4294967296) * (a1 / 4294967296))) + ((IntKind.u64.wrap ((IntKind.u64.wrap ((a0 / 4294967296) * (Go.bits .and .u64 a1 4294967295))) + ((IntKind.u64.wrap ((Go.bits .and .u64 a0 4294967295) * (Go.bits .and .u64 a1 4294967295))) / 4294967296))) / 4294967296))) + ((IntKind.u64.wrap ((Go.bits .and .u64 (IntKind.u64.wrap ((IntKind.u64.wrap ((a0 / 4294967296) * (Go.bits .and .u64 a1 4294967295))) + ((IntKind.u64.wrap ((Go.bits .and .u64 a0 4294967295) * (Go.bits .and .u64 a1 4294967295))) / 4294967296))) 4294967295) + (IntKind.u64.wrap ((Go.bits .and .u64 a0 4294967295) * (a1 / 4294967296))))) / 4294967296)), IntKind.u64.wrap (a0 * a1))) = some (r1, r2) := h
 clear h
 simp only [Option.some.injEq, Prod.mk.injEq] at H
 obtain ⟨rfl, rfl⟩ := H
 go_enter Try.func71, Try.ntmps71
 go_wp2
 go_ret2
 exact ⟨rs, by repeat (first | exact Drawn0.refl _ | apply Drawn0.step)⟩
def bits_Mul.f (a0 : Int) (a1 : Int) : Option (Int × Int) := (bits_Mul64.f a0 a1).bind fun bt176 => (some (bt176.1, bt176.2))
set_option maxHeartbeats 8000000 in
set_option maxRecDepth 100000 in
theorem bits_Mul.calls (a0 : Int) (a1 : Int) (r1 : Int) (r2 : Int) (w : World) (h : bits_Mul.f a0 a1 = some (r1, r2)) :
  Calls Try.prog 67 #[.int .u64 a0, .int .u64 a1] w fun e w' => e = .returned (.tuple #[.int .u64 r1, .int .u64 r2]) ∧ Drawn0 w w' := by
 have H : ((bits_Mul64.f a0 a1).bind fun bt176 => (some (bt176.1, bt176.2))) = some (r1, r2) := h
 clear h
 replace H := Option.bind_eq_some_iff.mp H
 obtain ⟨⟨t176, t177⟩, A30, H⟩ := H
 replace H : (some (t176, t177)) = some (r1, r2) := H
 have A3 := mk0 A30
 clear A30
 simp only [Option.some.injEq, Prod.mk.injEq] at H
 obtain ⟨rfl, rfl⟩ := H
 go_enter Try.func67, Try.ntmps67
 go_wp2_with (first | ((with_reducible refine gate_callee (f := 71) rfl ?_); refine goesL_ (some 25) rfl rfl Try.func71 (by kernel_rfl) rfl #[.int .u64 a0, .int .u64 a1] rfl ar ?_; (with_reducible refine (bits_Mul64.calls a0 a1 t176 t177 _ A3.out).mono ?_); rintro e w' ⟨rfl, ⟨nd, rfl⟩⟩; refine ⟨_, rfl, ?_⟩))
 go_ret2
 exact ⟨rs, by repeat (first | exact Drawn0.refl _ | apply Drawn0.step)⟩
def slices_Repeat_int_int.f (k : Nat) (l0 : List Int) (a1 : Int) : Option (List Int) := if l0.length = 1 then (if 0 ≤ a1 then (if a1 ≤ 1048576 then some (List.replicate a1.toNat (rd l0 0)) else none) else none) else none
theorem slices_Repeat_int_int.mono : ∀ a0 a1 k, LeO (slices_Repeat_int_int.f k a0 a1) (slices_Repeat_int_int.f (k + 1) a0 a1) := fun _ _ _ => LeO.refl _
theorem slices_Repeat_int_int.calls (k : Nat) (A0 : Option Addr) (c0 : Nat) (l0 : List Int) (a1 : Int) (r : List Int) (w : World) (hr0 : Kd.C (Kd.int .i64) w A0 l0.length l0) (hc0 : l0.length ≤ c0) (h : slices_Repeat_int_int.f k l0 a1 = some r) :
  Calls Try.prog 62 #[.slice A0 l0.length c0, .int .i64 a1] w fun e w' => ∃ v0_ : Value, e = .returned (v0_) ∧ Kd.R (Kd.int .i64) 3 w' w.heap.size (fun _ => True) v0_ r ∧ Below w.heap.size w w' := by
 unfold slices_Repeat_int_int.f at h
 by_cases h1 : l0.length = 1
 ·by_cases h2 : 0 ≤ a1
  ·by_cases h3 : a1 ≤ 1048576
   ·rw [if_pos h1, if_pos h2, if_pos h3] at h
    obtain rfl := Option.some.inj h
    obtain ⟨n, rfl⟩ := Int.eq_ofNat_of_zero_le h2
    obtain ⟨ad, rfl, hc⟩ := Kd.at_int hr0 0 (by omega) (by omega)
    have e0 : ad.add (0 : Int).toNat = ad := by cases ad; simp [Addr.add]
    rw [e0] at hc
    rw [h1] at hc0 ⊢
    rw [Int.toNat_natCast]
    exact Go.Proofs.Ytngnkfpciloamaa.Hand.repeat_calls ad c0 (rd l0 0) n (by omega) w hc hc0
   ·rw [if_pos h1, if_pos h2, if_neg h3] at h; cases h
  ·rw [if_pos h1, if_neg h2] at h; cases h
 ·rw [if_neg h1] at h; cases h
end Go.Proofs.Ytngnkfpciloamaa.MFnBooked
