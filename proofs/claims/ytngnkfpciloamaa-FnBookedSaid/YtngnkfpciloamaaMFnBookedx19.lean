/- What the code of the law FnBooked answers. -/
import Derived.Test.YtngnkfpciloamaaShortFnBooked
import Derived.Test.YtngnkfpciloamaaMFnBookedx0
import Derived.Test.YtngnkfpciloamaaMFnBookedx6
import Derived.Test.YtngnkfpciloamaaMFnBookedx7
import Derived.Test.YtngnkfpciloamaaMFnBookedx8
import Derived.Test.YtngnkfpciloamaaMFnBookedx11
import Derived.Test.YtngnkfpciloamaaMFnBookedx13
import Derived.Test.YtngnkfpciloamaaMFnBookedx16
namespace Go.Proofs.Ytngnkfpciloamaa.MFnBooked
open Go.RowKit Go.Proofs.YtngnkfpciloamaaW.PrintWords Go.Proofs.YtngnkfpciloamaaW.PrintLast Go.Proofs.YtngnkfpciloamaaW.PrintMore
attribute [local go_sem] max2_int min2_int max_two min_two max_three min_three max_four min_four
set_option linter.unusedVariables false
set_option linter.unusedSimpArgs false
def spec_l1New.l0 : Nat → List Int → Int → Int → Option (List Int × Int × Int)
 | 0, _, _, _ => none
 | k + 1, x0, x3, x4 => if x4 < (x0.length : Int) then (if x4 < 4000 then (if 0 ≤ x4 then (spec_l1New.l0 k x0 (Go.bits .and .i64 (wrap64 ((wrap64 ((wrap64 (x3 * 131)) + (wrap64 (rd x0 x4)))) + 7)) 1073741823) (wrap64 (x4 + 1))) else (none)) else (some (x0, 0, x3))) else (some (x0, 0, x3))
def spec_l1New.f (k : Nat) (l0 : List Int) : Option (List Int × Int × Int) := spec_l1New.l0 k l0 (wrap64 (71933 + (l0.length : Int))) 0
theorem spec_l1New.mono_l : ∀ k, (∀ y0 y1 y2, LeO (spec_l1New.l0 k y0 y1 y2) (spec_l1New.l0 (k + 1) y0 y1 y2))
 | 0 => fun _ _ _ r h => by simp [spec_l1New.l0] at h
 | k + 1 => by
  have ih0 := spec_l1New.mono_l k
  ·intro y0 y1 y2
   unfold spec_l1New.l0
   repeat' first
   | (with_reducible exact ih0 _ _ _)
   | (with_reducible exact LeO.refl _)
   | (with_reducible exact LeO.none _)
   | (with_reducible refine LeO.ite ?_ ?_)
   | (with_reducible refine LeO.bind ?_ (fun _ => ?_))
   | exact ih0 _ _ _
   | exact LeO.none _
   | refine LeO.ite ?_ ?_
   | refine LeO.bind ?_ (fun _ => ?_)
theorem spec_l1New.mono : ∀ a0 k, LeO (spec_l1New.f k a0) (spec_l1New.f (k + 1) a0) := by
 intro a0 k
 have ih0 := spec_l1New.mono_l k
 unfold spec_l1New.f
 repeat' first
   | (with_reducible exact ih0 _ _ _)
   | (with_reducible exact LeO.refl _)
   | (with_reducible exact LeO.none _)
   | (with_reducible refine LeO.ite ?_ ?_)
   | (with_reducible refine LeO.bind ?_ (fun _ => ?_))
   | exact ih0 _ _ _
   | exact LeO.none _
   | refine LeO.ite ?_ ?_
   | refine LeO.bind ?_ (fun _ => ?_)
set_option maxHeartbeats 8000000 in
set_option maxRecDepth 100000 in
theorem spec_l1New.calls (k : Nat) (A0 : Option Addr) (c0 : Nat) (l0 : List Int) (r1 : List Int) (r2 : Int) (r3 : Int) (w0 w : World) (hB : Below w0.heap.size w0 w) (hr0 : Kd.C (Kd.int .u8) w0 A0 l0.length l0) (hc0 : l0.length ≤ c0) (h : spec_l1New.f k l0 = some (r1, r2, r3)) :
  Calls Try.prog 52 #[.slice A0 l0.length c0] w fun e w' => ∃ g_ : Nat, e = .returned (.pointer (some ⟨g_, 0, none⟩)) ∧ IsS87 w0 w' g_ r1 r2 r3 ∧ Below w0.heap.size w0 w' ∧ Below w.heap.size w w' := by
 have hu87 := Try.underlying87
 have HR0 := mk0 hr0
 have HC0 := mk0 hc0
 clear hr0 hc0
 have HBW := mk0 (Below.refl w.heap.size w)
 have HW0 := mk0 hB.size
 have HB := mk0 hB
 clear hB
 have H : (spec_l1New.l0 k l0 (wrap64 (71933 + (l0.length : Int))) 0) = some (r1, r2, r3) := h
 clear h
 have H' := mk0 H
 clear H
 go_enter Try.func52, Try.ntmps52
 go_wp2
 go_loopg [3, 4] k (fun kq v3 v4 w' => ∃ (x3_1 : Int) (x4_1 : Int), v3 = .int .i64 x3_1 ∧ v4 = .int .i64 x4_1 ∧ Aside0 (spec_l1New.l0 kq l0 x3_1 x4_1 = some (r1, r2, r3)) ∧ Aside0 (kq ≤ k) ∧ Aside0 (Below w0.heap.size w0 w') ∧ Aside0 (Below w.heap.size w w'))
 case atStart => exact ⟨(wrap64 (71933 + (l0.length : Int))), (0), rs, rs, H', ⟨Nat.le_refl _⟩, ⟨hA HB.out⟩, ⟨by repeat (first | (with_reducible first | exact HBW.out | apply below_alloc | apply pw_below_drewN | apply below_drew1) | exact HBW.out)⟩⟩
 case round =>
  clear H'
  obtain ⟨x3_1, x4_1, rfl, rfl, HA, HK1, HB, HBW⟩ := hrel
  cases gk with
  | zero => exact absurd HA.out (by simp [spec_l1New.l0])
  | succ k1 =>
   have H := HA.out
   clear HA
   simp only [spec_l1New.l0] at H
   by_cases c2 : x4_1 < (l0.length : Int)
   ·rw [if_pos c2] at H
    have c2b0 : decide (x4_1 < (l0.length : Int)) = true := decide_eq_true c2
    clear c2
    by_cases c3 : x4_1 < 4000
    ·rw [if_pos c3] at H
     have c3b0 : decide (x4_1 < 4000) = true := decide_eq_true c3
     clear c3
     by_cases c4 : 0 ≤ x4_1
     ·rw [if_pos c4] at H
      have c4b0 : decide (0 ≤ x4_1) = true := decide_eq_true c4
      clear c4
      have H' := mk0 H
      clear H
      have p562 : 0 ≤ (x4_1 : Int) := of_decide_eq_true sm
      have q562 : x4_1 < (l0.length : Int) := of_decide_eq_true sm
      obtain ⟨ad562, e562, hx562_0⟩ := Kd.at_int HR0.out x4_1 p562 q562
      cases e562
      replace hx562_0 := pw_cell_below HB.out hx562_0
      replace p562 := eq_true p562
      replace q562 := eq_true q562
      go_wp2
      go_roundg k1
      case measure => have := HK1.out; omega
      case rel => exact ⟨(Go.bits .and .i64 (wrap64 ((wrap64 ((wrap64 (x3_1 * 131)) + (wrap64 (rd l0 x4_1)))) + 7)) 1073741823), (wrap64 (x4_1 + 1)), rs, rs, H', ⟨by have := HK1.out; omega⟩, ⟨hA HB.out⟩, ⟨by repeat (first | (with_reducible first | exact HBW.out | apply below_alloc | apply pw_below_drewN | apply below_drew1) | exact HBW.out)⟩⟩
     ·rw [if_neg c4] at H
      exact absurd H (by simp)
    ·rw [if_neg c3] at H
     have c3b0 : decide (x4_1 < 4000) = false := decide_eq_false c3
     clear c3
     simp only [Option.some.injEq, Prod.mk.injEq] at H
     obtain ⟨rfl, rfl, rfl⟩ := H
     go_wp2_with (first | ((with_reducible refine gate_dst (N := 31) rfl ?_); refine box_event ?hg (N := 31) ?hd (cs := #[.slice A0 l0.length c0, .int .i64 0, .int .i64 x3_1]) (t := 87) ?hr ?_; (case hd | hg => rfl); (case hr => first | (go_simp; done) | (go_simp; rfl)); intro gb563 hg w5 hbox hb; have n0_ := mk0 (below_step HBW.out hb); have n1_ := mk0 (below_step (hA HB.out) hb); have n2_ := mk0 (hbox); have n3_ := mk0 ((by rw [hg]; exact (below_size (by repeat (first | (with_reducible first | exact HBW.out | apply below_alloc | apply pw_below_drewN | apply below_drew1) | exact HBW.out))) : w.heap.size ≤ gb563)); have n4_ := mk0 ((Nat.le_trans HW0.out (by rw [hg]; exact (below_size (by repeat (first | (with_reducible first | exact HBW.out | apply below_alloc | apply pw_below_drewN | apply below_drew1) | exact HBW.out))) : w.heap.size ≤ gb563) : w0.heap.size ≤ gb563)); clear HBW; clear HB; have HBW := n0_; have HB := n1_; have BK563 := n2_; have GW563 := n3_; have GE563 := n4_; clear n0_ n1_ n2_ n3_ n4_; clear hb hbox hg))
     go_ret
     exact ⟨_, rfl, (show IsS87 w0 _ gb563 l0 0 x3_1 from ⟨_, _, by refine bC (a := ?_); exact BK563.out, GE563.out, HR0.out⟩), by repeat (first | (with_reducible first | exact HB.out | apply below_alloc | apply pw_below_drewN | apply below_drew1 | refine below_set ?_ GE563.out) | exact HB.out), by repeat (first | (with_reducible first | exact HBW.out | apply below_alloc | apply pw_below_drewN | apply below_drew1 | refine below_set ?_ GW563.out) | exact HBW.out)⟩
   ·rw [if_neg c2] at H
    have c2b0 : decide (x4_1 < (l0.length : Int)) = false := decide_eq_false c2
    clear c2
    simp only [Option.some.injEq, Prod.mk.injEq] at H
    obtain ⟨rfl, rfl, rfl⟩ := H
    go_wp2_with (first | ((with_reducible refine gate_dst (N := 31) rfl ?_); refine box_event ?hg (N := 31) ?hd (cs := #[.slice A0 l0.length c0, .int .i64 0, .int .i64 x3_1]) (t := 87) ?hr ?_; (case hd | hg => rfl); (case hr => first | (go_simp; done) | (go_simp; rfl)); intro gb564 hg w6 hbox hb; have n0_ := mk0 (below_step HBW.out hb); have n1_ := mk0 (below_step (hA HB.out) hb); have n2_ := mk0 (hbox); have n3_ := mk0 ((by rw [hg]; exact (below_size (by repeat (first | (with_reducible first | exact HBW.out | apply below_alloc | apply pw_below_drewN | apply below_drew1) | exact HBW.out))) : w.heap.size ≤ gb564)); have n4_ := mk0 ((Nat.le_trans HW0.out (by rw [hg]; exact (below_size (by repeat (first | (with_reducible first | exact HBW.out | apply below_alloc | apply pw_below_drewN | apply below_drew1) | exact HBW.out))) : w.heap.size ≤ gb564) : w0.heap.size ≤ gb564)); clear HBW; clear HB; have HBW := n0_; have HB := n1_; have BK564 := n2_; have GW564 := n3_; have GE564 := n4_; clear n0_ n1_ n2_ n3_ n4_; clear hb hbox hg))
    go_ret
    exact ⟨_, rfl, (show IsS87 w0 _ gb564 l0 0 x3_1 from ⟨_, _, by refine bC (a := ?_); exact BK564.out, GE564.out, HR0.out⟩), by repeat (first | (with_reducible first | exact HB.out | apply below_alloc | apply pw_below_drewN | apply below_drew1 | refine below_set ?_ GE564.out) | exact HB.out), by repeat (first | (with_reducible first | exact HBW.out | apply below_alloc | apply pw_below_drewN | apply below_drew1 | refine below_set ?_ GW564.out) | exact HBW.out)⟩
section
theorem cells3 {W : World} {g : Nat} {x y z : Value} {t : TypeId} (h : W.heap[g]? = some (.cells #[x, y, z] t (0, 0))) : W.cell? ⟨g, 0, none⟩ = some x ∧ W.cell? ⟨g, 1, none⟩ = some y ∧ W.cell? ⟨g, 2, none⟩ = some z := ⟨(blk_cell h 0).trans rfl, (blk_cell h 1).trans rfl, (blk_cell h 2).trans rfl⟩
structure Bx (w W : World) (gb gt gr : Nat) (vT vL vC : Value) (T : List S50) (L C : List Int) (a b c : Int) : Prop where
 hb : W.heap[gb]? = some (.cells #[vT, vL, vC] 29 (0, 0))
 ht : W.heap[gt]? = some (.cells #[.int .i64 a, .int .i64 b, .int .i64 c] 50 (0, 0))
 hr : W.heap[gr]? = some (.cells #[.slice none 0 0, .slice none 0 0, .slice none 0 0] 29 (0, 0))
 oT : Kd.R k50 50 W w.heap.size (fun k => k ≠ gt) vT T
 oL : Kd.R (Kd.int .i64) 3 W w.heap.size (fun k => some k ≠ vC.ownBlock) vL L
 oC : Kd.R (Kd.int .i64) 3 W w.heap.size (fun k => some k ≠ vL.ownBlock) vC C
 bel : Below w.heap.size w W
 ge : w.heap.size ≤ gb ∧ w.heap.size ≤ gt ∧ w.heap.size ≤ gr
 ne : gb ≠ gt ∧ gb ≠ gr ∧ gt ≠ gr
theorem Bx.below {w W W' : World} {gb gt gr : Nat} {vT vL vC : Value} {T : List S50} {L C : List Int} {a b c : Int} (h : Bx w W gb gt gr vT vL vC T L C a b c) (hB : Below W.heap.size W W') : Bx w W' gb gt gr vT vL vC T L C a b c :=
 ⟨blk_below h.hb hB, blk_below h.ht hB, blk_below h.hr hB, Kd.R_below h.oT hB, Kd.R_below h.oL hB, Kd.R_below h.oC hB, below_step h.bel hB, h.ge, h.ne⟩
theorem R_set {W : World} {α : Type} {kd : Kd α} {e base g : Nat} {ok : Nat → Prop} {v : Value} {xs : List α} {t : TypeId} {cs : Array Value} (h : Kd.R kd e W base ok v xs) (hb : W.heap[g]? = some (.cells cs t (0, 0))) (hne : ∀ q, q ∈ e :: kd.E → q ≠ t) (j : Nat) (x : Value) : Kd.R kd e (W.setCell ⟨g, j, none⟩ x) base ok v xs :=
 Kd.R_mono (Kd.R_far (p := ⟨g, j, none⟩) (Kd.R_types h hb hne) (fun _ hk => hk.2) x) (fun _ h_ => h_.1)
end
theorem Bx_start {w w1 w2 w3 w4 : World} {gb gt gr : Nat} {x0 x1 x2 : Value} {a b c : Int} {vT vL vC : Value} {T : List S50} {L C : List Int} (e1 : gb = w.heap.size) (h1 : w1.heap[gb]? = some (.cells #[x0, x1, x2] 29 (0, 0))) (k1 : Below w.heap.size w w1)
  (e2 : gt = w1.heap.size) (h2 : w2.heap[gt]? = some (.cells #[.int .i64 a, .int .i64 b, .int .i64 c] 50 (0, 0))) (k2 : Below w1.heap.size w1 w2)
  (e3 : gr = w2.heap.size) (h3 : w3.heap[gr]? = some (.cells #[.slice none 0 0, .slice none 0 0, .slice none 0 0] 29 (0, 0))) (k3 : Below w2.heap.size w2 w3)
  (oT : Kd.R k50 50 w4 w3.heap.size (fun _ => True) vT T) (oL : Kd.R (Kd.int .i64) 3 w4 w3.heap.size (fun k => some k ≠ vC.ownBlock) vL L) (oC : Kd.R (Kd.int .i64) 3 w4 w3.heap.size (fun k => some k ≠ vL.ownBlock) vC C) (k4 : Below w3.heap.size w3 w4) :
  w4.heap[gb]? = some (.cells #[x0, x1, x2] 29 (0, 0)) ∧ Bx w (((w4.setCell ⟨gb, 0, none⟩ vT).setCell ⟨gb, 1, none⟩ vL).setCell ⟨gb, 2, none⟩ vC) gb gt gr vT vL vC T L C a b c := by
 have B2 := blk_below h1 k2
 have B3 := blk_below B2 k3
 have B4 := blk_below B3 k4
 have T3 := blk_below h2 k3
 have T4 := blk_below T3 k4
 have G4 := blk_below h3 k4
 have s1 := blk_lt h1
 have s2 := blk_lt h2
 have s3 := blk_lt h3
 have l1 := k1.size
 have l2 := k2.size
 have l3 := k3.size
 have nbt : gb ≠ gt := by omega
 have nbr : gb ≠ gr := by omega
 have ntr : gt ≠ gr := by omega
 have bel3 := below_step (below_step k1 k2) k3
 have bel4 := below_step bel3 k4
 have P1 := blk_put B4 0 vT (cs' := #[vT, x1, x2]) rfl
 have P2 := blk_put P1 1 vL (cs' := #[vT, vL, x2]) rfl
 have P3 := blk_put P2 2 vC (cs' := #[vT, vL, vC]) rfl
 refine ⟨B4, P3, ?_, ?_, ?_, ?_, ?_, below_set (below_set (below_set bel4 (by omega)) (by omega)) (by omega), ⟨by omega, by omega, by omega⟩, ⟨nbt, nbr, ntr⟩⟩
 ·exact blk_far (blk_far (blk_far T4 (Ne.symm nbt) _) (Ne.symm nbt) _) (Ne.symm nbt) _
 ·exact blk_far (blk_far (blk_far G4 (Ne.symm nbr) _) (Ne.symm nbr) _) (Ne.symm nbr) _
 ·exact Kd.R_mono (R_set (R_set (R_set (Kd.R_lower (Kd.R_newB oT (g := gt) T3) (by omega : w.heap.size ≤ w3.heap.size)) B4 (by decide) 0 vT) P1 (by decide) 1 vL) P2 (by decide) 2 vC) (fun _ h_ => h_.2)
 ·exact R_set (R_set (R_set (Kd.R_lower oL (by omega : w.heap.size ≤ w3.heap.size)) B4 (by decide) 0 vT) P1 (by decide) 1 vL) P2 (by decide) 2 vC
 ·exact R_set (R_set (R_set (Kd.R_lower oC (by omega : w.heap.size ≤ w3.heap.size)) B4 (by decide) 0 vT) P1 (by decide) 1 vL) P2 (by decide) 2 vC
theorem Bx.look {w W : World} {gb gt gr : Nat} {vT vL vC : Value} {T : List S50} {L C : List Int} {a b c : Int} (h : Bx w W gb gt gr vT vL vC T L C a b c) :
  (W.cell? ⟨gb, 0, none⟩ = some vT ∧ W.cell? ⟨gb, 1, none⟩ = some vL ∧ W.cell? ⟨gb, 2, none⟩ = some vC) ∧ (W.cell? ⟨gt, 0, none⟩ = some (.int .i64 a) ∧ W.cell? ⟨gt, 1, none⟩ = some (.int .i64 b) ∧ W.cell? ⟨gt, 2, none⟩ = some (.int .i64 c)) ∧ (W.cell? ⟨gr, 0, none⟩ = some (.slice none 0 0) ∧ W.cell? ⟨gr, 1, none⟩ = some (.slice none 0 0) ∧ W.cell? ⟨gr, 2, none⟩ = some (.slice none 0 0)) :=
 ⟨cells3 h.hb, cells3 h.ht, cells3 h.hr⟩
theorem Bx_end {w W : World} {gb gt gr : Nat} {vT vL vC : Value} {T : List S50} {L C : List Int} {a b c : Int} (h : Bx w W gb gt gr vT vL vC T L C a b c) :
  (((W.setCell ⟨gr, 0, none⟩ vT).setCell ⟨gr, 1, none⟩ vL).setCell ⟨gr, 2, none⟩ vC).heap[gr]? = some (.cells #[vT, vL, vC] 29 (0, 0)) ∧
  Kd.R k50 50 (((W.setCell ⟨gr, 0, none⟩ vT).setCell ⟨gr, 1, none⟩ vL).setCell ⟨gr, 2, none⟩ vC) w.heap.size (fun _ => True) vT T ∧
  Kd.R (Kd.int .i64) 3 (((W.setCell ⟨gr, 0, none⟩ vT).setCell ⟨gr, 1, none⟩ vL).setCell ⟨gr, 2, none⟩ vC) w.heap.size (fun k => some k ≠ vC.ownBlock) vL L ∧
  Kd.R (Kd.int .i64) 3 (((W.setCell ⟨gr, 0, none⟩ vT).setCell ⟨gr, 1, none⟩ vL).setCell ⟨gr, 2, none⟩ vC) w.heap.size (fun k => some k ≠ vL.ownBlock) vC C ∧
  Below w.heap.size w (((W.setCell ⟨gr, 0, none⟩ vT).setCell ⟨gr, 1, none⟩ vL).setCell ⟨gr, 2, none⟩ vC) := by
 have P1 := blk_put h.hr 0 vT (cs' := #[vT, .slice none 0 0, .slice none 0 0]) rfl
 have P2 := blk_put P1 1 vL (cs' := #[vT, vL, .slice none 0 0]) rfl
 have P3 := blk_put P2 2 vC (cs' := #[vT, vL, vC]) rfl
 have l3 := h.ge.2.2
 refine ⟨P3, ?_, ?_, ?_, below_set (below_set (below_set h.bel l3) l3) l3⟩
 ·exact Kd.R_mono (R_set (R_set (R_set h.oT h.hr (by decide) 0 vT) P1 (by decide) 1 vL) P2 (by decide) 2 vC) (fun _ _ => trivial)
 ·exact R_set (R_set (R_set h.oL h.hr (by decide) 0 vT) P1 (by decide) 1 vL) P2 (by decide) 2 vC
 ·exact R_set (R_set (R_set h.oC h.hr (by decide) 0 vT) P1 (by decide) 1 vL) P2 (by decide) 2 vC
theorem below_drawn {w w' : World} (h : Drawn0 w w') : Below w.heap.size w w' := by
 obtain ⟨nd, rfl⟩ := h
 exact pw_below_drewN (Below.refl _ _) nd
theorem Bx_append {w W W' : World} {gb gt gr : Nat} {vT vL vC v1 : Value} {T T' : List S50} {L C : List Int} {a b c : Int} (h : Bx w W gb gt gr vT vL vC T L C a b c) (ho : Kd.R k50 50 W' w.heap.size (fun k => k ≠ gt) v1 T') (hb : Below w.heap.size w W') (hg : W.grownBy W' vT.ownBlock) :
  W'.heap[gb]? = some (.cells #[vT, vL, vC] 29 (0, 0)) ∧ Bx w (W'.setCell ⟨gb, 0, none⟩ v1) gb gt gr v1 vL vC T' L C a b c := by
 have B := blk_grown h.hb hg (Kd.R_ne h.oT h.hb (by decide))
 have Tt := blk_grown h.ht hg (Kd.R_away h.oT (fun _ hk => hk))
 have G := blk_grown h.hr hg (Kd.R_ne h.oT h.hr (by decide))
 have oL := Kd.R_over' h.oL (Kd.R_typed h.oT) (by decide) hg
 have oC := Kd.R_over' h.oC (Kd.R_typed h.oT) (by decide) hg
 refine ⟨B, blk_put B 0 v1 rfl, blk_far Tt (Ne.symm h.ne.1) _, blk_far G (Ne.symm h.ne.2.1) _, R_set ho B (by decide) 0 v1, R_set oL B (by decide) 0 v1, R_set oC B (by decide) 0 v1, below_set hb h.ge.1, h.ge, h.ne⟩
theorem Bx_said {w W W' : World} {gb gt gr : Nat} {vT vL vC v0 v1 : Value} {T : List S50} {L C L' C' : List Int} {a b c : Int} (h : Bx w W gb gt gr vT vL vC T L C a b c) (hB : Below W.heap.size W W') (o0 : Kd.R (Kd.int .i64) 3 W' W.heap.size (fun k => some k ≠ v1.ownBlock) v0 L') (o1 : Kd.R (Kd.int .i64) 3 W' W.heap.size (fun k => some k ≠ v0.ownBlock) v1 C') :
  Bx w W' gb gt gr vT vL vC T L C a b c ∧ Bx w ((W'.setCell ⟨gb, 1, none⟩ v0).setCell ⟨gb, 2, none⟩ v1) gb gt gr vT v0 v1 T L' C' a b c := by
 have h' := h.below hB
 have P1 := blk_put h'.hb 1 v0 (cs' := #[vT, v0, vC]) rfl
 have P2 := blk_put P1 2 v1 (cs' := #[vT, v0, v1]) rfl
 have ls := below_size h.bel
 refine ⟨h', P2, blk_far (blk_far h'.ht (Ne.symm h.ne.1) _) (Ne.symm h.ne.1) _, blk_far (blk_far h'.hr (Ne.symm h.ne.2.1) _) (Ne.symm h.ne.2.1) _, R_set (R_set h'.oT h'.hb (by decide) 1 v0) P1 (by decide) 2 v1, R_set (R_set (Kd.R_lower o0 ls) h'.hb (by decide) 1 v0) P1 (by decide) 2 v1, R_set (R_set (Kd.R_lower o1 ls) h'.hb (by decide) 1 v0) P1 (by decide) 2 v1, below_set (below_set h'.bel h.ge.1) h.ge.1, h.ge, h.ne⟩
def impl_Add18.f (k : Nat) (lp : List (S50)) (lq : List Int) (lr : List Int) (a1_0 : Int) (a1_1 : Int) (a1_2 : Int) : Option ((List (S50)) × List Int × List Int × Bool) := (impl_ownBook.f k lp lq lr).bind fun bt616 => ((impl_Faults.f k bt616.1 bt616.2.1 bt616.2.2).bind fun t625 => (if (t625.length : Int) > 0 then (some (bt616.1, bt616.2.1, bt616.2.2, false)) else (if (bt616.1.length : Int) = 30 then (some (bt616.1, bt616.2.1, bt616.2.2, false)) else ((impl_in.f a1_0 0 (wrap64 ((bt616.2.1.length : Int) - 1))).bind fun t628 => (if t628 = true then ((impl_in.f a1_1 0 (wrap64 ((bt616.2.1.length : Int) - 1))).bind fun t629 => (if t629 = true then ((impl_in.f a1_2 (-1) (wrap64 ((bt616.2.2.length : Int) - 1))).bind fun t630 => (if t630 = true then (if a1_0 = a1_1 then (some (bt616.1, bt616.2.1, bt616.2.2, false)) else ((impl_Talk_42.f k bt616.1 a1_0 a1_1 a1_2).bind fun t631 => (if t631 = true then (some (bt616.1, bt616.2.1, bt616.2.2, false)) else (if bt616.1.length < 5864062014805 then ((some (bt616.1 ++ [(⟨a1_0, a1_1, a1_2⟩ : S50)] : List (S50))).bind fun y632 => ((impl_said.f k y632 bt616.2.1 bt616.2.2).bind fun bt635 => (some (y632, bt635.1, bt635.2, true)))) else (none))))) else (some (bt616.1, bt616.2.1, bt616.2.2, false)))) else (some (bt616.1, bt616.2.1, bt616.2.2, false)))) else (some (bt616.1, bt616.2.1, bt616.2.2, false)))))))
theorem impl_Add18.mono : ∀ a0 a1 a2 a3 a4 a5 k, LeO (impl_Add18.f k a0 a1 a2 a3 a4 a5) (impl_Add18.f (k + 1) a0 a1 a2 a3 a4 a5) := by
 intro a0 a1 a2 a3 a4 a5 k
 unfold impl_Add18.f
 repeat' first
   | (with_reducible exact impl_Faults.mono _ _ _ _)
   | (with_reducible exact impl_Talk_42.mono _ _ _ _ _)
   | (with_reducible exact impl_ownBook.mono _ _ _ _)
   | (with_reducible exact impl_said.mono _ _ _ _)
   | (with_reducible exact LeO.refl _)
   | (with_reducible exact LeO.none _)
   | (with_reducible refine LeO.ite ?_ ?_)
   | (with_reducible refine LeO.bind ?_ (fun _ => ?_))
   | exact impl_Faults.mono _ _ _ _
   | exact impl_Talk_42.mono _ _ _ _ _
   | exact impl_ownBook.mono _ _ _ _
   | exact impl_said.mono _ _ _ _
   | exact LeO.none _
   | refine LeO.ite ?_ ?_
   | refine LeO.bind ?_ (fun _ => ?_)
set_option maxHeartbeats 1000000 in
set_option maxRecDepth 100000 in
theorem impl_Add18.calls (k : Nat) (Ap : Option Addr) (cp : Nat) (lp : List (S50)) (Aq : Option Addr) (cq : Nat) (lq : List Int) (Ar : Option Addr) (cr : Nat) (lr : List Int) (a1_0 : Int) (a1_1 : Int) (a1_2 : Int) (r1 : List (S50)) (r2 : List Int) (r3 : List Int) (r4 : Bool) (w : World) (hr0_0 : Kd.C k50 w Ap lp.length lp) (hc0_0 : lp.length ≤ cp) (hr0_1 : Kd.C (Kd.int .i64) w Aq lq.length lq) (hc0_1 : lq.length ≤ cq) (hr0_2 : Kd.C (Kd.int .i64) w Ar lr.length lr) (hc0_2 : lr.length ≤ cr) (h : impl_Add18.f k lp lq lr a1_0 a1_1 a1_2 = some (r1, r2, r3, r4)) :
  Calls Try.prog 31 #[.agg #[.slice Ap lp.length cp, .slice Aq lq.length cq, .slice Ar lr.length cr], .agg #[.int .i64 a1_0, .int .i64 a1_1, .int .i64 a1_2]] w fun e w' => ∃ v0_ v1_ v2_ : Value, e = .returned (.tuple #[.agg #[v0_, v1_, v2_], .bool r4]) ∧ Kd.R k50 50 w' w.heap.size (fun _ => True) v0_ r1 ∧ Kd.R (Kd.int .i64) 3 w' w.heap.size (fun k_ => some k_ ≠ (v2_ : Value).ownBlock) v1_ r2 ∧ Kd.R (Kd.int .i64) 3 w' w.heap.size (fun k_ => some k_ ≠ (v1_ : Value).ownBlock) v2_ r3 ∧ Below w.heap.size w w' := by
 have hu29 := Try.underlying29
 have hu50 := Try.underlying50
 unfold impl_Add18.f at h
 obtain ⟨⟨T, L, C⟩, A3, H1⟩ := Option.bind_eq_some_iff.mp h
 clear h
 obtain ⟨fs, A4, H⟩ := Option.bind_eq_some_iff.mp H1
 clear H1
 simp only at H A4
 have CO : ∀ w3, Below w.heap.size w w3 → _ := fun w3 hb => impl_ownBook.calls k Ap cp lp Aq cq lq Ar cr lr T L C w3 (Kd.C_below hr0_0 hb) hc0_0 (Kd.C_below hr0_1 hb) hc0_1 (Kd.C_below hr0_2 hb) hc0_2 A3
 have CO := mk0 CO
 have A4 := mk0 A4
 clear hr0_0 hr0_1 hr0_2 A3
 go_enter Try.func31, Try.ntmps31
 go_upto_region 2 with (first
  | ((with_reducible refine gate_dst (N := 2) rfl ?_); refine box_event ?hg (N := 2) ?hd (cs := #[.slice Ap lp.length cp, .slice Aq lq.length cq, .slice Ar lr.length cr]) (t := 29) ?hr ?_; (case hd | hg => rfl); (case hr => first | (go_simp; done) | (go_simp; rfl)); intro gb e10 w1 h1 k1; have e1 := mk0 e10; clear e10)
  | ((with_reducible refine gate_dst (N := 3) rfl ?_); refine box_event ?hg (N := 3) ?hd (cs := #[.int .i64 a1_0, .int .i64 a1_1, .int .i64 a1_2]) (t := 50) ?hr ?_; (case hd | hg => rfl); (case hr => first | (go_simp; done) | (go_simp; rfl)); intro gt e20 w2 h2 k2; have e2 := mk0 e20; clear e20)
  | ((with_reducible refine gate_dst (N := 4) rfl ?_); refine box_event ?hg (N := 4) ?hd (cs := #[.slice none 0 0, .slice none 0 0, .slice none 0 0]) (t := 29) ?hr ?_; (case hd | hg => rfl); (case hr => first | (go_simp; done) | (go_simp; rfl)); intro gr e30 w3 h3 k3; have e3 := mk0 e30; clear e30; have hB3 := blk_below (blk_below h1 k2) k3; obtain ⟨q0, q1, q2⟩ := cells3 hB3)
  | (go_at_call 55; (with_reducible refine (CO.out _ (below_step (below_step k1 k2) k3)).mono ?_); rintro e w4 ⟨v0, v1, v2, rfl, ho0, ho1, ho2, k4⟩; obtain ⟨AT, cT, eT⟩ := Kd.R_slice ho0; subst eT; obtain ⟨AL, cL, eL⟩ := Kd.R_slice ho1; subst eL; obtain ⟨AC, cC, eC⟩ := Kd.R_slice ho2; subst eC; obtain ⟨B4, hX⟩ := Bx_start e1.out h1 k1 e2.out h2 k2 e3.out h3 k3 ho0 ho1 ho2 k4; obtain ⟨q0, q1, q2⟩ := cells3 B4; have z0 := blk_frozen B4 0; have z1 := blk_frozen B4 1; have z2 := blk_frozen B4 2))
 generalize (((w4.setCell ⟨gb, 0, none⟩ (.slice AT T.length cT)).setCell ⟨gb, 1, none⟩ (.slice AL L.length cL)).setCell ⟨gb, 2, none⟩ (.slice AC C.length cC)) = W at hX ⊢
 clear h1 k1 h2 k2 h3 k3 hB3 ho0 ho1 ho2 k4 B4 q0 q1 q2 z0 z1 z2 e1 e2 e3 CO
 obtain ⟨⟨q0, q1, q2⟩, ⟨t0, t1, t2⟩, s0, s1, s2⟩ := hX.look
 by_cases c5 : (fs.length : Int) > 0
 ·have c5b0 : decide (0 < (fs.length : Int)) = true := decide_eq_true c5
  have c5b1 : decide (0 < fs.length) = true := decide_eq_true (by omega)
  rw [if_pos c5] at H
  clear c5
  simp only [Option.some.injEq, Prod.mk.injEq] at H
  obtain ⟨rfl, rfl, rfl, rfl⟩ := H
  go_wp2_with (first | (go_at_call 20; (with_reducible refine (impl_Faults.calls k _ _ T _ _ L _ _ C fs _ (Kd.R_reads' hX.oT).2.2 (Kd.R_reads' hX.oT).2.1 (Kd.R_reads' hX.oL).2.2 (Kd.R_reads' hX.oL).2.1 (Kd.R_reads' hX.oC).2.2 (Kd.R_reads' hX.oC).2.1 A4.out).mono ?_); rintro e w5 ⟨vf, rfl, hof, kf⟩; obtain ⟨AF, cF, eF⟩ := Kd.R_slice hof; subst eF; replace hX := hX.below kf; clear hof kf; obtain ⟨⟨q0, q1, q2⟩, ⟨t0, t1, t2⟩, s0, s1, s2⟩ := hX.look; have z0 := blk_frozen hX.hr 0; have z1 := blk_frozen hX.hr 1; have z2 := blk_frozen hX.hr 2))
  refine bodyPost_ret (results_ct rfl _ _ gr 29 #[.slice AT T.length cT, .slice AL L.length cL, .slice AC C.length cC] (0, 0) _ rfl (Bx_end hX).1 Try.underlying29 rfl (by kernel_rfl)) rfl ?_
  exact ⟨_, _, _, rfl, (Bx_end hX).2.1, (Bx_end hX).2.2.1, (Bx_end hX).2.2.2.1, (Bx_end hX).2.2.2.2⟩
 have c5b0 : decide (0 < (fs.length : Int)) = false := decide_eq_false c5
 have c5b1 : decide (0 < fs.length) = false := decide_eq_false (by omega)
 rw [if_neg c5] at H
 clear c5
 by_cases c22 : (T.length : Int) = 30
 ·rw [if_pos c22] at H
  have c22b0 : ((T.length : Int) == 30) = true := beq_iff_eq.mpr c22
  have c22b1 : ((T.length : Int) != 30) = false := bne_eq_false_iff_eq.mpr c22
  clear c22
  simp only [Option.some.injEq, Prod.mk.injEq] at H
  obtain ⟨rfl, rfl, rfl, rfl⟩ := H
  go_wp2_with (first | (go_at_call 20; (with_reducible refine (impl_Faults.calls k _ _ T _ _ L _ _ C fs _ (Kd.R_reads' hX.oT).2.2 (Kd.R_reads' hX.oT).2.1 (Kd.R_reads' hX.oL).2.2 (Kd.R_reads' hX.oL).2.1 (Kd.R_reads' hX.oC).2.2 (Kd.R_reads' hX.oC).2.1 A4.out).mono ?_); rintro e w5 ⟨vf, rfl, hof, kf⟩; obtain ⟨AF, cF, eF⟩ := Kd.R_slice hof; subst eF; replace hX := hX.below kf; clear hof kf; obtain ⟨⟨q0, q1, q2⟩, ⟨t0, t1, t2⟩, s0, s1, s2⟩ := hX.look; have z0 := blk_frozen hX.hr 0; have z1 := blk_frozen hX.hr 1; have z2 := blk_frozen hX.hr 2))
  refine bodyPost_ret (results_ct rfl _ _ gr 29 #[.slice AT T.length cT, .slice AL L.length cL, .slice AC C.length cC] (0, 0) _ rfl (Bx_end hX).1 Try.underlying29 rfl (by kernel_rfl)) rfl ?_
  exact ⟨_, _, _, rfl, (Bx_end hX).2.1, (Bx_end hX).2.2.1, (Bx_end hX).2.2.2.1, (Bx_end hX).2.2.2.2⟩
 have c22b0 : ((T.length : Int) == 30) = false := beq_eq_false_iff_ne.mpr c22
 have c22b1 : ((T.length : Int) != 30) = true := bne_iff_ne.mpr c22
 rw [if_neg c22] at H
 clear c22
 obtain ⟨b, A39, H2⟩ := Option.bind_eq_some_iff.mp H
 clear H
 replace A39 := mk0 A39
 by_cases cb : b = true
 rotate_left
 ·replace cb := Bool.eq_false_iff.mpr cb
  subst cb
  have H := H2
  clear H2
  rw [if_neg Bool.false_ne_true] at H
  simp only [Option.some.injEq, Prod.mk.injEq] at H
  obtain ⟨rfl, rfl, rfl, rfl⟩ := H
  go_wp2_with (first | (go_at_call 20; (with_reducible refine (impl_Faults.calls k _ _ T _ _ L _ _ C fs _ (Kd.R_reads' hX.oT).2.2 (Kd.R_reads' hX.oT).2.1 (Kd.R_reads' hX.oL).2.2 (Kd.R_reads' hX.oL).2.1 (Kd.R_reads' hX.oC).2.2 (Kd.R_reads' hX.oC).2.1 A4.out).mono ?_); rintro e w5 ⟨vf, rfl, hof, kf⟩; obtain ⟨AF, cF, eF⟩ := Kd.R_slice hof; subst eF; replace hX := hX.below kf; clear hof kf; obtain ⟨⟨q0, q1, q2⟩, ⟨t0, t1, t2⟩, s0, s1, s2⟩ := hX.look; have z0 := blk_frozen hX.hr 0; have z1 := blk_frozen hX.hr 1; have z2 := blk_frozen hX.hr 2) | (go_at_call 54; (with_reducible refine (impl_in.calls a1_0 0 (wrap64 ((L.length : Int) - 1)) false _ A39.out).mono ?_); rintro e w6 ⟨rfl, hD⟩; have kf := below_drawn hD; replace hX := hX.below kf; clear hD kf; obtain ⟨⟨q0, q1, q2⟩, ⟨t0, t1, t2⟩, s0, s1, s2⟩ := hX.look; have z0 := blk_frozen hX.hr 0; have z1 := blk_frozen hX.hr 1; have z2 := blk_frozen hX.hr 2))
  refine bodyPost_ret (results_ct rfl _ _ gr 29 #[.slice AT T.length cT, .slice AL L.length cL, .slice AC C.length cC] (0, 0) _ rfl (Bx_end hX).1 Try.underlying29 rfl (by kernel_rfl)) rfl ?_
  exact ⟨_, _, _, rfl, (Bx_end hX).2.1, (Bx_end hX).2.2.1, (Bx_end hX).2.2.2.1, (Bx_end hX).2.2.2.2⟩
 subst cb
 rw [if_pos rfl] at H2
 obtain ⟨b, A41, H3⟩ := Option.bind_eq_some_iff.mp H2
 clear H2
 replace A41 := mk0 A41
 by_cases cb : b = true
 rotate_left
 ·replace cb := Bool.eq_false_iff.mpr cb
  subst cb
  have H := H3
  clear H3
  rw [if_neg Bool.false_ne_true] at H
  simp only [Option.some.injEq, Prod.mk.injEq] at H
  obtain ⟨rfl, rfl, rfl, rfl⟩ := H
  go_wp2_with (first | (go_at_call 20; (with_reducible refine (impl_Faults.calls k _ _ T _ _ L _ _ C fs _ (Kd.R_reads' hX.oT).2.2 (Kd.R_reads' hX.oT).2.1 (Kd.R_reads' hX.oL).2.2 (Kd.R_reads' hX.oL).2.1 (Kd.R_reads' hX.oC).2.2 (Kd.R_reads' hX.oC).2.1 A4.out).mono ?_); rintro e w5 ⟨vf, rfl, hof, kf⟩; obtain ⟨AF, cF, eF⟩ := Kd.R_slice hof; subst eF; replace hX := hX.below kf; clear hof kf; obtain ⟨⟨q0, q1, q2⟩, ⟨t0, t1, t2⟩, s0, s1, s2⟩ := hX.look; have z0 := blk_frozen hX.hr 0; have z1 := blk_frozen hX.hr 1; have z2 := blk_frozen hX.hr 2) | (go_at_call 54; (with_reducible refine (impl_in.calls a1_0 0 (wrap64 ((L.length : Int) - 1)) true _ A39.out).mono ?_); rintro e w6 ⟨rfl, hD⟩; have kf := below_drawn hD; replace hX := hX.below kf; clear hD kf; obtain ⟨⟨q0, q1, q2⟩, ⟨t0, t1, t2⟩, s0, s1, s2⟩ := hX.look; have z0 := blk_frozen hX.hr 0; have z1 := blk_frozen hX.hr 1; have z2 := blk_frozen hX.hr 2) | (go_at_call 54; (with_reducible refine (impl_in.calls a1_1 0 (wrap64 ((L.length : Int) - 1)) false _ A41.out).mono ?_); rintro e w6 ⟨rfl, hD⟩; have kf := below_drawn hD; replace hX := hX.below kf; clear hD kf; obtain ⟨⟨q0, q1, q2⟩, ⟨t0, t1, t2⟩, s0, s1, s2⟩ := hX.look; have z0 := blk_frozen hX.hr 0; have z1 := blk_frozen hX.hr 1; have z2 := blk_frozen hX.hr 2))
  refine bodyPost_ret (results_ct rfl _ _ gr 29 #[.slice AT T.length cT, .slice AL L.length cL, .slice AC C.length cC] (0, 0) _ rfl (Bx_end hX).1 Try.underlying29 rfl (by kernel_rfl)) rfl ?_
  exact ⟨_, _, _, rfl, (Bx_end hX).2.1, (Bx_end hX).2.2.1, (Bx_end hX).2.2.2.1, (Bx_end hX).2.2.2.2⟩
 subst cb
 rw [if_pos rfl] at H3
 obtain ⟨b, A43, H4⟩ := Option.bind_eq_some_iff.mp H3
 clear H3
 replace A43 := mk0 A43
 by_cases cb : b = true
 rotate_left
 ·replace cb := Bool.eq_false_iff.mpr cb
  subst cb
  have H := H4
  clear H4
  rw [if_neg Bool.false_ne_true] at H
  simp only [Option.some.injEq, Prod.mk.injEq] at H
  obtain ⟨rfl, rfl, rfl, rfl⟩ := H
  go_wp2_with (first | (go_at_call 20; (with_reducible refine (impl_Faults.calls k _ _ T _ _ L _ _ C fs _ (Kd.R_reads' hX.oT).2.2 (Kd.R_reads' hX.oT).2.1 (Kd.R_reads' hX.oL).2.2 (Kd.R_reads' hX.oL).2.1 (Kd.R_reads' hX.oC).2.2 (Kd.R_reads' hX.oC).2.1 A4.out).mono ?_); rintro e w5 ⟨vf, rfl, hof, kf⟩; obtain ⟨AF, cF, eF⟩ := Kd.R_slice hof; subst eF; replace hX := hX.below kf; clear hof kf; obtain ⟨⟨q0, q1, q2⟩, ⟨t0, t1, t2⟩, s0, s1, s2⟩ := hX.look; have z0 := blk_frozen hX.hr 0; have z1 := blk_frozen hX.hr 1; have z2 := blk_frozen hX.hr 2) | (go_at_call 54; (with_reducible refine (impl_in.calls a1_0 0 (wrap64 ((L.length : Int) - 1)) true _ A39.out).mono ?_); rintro e w6 ⟨rfl, hD⟩; have kf := below_drawn hD; replace hX := hX.below kf; clear hD kf; obtain ⟨⟨q0, q1, q2⟩, ⟨t0, t1, t2⟩, s0, s1, s2⟩ := hX.look; have z0 := blk_frozen hX.hr 0; have z1 := blk_frozen hX.hr 1; have z2 := blk_frozen hX.hr 2) | (go_at_call 54; (with_reducible refine (impl_in.calls a1_1 0 (wrap64 ((L.length : Int) - 1)) true _ A41.out).mono ?_); rintro e w6 ⟨rfl, hD⟩; have kf := below_drawn hD; replace hX := hX.below kf; clear hD kf; obtain ⟨⟨q0, q1, q2⟩, ⟨t0, t1, t2⟩, s0, s1, s2⟩ := hX.look; have z0 := blk_frozen hX.hr 0; have z1 := blk_frozen hX.hr 1; have z2 := blk_frozen hX.hr 2) | (go_at_call 54; (with_reducible refine (impl_in.calls a1_2 (-1) (wrap64 ((C.length : Int) - 1)) false _ A43.out).mono ?_); rintro e w6 ⟨rfl, hD⟩; have kf := below_drawn hD; replace hX := hX.below kf; clear hD kf; obtain ⟨⟨q0, q1, q2⟩, ⟨t0, t1, t2⟩, s0, s1, s2⟩ := hX.look; have z0 := blk_frozen hX.hr 0; have z1 := blk_frozen hX.hr 1; have z2 := blk_frozen hX.hr 2))
  refine bodyPost_ret (results_ct rfl _ _ gr 29 #[.slice AT T.length cT, .slice AL L.length cL, .slice AC C.length cC] (0, 0) _ rfl (Bx_end hX).1 Try.underlying29 rfl (by kernel_rfl)) rfl ?_
  exact ⟨_, _, _, rfl, (Bx_end hX).2.1, (Bx_end hX).2.2.1, (Bx_end hX).2.2.2.1, (Bx_end hX).2.2.2.2⟩
 subst cb
 rw [if_pos rfl] at H4
 by_cases c45 : a1_0 = a1_1
 ·rw [if_pos c45] at H4
  have c45b0 : (a1_0 == a1_1) = true := beq_iff_eq.mpr c45
  have c45b1 : (a1_0 != a1_1) = false := bne_eq_false_iff_eq.mpr c45
  clear c45
  have H := H4
  clear H4
  simp only [Option.some.injEq, Prod.mk.injEq] at H
  obtain ⟨rfl, rfl, rfl, rfl⟩ := H
  go_wp2_with (first | (go_at_call 20; (with_reducible refine (impl_Faults.calls k _ _ T _ _ L _ _ C fs _ (Kd.R_reads' hX.oT).2.2 (Kd.R_reads' hX.oT).2.1 (Kd.R_reads' hX.oL).2.2 (Kd.R_reads' hX.oL).2.1 (Kd.R_reads' hX.oC).2.2 (Kd.R_reads' hX.oC).2.1 A4.out).mono ?_); rintro e w5 ⟨vf, rfl, hof, kf⟩; obtain ⟨AF, cF, eF⟩ := Kd.R_slice hof; subst eF; replace hX := hX.below kf; clear hof kf; obtain ⟨⟨q0, q1, q2⟩, ⟨t0, t1, t2⟩, s0, s1, s2⟩ := hX.look; have z0 := blk_frozen hX.hr 0; have z1 := blk_frozen hX.hr 1; have z2 := blk_frozen hX.hr 2) | (go_at_call 54; (with_reducible refine (impl_in.calls a1_0 0 (wrap64 ((L.length : Int) - 1)) true _ A39.out).mono ?_); rintro e w6 ⟨rfl, hD⟩; have kf := below_drawn hD; replace hX := hX.below kf; clear hD kf; obtain ⟨⟨q0, q1, q2⟩, ⟨t0, t1, t2⟩, s0, s1, s2⟩ := hX.look; have z0 := blk_frozen hX.hr 0; have z1 := blk_frozen hX.hr 1; have z2 := blk_frozen hX.hr 2) | (go_at_call 54; (with_reducible refine (impl_in.calls a1_1 0 (wrap64 ((L.length : Int) - 1)) true _ A41.out).mono ?_); rintro e w6 ⟨rfl, hD⟩; have kf := below_drawn hD; replace hX := hX.below kf; clear hD kf; obtain ⟨⟨q0, q1, q2⟩, ⟨t0, t1, t2⟩, s0, s1, s2⟩ := hX.look; have z0 := blk_frozen hX.hr 0; have z1 := blk_frozen hX.hr 1; have z2 := blk_frozen hX.hr 2) | (go_at_call 54; (with_reducible refine (impl_in.calls a1_2 (-1) (wrap64 ((C.length : Int) - 1)) true _ A43.out).mono ?_); rintro e w6 ⟨rfl, hD⟩; have kf := below_drawn hD; replace hX := hX.below kf; clear hD kf; obtain ⟨⟨q0, q1, q2⟩, ⟨t0, t1, t2⟩, s0, s1, s2⟩ := hX.look; have z0 := blk_frozen hX.hr 0; have z1 := blk_frozen hX.hr 1; have z2 := blk_frozen hX.hr 2))
  refine bodyPost_ret (results_ct rfl _ _ gr 29 #[.slice AT T.length cT, .slice AL L.length cL, .slice AC C.length cC] (0, 0) _ rfl (Bx_end hX).1 Try.underlying29 rfl (by kernel_rfl)) rfl ?_
  exact ⟨_, _, _, rfl, (Bx_end hX).2.1, (Bx_end hX).2.2.1, (Bx_end hX).2.2.2.1, (Bx_end hX).2.2.2.2⟩
 have c45b0 : (a1_0 == a1_1) = false := beq_eq_false_iff_ne.mpr c45
 have c45b1 : (a1_0 != a1_1) = true := bne_iff_ne.mpr c45
 rw [if_neg c45] at H4
 clear c45
 obtain ⟨b, A63, H5⟩ := Option.bind_eq_some_iff.mp H4
 clear H4
 replace A63 := mk0 A63
 by_cases cb : b = true
 ·subst cb
  rw [if_pos rfl] at H5
  have H := H5
  clear H5
  simp only [Option.some.injEq, Prod.mk.injEq] at H
  obtain ⟨rfl, rfl, rfl, rfl⟩ := H
  go_wp2_with (first | (go_at_call 20; (with_reducible refine (impl_Faults.calls k _ _ T _ _ L _ _ C fs _ (Kd.R_reads' hX.oT).2.2 (Kd.R_reads' hX.oT).2.1 (Kd.R_reads' hX.oL).2.2 (Kd.R_reads' hX.oL).2.1 (Kd.R_reads' hX.oC).2.2 (Kd.R_reads' hX.oC).2.1 A4.out).mono ?_); rintro e w5 ⟨vf, rfl, hof, kf⟩; obtain ⟨AF, cF, eF⟩ := Kd.R_slice hof; subst eF; replace hX := hX.below kf; clear hof kf; obtain ⟨⟨q0, q1, q2⟩, ⟨t0, t1, t2⟩, s0, s1, s2⟩ := hX.look; have z0 := blk_frozen hX.hr 0; have z1 := blk_frozen hX.hr 1; have z2 := blk_frozen hX.hr 2) | (go_at_call 54; (with_reducible refine (impl_in.calls a1_0 0 (wrap64 ((L.length : Int) - 1)) true _ A39.out).mono ?_); rintro e w6 ⟨rfl, hD⟩; have kf := below_drawn hD; replace hX := hX.below kf; clear hD kf; obtain ⟨⟨q0, q1, q2⟩, ⟨t0, t1, t2⟩, s0, s1, s2⟩ := hX.look; have z0 := blk_frozen hX.hr 0; have z1 := blk_frozen hX.hr 1; have z2 := blk_frozen hX.hr 2) | (go_at_call 54; (with_reducible refine (impl_in.calls a1_1 0 (wrap64 ((L.length : Int) - 1)) true _ A41.out).mono ?_); rintro e w6 ⟨rfl, hD⟩; have kf := below_drawn hD; replace hX := hX.below kf; clear hD kf; obtain ⟨⟨q0, q1, q2⟩, ⟨t0, t1, t2⟩, s0, s1, s2⟩ := hX.look; have z0 := blk_frozen hX.hr 0; have z1 := blk_frozen hX.hr 1; have z2 := blk_frozen hX.hr 2) | (go_at_call 54; (with_reducible refine (impl_in.calls a1_2 (-1) (wrap64 ((C.length : Int) - 1)) true _ A43.out).mono ?_); rintro e w6 ⟨rfl, hD⟩; have kf := below_drawn hD; replace hX := hX.below kf; clear hD kf; obtain ⟨⟨q0, q1, q2⟩, ⟨t0, t1, t2⟩, s0, s1, s2⟩ := hX.look; have z0 := blk_frozen hX.hr 0; have z1 := blk_frozen hX.hr 1; have z2 := blk_frozen hX.hr 2) | (go_at_call 42; (with_reducible refine (impl_Talk_42.calls k _ _ T a1_0 a1_1 a1_2 true _ (Kd.R_reads' hX.oT).2.2 (Kd.R_reads' hX.oT).2.1 A63.out).mono ?_); rintro e w7 ⟨rfl, kf⟩; replace hX := hX.below kf; clear kf; obtain ⟨⟨q0, q1, q2⟩, ⟨t0, t1, t2⟩, s0, s1, s2⟩ := hX.look; have z0 := blk_frozen hX.hr 0; have z1 := blk_frozen hX.hr 1; have z2 := blk_frozen hX.hr 2))
  refine bodyPost_ret (results_ct rfl _ _ gr 29 #[.slice AT T.length cT, .slice AL L.length cL, .slice AC C.length cC] (0, 0) _ rfl (Bx_end hX).1 Try.underlying29 rfl (by kernel_rfl)) rfl ?_
  exact ⟨_, _, _, rfl, (Bx_end hX).2.1, (Bx_end hX).2.2.1, (Bx_end hX).2.2.2.1, (Bx_end hX).2.2.2.2⟩
 replace cb := Bool.eq_false_iff.mpr cb
 subst cb
 rw [if_neg Bool.false_ne_true] at H5
 by_cases c84 : T.length < 5864062014805
 rotate_left
 ·rw [if_neg c84] at H5
  exact absurd H5 (by simp)
 rw [if_pos c84] at H5
 have LM := mk0 c84
 clear c84
 obtain ⟨y, hy⟩ : ∃ y_ : List (S50), y_ = (T ++ [(⟨a1_0, a1_1, a1_2⟩ : S50)]) := ⟨_, rfl⟩
 rw [← hy] at H5
 have Ny := mk0 hy
 clear hy
 rw [Option.bind_some] at H5
 obtain ⟨⟨u2, u3⟩, A85, H6⟩ := Option.bind_eq_some_iff.mp H5
 clear H5
 simp only [Option.some.injEq, Prod.mk.injEq] at H6
 obtain ⟨rfl, rfl, rfl, rfl⟩ := H6
 replace A85 := mk0 A85
 go_wp2_with (first | (go_at_call 20; (with_reducible refine (impl_Faults.calls k _ _ T _ _ L _ _ C fs _ (Kd.R_reads' hX.oT).2.2 (Kd.R_reads' hX.oT).2.1 (Kd.R_reads' hX.oL).2.2 (Kd.R_reads' hX.oL).2.1 (Kd.R_reads' hX.oC).2.2 (Kd.R_reads' hX.oC).2.1 A4.out).mono ?_); rintro e w5 ⟨vf, rfl, hof, kf⟩; obtain ⟨AF, cF, eF⟩ := Kd.R_slice hof; subst eF; replace hX := hX.below kf; clear hof kf; obtain ⟨⟨q0, q1, q2⟩, ⟨t0, t1, t2⟩, s0, s1, s2⟩ := hX.look; have z0 := blk_frozen hX.hr 0; have z1 := blk_frozen hX.hr 1; have z2 := blk_frozen hX.hr 2) | (go_at_call 54; (with_reducible refine (impl_in.calls a1_0 0 (wrap64 ((L.length : Int) - 1)) true _ A39.out).mono ?_); rintro e w6 ⟨rfl, hD⟩; have kf := below_drawn hD; replace hX := hX.below kf; clear hD kf; obtain ⟨⟨q0, q1, q2⟩, ⟨t0, t1, t2⟩, s0, s1, s2⟩ := hX.look; have z0 := blk_frozen hX.hr 0; have z1 := blk_frozen hX.hr 1; have z2 := blk_frozen hX.hr 2) | (go_at_call 54; (with_reducible refine (impl_in.calls a1_1 0 (wrap64 ((L.length : Int) - 1)) true _ A41.out).mono ?_); rintro e w6 ⟨rfl, hD⟩; have kf := below_drawn hD; replace hX := hX.below kf; clear hD kf; obtain ⟨⟨q0, q1, q2⟩, ⟨t0, t1, t2⟩, s0, s1, s2⟩ := hX.look; have z0 := blk_frozen hX.hr 0; have z1 := blk_frozen hX.hr 1; have z2 := blk_frozen hX.hr 2) | (go_at_call 54; (with_reducible refine (impl_in.calls a1_2 (-1) (wrap64 ((C.length : Int) - 1)) true _ A43.out).mono ?_); rintro e w6 ⟨rfl, hD⟩; have kf := below_drawn hD; replace hX := hX.below kf; clear hD kf; obtain ⟨⟨q0, q1, q2⟩, ⟨t0, t1, t2⟩, s0, s1, s2⟩ := hX.look; have z0 := blk_frozen hX.hr 0; have z1 := blk_frozen hX.hr 1; have z2 := blk_frozen hX.hr 2) | (go_at_call 42; (with_reducible refine (impl_Talk_42.calls k _ _ T a1_0 a1_1 a1_2 false _ (Kd.R_reads' hX.oT).2.2 (Kd.R_reads' hX.oT).2.1 A63.out).mono ?_); rintro e w7 ⟨rfl, kf⟩; replace hX := hX.below kf; clear kf; obtain ⟨⟨q0, q1, q2⟩, ⟨t0, t1, t2⟩, s0, s1, s2⟩ := hX.look; have z0 := blk_frozen hX.hr 0; have z1 := blk_frozen hX.hr 1; have z2 := blk_frozen hX.hr 2) | ((with_reducible refine gate_builtin (b := .append) (xs := #[.tmp 64, .tmp 66]) rfl ?_); (try (refine gate_guard (by rfl) ?_; dsimp only)); at_builtin; refine Kd.R_append k50 (w0 := w) w.heap.size rfl (.tmp 64) (.tmp 66) 27 50 (.agg #[(.int .i64 0), (.int .i64 0), (.int .i64 0)]) 24 rfl Try.underlying27 info50 rfl (by decide) (by omega) (.slice AT T.length cT) T (⟨a1_0, a1_1, a1_2⟩ : S50) [.int .i64 a1_0, .int .i64 a1_1, .int .i64 a1_2] (fun k_ => k_ ≠ gt) (fun _ => False) rfl rfl ?aP (fun _ hk => hk.elim) ?aF ?aO ?aB ?aS ?aL ?_; (case aP => exact k50_mkM _ _ _ (⟨a1_0, a1_1, a1_2⟩ : S50)); (case aB => exact hX.bel); (case aF => exact (fun k_ hk => Kd.freshB hX.ht k_ hk)); (case aO => exact hX.oT); (case aS => exact below_size hX.bel); (case aL => have := LM.out; omega); intro v1 w8 ho hb hg hat; rw [← Ny.out] at ho; obtain ⟨AY, cY, eY⟩ := Kd.R_slice ho; subst eY; obtain ⟨B8, hX8⟩ := Bx_append hX ho hb hg; obtain ⟨q0, q1, q2⟩ := cells3 B8; have z0 := blk_frozen B8 0; have z1 := blk_frozen B8 1; have z2 := blk_frozen B8 2; clear ho hb hg hat) | (go_at_call 44; (with_reducible refine (impl_said.calls k _ _ y _ _ L _ _ C u2 u3 _ (Kd.R_reads' hX8.oT).2.2 (Kd.R_reads' hX8.oT).2.1 (Kd.R_reads' hX8.oL).2.2 (Kd.R_reads' hX8.oL).2.1 (Kd.R_reads' hX8.oC).2.2 (Kd.R_reads' hX8.oC).2.1 A85.out).mono ?_); rintro e w9 ⟨v0, v1, rfl, o0, o1, kf⟩; obtain ⟨AL', cL', eL⟩ := Kd.R_slice o0; subst eL; obtain ⟨AC', cC', eC⟩ := Kd.R_slice o1; subst eC; obtain ⟨hX9, hX⟩ := Bx_said hX8 kf o0 o1; obtain ⟨⟨q0, q1, q2⟩, ⟨t0, t1, t2⟩, s0, s1, s2⟩ := hX9.look; have z0 := blk_frozen hX9.hb 0; have z1 := blk_frozen hX9.hb 1; have z2 := blk_frozen hX9.hb 2; have z3 := blk_frozen hX9.hr 0; have z4 := blk_frozen hX9.hr 1; have z5 := blk_frozen hX9.hr 2; have nn := hX9.ne.2.1; have nm := Ne.symm hX9.ne.2.1; clear o0 o1 kf))
 refine bodyPost_ret (results_ct rfl _ _ gr 29 #[.slice AY y.length cY, (.slice AL' u2.length cL'), (.slice AC' u3.length cC')] (0, 0) _ rfl (Bx_end hX).1 Try.underlying29 rfl (by kernel_rfl)) rfl ?_
 exact ⟨_, _, _, rfl, (Bx_end hX).2.1, (Bx_end hX).2.2.1, (Bx_end hX).2.2.2.1, (Bx_end hX).2.2.2.2⟩
end Go.Proofs.Ytngnkfpciloamaa.MFnBooked
