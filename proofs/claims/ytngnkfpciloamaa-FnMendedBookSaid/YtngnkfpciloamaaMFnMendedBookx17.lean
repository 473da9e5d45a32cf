/- The functions that the law FnMendedBook reaches, as plain functions, and that the code comes to them. Begun as a text of the print over stubs; turned by wip/handstub.py and wip/mend.py. -/
import Derived.Test.YtngnkfpciloamaaShortFnMendedBook
import Derived.Test.YtngnkfpciloamaaHandBookFnMendedBook
import Derived.Test.YtngnkfpciloamaaMFnMendedBookx0
import Derived.Test.YtngnkfpciloamaaMFnMendedBookx6
import Derived.Test.YtngnkfpciloamaaMFnMendedBookx7
import Derived.Test.YtngnkfpciloamaaMFnMendedBookx8
import Derived.Test.YtngnkfpciloamaaMFnMendedBookx9
import Derived.Test.YtngnkfpciloamaaMFnMendedBookx11
namespace Go.Proofs.Ytngnkfpciloamaa.MFnMendedBook
open Go.RowKit Go.Proofs.YtngnkfpciloamaaW.PrintWords Go.Proofs.YtngnkfpciloamaaW.PrintLast Go.Proofs.YtngnkfpciloamaaW.PrintMore
attribute [local go_sem] max2_int min2_int max_two min_two max_three min_three max_four min_four   -- for this text's walks alone
set_option linter.unusedVariables false
set_option linter.unusedSimpArgs false

/-! ### spec_l1New: function 52 -/
def spec_l1New.l0 : Nat → List Int → Int → Int → Option (List Int × Int × Int)
 | 0, _, _, _ => none
 | k + 1, x0, x3, x4 => if x4 < (x0.length : Int) then (if x4 < 4000 then (if 0 ≤ x4 then (spec_l1New.l0 k x0 (Go.bits .and .i64 (wrap64 ((wrap64 ((wrap64 (x3 * 131)) + (wrap64 (rd x0 x4)))) + 7)) 1073741823) (wrap64 (x4 + 1))) else (none)) else (some (x0, 0, x3))) else (some (x0, 0, x3))
def spec_l1New.f (k : Nat) (l0 : List Int) : Option (List Int × Int × Int) := spec_l1New.l0 k l0 (wrap64 (71933 + (l0.length : Int))) 0
theorem spec_l1New.mono_l : ∀ k, (∀ y0 y1 y2, LeO (spec_l1New.l0 k y0 y1 y2) (spec_l1New.l0 (k + 1) y0 y1 y2))
 | 0 => fun _ _ _ r h => by simp [spec_l1New.l0] at h
 | k + 1 => by
  have ih0 := spec_l1New.mono_l k
  ·intro y0 y1 y2
   unfold spec_l1New.l0
   repeat' first
   | (with_reducible exact ih0 _ _ _)
   | (with_reducible exact LeO.refl _)
   | (with_reducible exact LeO.none _)
   | (with_reducible refine LeO.ite ?_ ?_)
   | (with_reducible refine LeO.bind ?_ (fun _ => ?_))
   | exact ih0 _ _ _
   | exact LeO.none _
   | refine LeO.ite ?_ ?_
   | refine LeO.bind ?_ (fun _ => ?_)
theorem spec_l1New.mono : ∀ a0 k, LeO (spec_l1New.f k a0) (spec_l1New.f (k + 1) a0) := by
 intro a0 k
 have ih0 := spec_l1New.mono_l k
 unfold spec_l1New.f
 repeat' first
   | (with_reducible exact ih0 _ _ _)
   | (with_reducible exact LeO.refl _)
   | (with_reducible exact LeO.none _)
   | (with_reducible refine LeO.ite ?_ ?_)
   | (with_reducible refine LeO.bind ?_ (fun _ => ?_))
   | exact ih0 _ _ _
   | exact LeO.none _
   | refine LeO.ite ?_ ?_
   | refine LeO.bind ?_ (fun _ => ?_)
set_option maxHeartbeats 8000000 in
set_option maxRecDepth 100000 in
theorem spec_l1New.calls (k : Nat) (A0 : Option Addr) (c0 : Nat) (l0 : List Int) (r1 : List Int) (r2 : Int) (r3 : Int) (w0 w : World) (hB : Below w0.heap.size w0 w) (hr0 : Kd.C (Kd.int .u8) w0 A0 l0.length l0) (hc0 : l0.length ≤ c0) (h : spec_l1New.f k l0 = some (r1, r2, r3)) :
  Calls Try.prog 52 #[.slice A0 l0.length c0] w fun e w' => ∃ g_ : Nat, e = .returned (.pointer (some ⟨g_, 0, none⟩)) ∧ IsS87 w0 w' g_ r1 r2 r3 ∧ Below w0.heap.size w0 w' ∧ Below w.heap.size w w' := by
 have hu87 := Try.underlying87
 have HR0 := Aside0.mk hr0
 have HC0 := Aside0.mk hc0
 clear hr0 hc0
 have HBW := Aside0.mk (Below.refl w.heap.size w)
 have HW0 := Aside0.mk hB.size
 have HB := Aside0.mk hB
 clear hB
 have H : (spec_l1New.l0 k l0 (wrap64 (71933 + (l0.length : Int))) 0) = some (r1, r2, r3) := h
 clear h
 have H' := Aside0.mk H
 clear H
 go_enter Try.func52, Try.ntmps52
 go_wp2
 go_loopg [3, 4] k (fun kq v3 v4 w' => ∃ (x3_1 : Int) (x4_1 : Int), v3 = .int .i64 x3_1 ∧ v4 = .int .i64 x4_1 ∧ Aside0 (spec_l1New.l0 kq l0 x3_1 x4_1 = some (r1, r2, r3)) ∧ Aside0 (kq ≤ k) ∧ Aside0 (Below w0.heap.size w0 w') ∧ Aside0 (Below w.heap.size w w'))
 case atStart => exact ⟨(wrap64 (71933 + (l0.length : Int))), (0), rs, rs, H', ⟨Nat.le_refl _⟩, ⟨hA HB.out⟩, ⟨by repeat (first | (with_reducible first | exact HBW.out | apply below_alloc | apply pw_below_drewN | apply below_drew1) | exact HBW.out)⟩⟩
 case round =>
  clear H'
  obtain ⟨x3_1, x4_1, rfl, rfl, HA, HK1, HB, HBW⟩ := hrel
  cases gk with
  | zero => exact absurd HA.out (by simp [spec_l1New.l0])
  | succ k1 =>
   have H := HA.out
   clear HA
   simp only [spec_l1New.l0] at H
   by_cases c2 : x4_1 < (l0.length : Int)
   ·rw [if_pos c2] at H
    have c2b0 : decide (x4_1 < (l0.length : Int)) = true := decide_eq_true c2
    clear c2
    by_cases c3 : x4_1 < 4000
    ·rw [if_pos c3] at H
     have c3b0 : decide (x4_1 < 4000) = true := decide_eq_true c3
     clear c3
     by_cases c4 : 0 ≤ x4_1
     ·rw [if_pos c4] at H
      have c4b0 : decide (0 ≤ x4_1) = true := decide_eq_true c4
      clear c4
      have H' := Aside0.mk H
      clear H
      have p512 : 0 ≤ (x4_1 : Int) := of_decide_eq_true sm
      have q512 : x4_1 < (l0.length : Int) := of_decide_eq_true sm
      obtain ⟨ad512, e512, hx512_0⟩ := Kd.at_int HR0.out x4_1 p512 q512
      cases e512
      replace hx512_0 := pw_cell_below HB.out hx512_0
      replace p512 := eq_true p512
      replace q512 := eq_true q512
      go_wp2
      go_roundg k1
      case measure => have := HK1.out; omega
      case rel => exact ⟨(Go.bits .and .i64 (wrap64 ((wrap64 ((wrap64 (x3_1 * 131)) + (wrap64 (rd l0 x4_1)))) + 7)) 1073741823), (wrap64 (x4_1 + 1)), rs, rs, H', ⟨by have := HK1.out; omega⟩, ⟨hA HB.out⟩, ⟨by repeat (first | (with_reducible first | exact HBW.out | apply below_alloc | apply pw_below_drewN | apply below_drew1) | exact HBW.out)⟩⟩
     ·rw [if_neg c4] at H
      exact absurd H (by simp)
    ·rw [if_neg c3] at H
     have c3b0 : decide (x4_1 < 4000) = false := decide_eq_false c3
     clear c3
     simp only [Option.some.injEq, Prod.mk.injEq] at H
     obtain ⟨rfl, rfl, rfl⟩ := H
     go_wp2_with (first | ((with_reducible refine gate_dst (N := 31) rfl ?_); refine box_event ?hg (N := 31) ?hd (cs := #[.slice A0 l0.length c0, .int .i64 0, .int .i64 x3_1]) (t := 87) ?hr ?_; (case hd => rfl); (case hg => rfl); (case hr => first | (go_simp; done) | (go_simp; rfl)); intro gb513 hg w5 hbox hb; have n0_ := Aside0.mk (below_step HBW.out hb); have n1_ := Aside0.mk (below_step (hA HB.out) hb); have n2_ := Aside0.mk (hbox); have n3_ := Aside0.mk ((by rw [hg]; exact (below_size (by repeat (first | (with_reducible first | exact HBW.out | apply below_alloc | apply pw_below_drewN | apply below_drew1) | exact HBW.out))) : w.heap.size ≤ gb513)); have n4_ := Aside0.mk ((Nat.le_trans HW0.out (by rw [hg]; exact (below_size (by repeat (first | (with_reducible first | exact HBW.out | apply below_alloc | apply pw_below_drewN | apply below_drew1) | exact HBW.out))) : w.heap.size ≤ gb513) : w0.heap.size ≤ gb513)); clear HBW; clear HB; have HBW := n0_; have HB := n1_; have BK513 := n2_; have GW513 := n3_; have GE513 := n4_; clear n0_ n1_ n2_ n3_ n4_; clear hb hbox hg))
     go_ret
     exact ⟨_, rfl, (show IsS87 w0 _ gb513 l0 0 x3_1 from ⟨_, _, by refine bC (a := ?_); exact BK513.out, GE513.out, HR0.out⟩), by repeat (first | (with_reducible first | exact HB.out | apply below_alloc | apply pw_below_drewN | apply below_drew1 | refine below_set ?_ GE513.out) | exact HB.out), by repeat (first | (with_reducible first | exact HBW.out | apply below_alloc | apply pw_below_drewN | apply below_drew1 | refine below_set ?_ GW513.out) | exact HBW.out)⟩
   ·rw [if_neg c2] at H
    have c2b0 : decide (x4_1 < (l0.length : Int)) = false := decide_eq_false c2
    clear c2
    simp only [Option.some.injEq, Prod.mk.injEq] at H
    obtain ⟨rfl, rfl, rfl⟩ := H
    go_wp2_with (first | ((with_reducible refine gate_dst (N := 31) rfl ?_); refine box_event ?hg (N := 31) ?hd (cs := #[.slice A0 l0.length c0, .int .i64 0, .int .i64 x3_1]) (t := 87) ?hr ?_; (case hd => rfl); (case hg => rfl); (case hr => first | (go_simp; done) | (go_simp; rfl)); intro gb514 hg w6 hbox hb; have n0_ := Aside0.mk (below_step HBW.out hb); have n1_ := Aside0.mk (below_step (hA HB.out) hb); have n2_ := Aside0.mk (hbox); have n3_ := Aside0.mk ((by rw [hg]; exact (below_size (by repeat (first | (with_reducible first | exact HBW.out | apply below_alloc | apply pw_below_drewN | apply below_drew1) | exact HBW.out))) : w.heap.size ≤ gb514)); have n4_ := Aside0.mk ((Nat.le_trans HW0.out (by rw [hg]; exact (below_size (by repeat (first | (with_reducible first | exact HBW.out | apply below_alloc | apply pw_below_drewN | apply below_drew1) | exact HBW.out))) : w.heap.size ≤ gb514) : w0.heap.size ≤ gb514)); clear HBW; clear HB; have HBW := n0_; have HB := n1_; have BK514 := n2_; have GW514 := n3_; have GE514 := n4_; clear n0_ n1_ n2_ n3_ n4_; clear hb hbox hg))
    go_ret
    exact ⟨_, rfl, (show IsS87 w0 _ gb514 l0 0 x3_1 from ⟨_, _, by refine bC (a := ?_); exact BK514.out, GE514.out, HR0.out⟩), by repeat (first | (with_reducible first | exact HB.out | apply below_alloc | apply pw_below_drewN | apply below_drew1 | refine below_set ?_ GE514.out) | exact HB.out), by repeat (first | (with_reducible first | exact HBW.out | apply below_alloc | apply pw_below_drewN | apply below_drew1 | refine below_set ?_ GW514.out) | exact HBW.out)⟩

/-! ### laws_sameInts: function 26 -/
def laws_sameInts.l0 : Nat → List Int → List Int → Int → Option (Bool)
 | 0, _, _, _ => none
 | k + 1, x0, x1, x5 => if x5 < (x0.length : Int) then (if 0 ≤ x5 then (if x5 < (x1.length : Int) then (if (rd x0 x5) = (rd x1 x5) then (laws_sameInts.l0 k x0 x1 (wrap64 (x5 + 1))) else (some false)) else (none)) else (none)) else (some true)
def laws_sameInts.f (k : Nat) (l0 : List Int) (l1 : List Int) : Option (Bool) := if (l0.length : Int) = (l1.length : Int) then (laws_sameInts.l0 k l0 l1 0) else (some false)
theorem laws_sameInts.mono_l : ∀ k, (∀ y0 y1 y2, LeO (laws_sameInts.l0 k y0 y1 y2) (laws_sameInts.l0 (k + 1) y0 y1 y2))
 | 0 => fun _ _ _ r h => by simp [laws_sameInts.l0] at h
 | k + 1 => by
  have ih0 := laws_sameInts.mono_l k
  ·intro y0 y1 y2
   unfold laws_sameInts.l0
   repeat' first
   | (with_reducible exact ih0 _ _ _)
   | (with_reducible exact LeO.refl _)
   | (with_reducible exact LeO.none _)
   | (with_reducible refine LeO.ite ?_ ?_)
   | (with_reducible refine LeO.bind ?_ (fun _ => ?_))
   | exact ih0 _ _ _
   | exact LeO.none _
   | refine LeO.ite ?_ ?_
   | refine LeO.bind ?_ (fun _ => ?_)
theorem laws_sameInts.mono : ∀ a0 a1 k, LeO (laws_sameInts.f k a0 a1) (laws_sameInts.f (k + 1) a0 a1) := by
 intro a0 a1 k
 have ih0 := laws_sameInts.mono_l k
 unfold laws_sameInts.f
 repeat' first
   | (with_reducible exact ih0 _ _ _)
   | (with_reducible exact LeO.refl _)
   | (with_reducible exact LeO.none _)
   | (with_reducible refine LeO.ite ?_ ?_)
   | (with_reducible refine LeO.bind ?_ (fun _ => ?_))
   | exact ih0 _ _ _
   | exact LeO.none _
   | refine LeO.ite ?_ ?_
   | refine LeO.bind ?_ (fun _ => ?_)
set_option maxHeartbeats 8000000 in
set_option maxRecDepth 100000 in
theorem laws_sameInts.calls (k : Nat) (A0 : Option Addr) (c0 : Nat) (l0 : List Int) (A1 : Option Addr) (c1 : Nat) (l1 : List Int) (r : Bool) (w : World) (hr0 : Kd.C (Kd.int .i64) w A0 l0.length l0) (hc0 : l0.length ≤ c0) (hr1 : Kd.C (Kd.int .i64) w A1 l1.length l1) (hc1 : l1.length ≤ c1) (h : laws_sameInts.f k l0 l1 = some r) :
  Calls Try.prog 26 #[.slice A0 l0.length c0, .slice A1 l1.length c1] w fun e w' => e = .returned (.bool r) ∧ Drawn0 w w' := by
 have HR0 := Aside0.mk hr0
 have HC0 := Aside0.mk hc0
 clear hr0 hc0
 have HR1 := Aside0.mk hr1
 have HC1 := Aside0.mk hc1
 clear hr1 hc1
 have H : (if (l0.length : Int) = (l1.length : Int) then (laws_sameInts.l0 k l0 l1 0) else (some false)) = some r := h
 clear h
 by_cases c3 : (l0.length : Int) = (l1.length : Int)
 ·rw [if_pos c3] at H
  have c3b0 : ((l0.length : Int) == (l1.length : Int)) = true := beq_iff_eq.mpr c3
  have c3b1 : ((l0.length : Int) != (l1.length : Int)) = false := bne_eq_false_iff_eq.mpr c3
  have c3b2 : (l0.length == l1.length) = true := by first | simpa using c3 | (simp at c3 ⊢; omega)
  clear c3
  have H' := Aside0.mk H
  clear H
  go_enter Try.func26, Try.ntmps26
  go_wp2
  repeat (go_quiet (fail); try go_wp2)
  go_loopg [5] k (fun kq v5 w' => ∃ (x5_1 : Int), v5 = .int .i64 x5_1 ∧ Aside0 (laws_sameInts.l0 kq l0 l1 x5_1 = some r) ∧ Aside0 (kq ≤ k) ∧ Drawn0 w w')
  case atStart => exact ⟨(0), rs, H', ⟨Nat.le_refl _⟩, by repeat (first | exact Drawn0.refl _ | apply Drawn0.step)⟩
  case round =>
   clear H'
   (try clear c1); (try clear c2); (try clear p2); (try clear c3); (try clear c3b0); (try clear c3b1); (try clear c3b2)
   obtain ⟨x5_1, rfl, HA, HK1, ⟨m1, rfl⟩⟩ := hrel
   cases gk with
   | zero => exact absurd HA.out (by simp [laws_sameInts.l0])
   | succ k1 =>
    have H := HA.out
    clear HA
    simp only [laws_sameInts.l0] at H
    by_cases c4 : x5_1 < (l0.length : Int)
    ·rw [if_pos c4] at H
     have c4b0 : decide (x5_1 < (l0.length : Int)) = true := decide_eq_true c4
     clear c4
     by_cases c5 : 0 ≤ x5_1
     ·rw [if_pos c5] at H
      have c5b0 : decide (0 ≤ x5_1) = true := decide_eq_true c5
      clear c5
      by_cases c6 : x5_1 < (l1.length : Int)
      ·rw [if_pos c6] at H
       have c6b0 : decide (x5_1 < (l1.length : Int)) = true := decide_eq_true c6
       clear c6
       by_cases c7 : (rd l0 x5_1) = (rd l1 x5_1)
       ·rw [if_pos c7] at H
        have c7b0 : ((rd l0 x5_1) == (rd l1 x5_1)) = true := beq_iff_eq.mpr c7
        have c7b1 : ((rd l0 x5_1) != (rd l1 x5_1)) = false := bne_eq_false_iff_eq.mpr c7
        clear c7
        have H' := Aside0.mk H
        clear H
        have p531 : 0 ≤ (x5_1 : Int) := of_decide_eq_true sm
        have q531 : x5_1 < (l0.length : Int) := of_decide_eq_true sm
        obtain ⟨ad531, e531, hx531_0⟩ := Kd.at_int HR0.out x5_1 p531 q531
        cases e531
        replace p531 := eq_true p531
        replace q531 := eq_true q531
        have p532 : 0 ≤ (x5_1 : Int) := of_decide_eq_true sm
        have q532 : x5_1 < (l1.length : Int) := of_decide_eq_true sm
        obtain ⟨ad532, e532, hx532_0⟩ := Kd.at_int HR1.out x5_1 p532 q532
        cases e532
        replace p532 := eq_true p532
        replace q532 := eq_true q532
        go_wp2
        repeat (go_quiet (fail); try go_wp2)
        go_roundg k1
        case measure => have := HK1.out; omega
        case rel => exact ⟨(wrap64 (x5_1 + 1)), rs, H', ⟨by have := HK1.out; omega⟩, by repeat (first | exact Drawn0.refl _ | apply Drawn0.step)⟩
       ·rw [if_neg c7] at H
        have c7b0 : ((rd l0 x5_1) == (rd l1 x5_1)) = false := beq_eq_false_iff_ne.mpr c7
        have c7b1 : ((rd l0 x5_1) != (rd l1 x5_1)) = true := bne_iff_ne.mpr c7
        obtain rfl := Option.some.inj H
        have p531 : 0 ≤ (x5_1 : Int) := of_decide_eq_true sm
        have q531 : x5_1 < (l0.length : Int) := of_decide_eq_true sm
        obtain ⟨ad531, e531, hx531_0⟩ := Kd.at_int HR0.out x5_1 p531 q531
        cases e531
        replace p531 := eq_true p531
        replace q531 := eq_true q531
        have p532 : 0 ≤ (x5_1 : Int) := of_decide_eq_true sm
        have q532 : x5_1 < (l1.length : Int) := of_decide_eq_true sm
        obtain ⟨ad532, e532, hx532_0⟩ := Kd.at_int HR1.out x5_1 p532 q532
        cases e532
        replace p532 := eq_true p532
        replace q532 := eq_true q532
        go_wp2
        repeat (go_quiet (fail); try go_wp2)
        go_ret
        exact ⟨rs, by repeat (first | exact Drawn0.refl _ | apply Drawn0.step)⟩
      ·rw [if_neg c6] at H
       exact absurd H (by simp)
     ·rw [if_neg c5] at H
      exact absurd H (by simp)
    ·rw [if_neg c4] at H
     have c4b0 : decide (x5_1 < (l0.length : Int)) = false := decide_eq_false c4
     clear c4
     obtain rfl := Option.some.inj H
     go_wp2
     repeat (go_quiet (fail); try go_wp2)
     go_ret
     exact ⟨rs, by repeat (first | exact Drawn0.refl _ | apply Drawn0.step)⟩
 ·rw [if_neg c3] at H
  have c3b0 : ((l0.length : Int) == (l1.length : Int)) = false := beq_eq_false_iff_ne.mpr c3
  have c3b1 : ((l0.length : Int) != (l1.length : Int)) = true := bne_iff_ne.mpr c3
  have c3b2 : (l0.length == l1.length) = false := by first | simpa using c3 | (simp at c3 ⊢; omega)
  obtain rfl := Option.some.inj H
  go_enter Try.func26, Try.ntmps26
  go_wp2
  repeat (go_quiet (fail); try go_wp2)
  go_ret
  exact ⟨rs, by repeat (first | exact Drawn0.refl _ | apply Drawn0.step)⟩

/-! ### impl_Talk_66: function 66 -/
def impl_Talk_66.f (l0 : List (S50)) : Option (List (S50)) := if l0.length ≤ 1048576 then some l0 else none
theorem impl_Talk_66.calls (A0 : Option Addr) (c0 : Nat) (l0 : List (S50)) (r : List (S50)) (w : World) (hr0 : Kd.C k50 w A0 l0.length l0) (hc0 : l0.length ≤ c0) (h : impl_Talk_66.f l0 = some r) :
  Calls Try.prog 66 #[.slice A0 l0.length c0] w fun e w' => ∃ v0_ : Value, e = .returned (v0_) ∧ Kd.R k50 50 w' w.heap.size (fun _ => True) v0_ r ∧ Below w.heap.size w w' := by
 unfold impl_Talk_66.f at h
 split at h
 ·obtain rfl := Option.some.inj h
  exact cloneT_calls A0 c0 _ w hr0 hc0 (by assumption)
 ·cases h

/-! ### impl_ownBook: function 55 -/
def impl_ownBook.f (k : Nat) (l0_0 : List (S50)) (l0_1 : List Int) (l0_2 : List Int) : Option ((List (S50)) × List Int × List Int) := (impl_Talk_66.f l0_0).bind fun t541 => ((slices_Clone_int_int.f k l0_1).bind fun t544 => ((slices_Clone_int_int.f k l0_2).bind fun t547 => (some (t541, t544, t547))))
theorem impl_ownBook.mono : ∀ a0 a1 a2 k, LeO (impl_ownBook.f k a0 a1 a2) (impl_ownBook.f (k + 1) a0 a1 a2) := by
 intro a0 a1 a2 k
 unfold impl_ownBook.f
 repeat' first
   | (with_reducible exact slices_Clone_int_int.mono _ _)
   | (with_reducible exact LeO.refl _)
   | (with_reducible exact LeO.none _)
   | (with_reducible refine LeO.ite ?_ ?_)
   | (with_reducible refine LeO.bind ?_ (fun _ => ?_))
   | exact slices_Clone_int_int.mono _ _
   | exact LeO.none _
   | refine LeO.ite ?_ ?_
   | refine LeO.bind ?_ (fun _ => ?_)
def impl_ownBook.T1 : Bool × List (List Nat × List Nat) := (true, [([], []), ([0], [0]), ([1], [1]), ([], []), ([3], [3]), ([4, 2], [4]), ([], []), ([6], [6]), ([7, 5], [7]), ([2, 5, 8], [2, 5, 8]), ([9, 8, 0, 1, 2, 3, 4, 5, 6, 7, 8, 9], [9])])
def impl_ownBook.B1 : List Nat := [0, 1, 3, 0, 8, 31, 0, 64, 255, 511, 1023]
theorem impl_ownBook.tab1 : rtab .any (opsOf Try.f55 1) = impl_ownBook.T1 := by kernel_rfl
theorem impl_ownBook.bits1 : waitsOk impl_ownBook.T1.2 impl_ownBook.B1 = true := by kernel_rfl
set_option maxHeartbeats 8000000 in
set_option maxRecDepth 100000 in
theorem impl_ownBook.calls (k : Nat) (A0_0 : Option Addr) (c0_0 : Nat) (l0_0 : List (S50)) (A0_1 : Option Addr) (c0_1 : Nat) (l0_1 : List Int) (A0_2 : Option Addr) (c0_2 : Nat) (l0_2 : List Int) (r1 : List (S50)) (r2 : List Int) (r3 : List Int) (w : World) (hr0_0 : Kd.C k50 w A0_0 l0_0.length l0_0) (hc0_0 : l0_0.length ≤ c0_0) (hr0_1 : Kd.C (Kd.int .i64) w A0_1 l0_1.length l0_1) (hc0_1 : l0_1.length ≤ c0_1) (hr0_2 : Kd.C (Kd.int .i64) w A0_2 l0_2.length l0_2) (hc0_2 : l0_2.length ≤ c0_2) (h : impl_ownBook.f k l0_0 l0_1 l0_2 = some (r1, r2, r3)) :
  Calls Try.prog 55 #[.agg #[.slice A0_0 l0_0.length c0_0, .slice A0_1 l0_1.length c0_1, .slice A0_2 l0_2.length c0_2]] w fun e w' => ∃ v0_ v1_ v2_ : Value, e = .returned (.agg #[v0_, v1_, v2_]) ∧ Kd.R k50 50 w' w.heap.size (fun _ => True) v0_ r1 ∧ Kd.R (Kd.int .i64) 3 w' w.heap.size (fun k_ => some k_ ≠ (v2_ : Value).ownBlock) v1_ r2 ∧ Kd.R (Kd.int .i64) 3 w' w.heap.size (fun k_ => some k_ ≠ (v1_ : Value).ownBlock) v2_ r3 ∧ Below w.heap.size w w' := by
 have hu29 := Try.underlying29
 have HR0_0 := Aside0.mk hr0_0
 have HC0_0 := Aside0.mk hc0_0
 clear hr0_0 hc0_0
 have HR0_1 := Aside0.mk hr0_1
 have HC0_1 := Aside0.mk hc0_1
 clear hr0_1 hc0_1
 have HR0_2 := Aside0.mk hr0_2
 have HC0_2 := Aside0.mk hc0_2
 clear hr0_2 hc0_2
 have HB := Aside0.mk (Below.refl w.heap.size w)
 have H : ((impl_Talk_66.f l0_0).bind fun t541 => ((slices_Clone_int_int.f k l0_1).bind fun t544 => ((slices_Clone_int_int.f k l0_2).bind fun t547 => (some (t541, t544, t547))))) = some (r1, r2, r3) := h
 clear h
 replace H := Option.bind_eq_some_iff.mp H
 obtain ⟨t541, A20, H⟩ := H
 replace H : ((slices_Clone_int_int.f k l0_1).bind fun t544 => ((slices_Clone_int_int.f k l0_2).bind fun t547 => (some (t541, t544, t547)))) = some (r1, r2, r3) := H
 have A2 := Aside0.mk A20
 clear A20
 replace H := Option.bind_eq_some_iff.mp H
 obtain ⟨t544, A30, H⟩ := H
 replace H : ((slices_Clone_int_int.f k l0_2).bind fun t547 => (some (t541, t544, t547))) = some (r1, r2, r3) := H
 have A3 := Aside0.mk A30
 clear A30
 replace H := Option.bind_eq_some_iff.mp H
 obtain ⟨t547, A40, H⟩ := H
 replace H : (some (t541, t544, t547)) = some (r1, r2, r3) := H
 have A4 := Aside0.mk A40
 clear A40
 simp only [Option.some.injEq, Prod.mk.injEq] at H
 obtain ⟨rfl, rfl, rfl⟩ := H
 go_enter Try.func55, Try.ntmps55
 try go_wp2_with (first | ((with_reducible refine gate_dst (N := 1) rfl ?_); refine box_event ?hg (N := 1) ?hd (cs := #[.slice A0_0 l0_0.length c0_0, .slice A0_1 l0_1.length c0_1, .slice A0_2 l0_2.length c0_2]) (t := 29) ?hr ?_; (case hd => rfl); (case hg => rfl); (case hr => first | (go_simp; done) | (go_simp; rfl)); intro gb539 hg w5 hbox hb; have n0_ := Aside0.mk (below_step (hA HB.out) hb); have n1_ := Aside0.mk (hbox); have n2_ := Aside0.mk ((by rw [hg]; exact (below_size (hA HB.out)) : w.heap.size ≤ gb539)); have n3_ := Aside0.mk ((by rw [hg]; exact (below_size (hA HB.out)) : w.heap.size ≤ gb539)); clear HB; have HB := n0_; have BK539 := n1_; have GW539 := n2_; have GE539 := n3_; clear n0_ n1_ n2_ n3_; clear hb hbox hg) | ((with_reducible refine gate_dst (N := 2) rfl ?_); refine box_event ?hg (N := 2) ?hd (cs := #[.slice none 0 0, .slice none 0 0, .slice none 0 0]) (t := 29) ?hr ?_; (case hd => rfl); (case hg => rfl); (case hr => first | (go_simp; done) | (go_simp; rfl)); intro gb540 hg w6 hbox hb; have n0_ := Aside0.mk (bB BK539.out hb); have n1_ := Aside0.mk (below_step (hA HB.out) hb); have n2_ := Aside0.mk (hbox); have n3_ := Aside0.mk ((by rw [hg]; exact (below_size (hA HB.out)) : w.heap.size ≤ gb540)); have n4_ := Aside0.mk ((by rw [hg]; exact (below_size (hA HB.out)) : w.heap.size ≤ gb540)); have n5_ := Aside0.mk ((by rw [hg]; exact Nat.ne_of_lt (blk_lt (g := gb539) (o := .cells #[.slice A0_0 l0_0.length c0_0, .slice A0_1 l0_1.length c0_1, .slice A0_2 l0_2.length c0_2] 29 (0, 0)) (bA BK539.out)) : gb539 ≠ gb540)); have n6_ := Aside0.mk ((by rw [hg]; exact Nat.ne_of_gt (blk_lt (g := gb539) (o := .cells #[.slice A0_0 l0_0.length c0_0, .slice A0_1 l0_1.length c0_1, .slice A0_2 l0_2.length c0_2] 29 (0, 0)) (bA BK539.out)) : gb540 ≠ gb539)); clear BK539; clear HB; have BK539 := n0_; have HB := n1_; have BK540 := n2_; have GW540 := n3_; have GE540 := n4_; have NB539_540 := n5_; have NB540_539 := n6_; clear n0_ n1_ n2_ n3_ n4_ n5_ n6_; clear hb hbox hg))
 have n0_ := Aside0.mk (blk_drew BK539.out)
 have n1_ := Aside0.mk (blk_drew BK540.out)
 have n2_ := Aside0.mk (below_drew1 HB.out)
 clear BK539
 clear BK540
 clear HB
 have BK539 := n0_
 have BK540 := n1_
 have HB := n2_
 clear n0_ n1_ n2_
 refine start_ (n := 11) (S := fun w' => w'.cell? ⟨gb539, 0, none⟩ = some (.slice A0_0 l0_0.length c0_0) ∧ w'.cell? ⟨gb539, 1, none⟩ = some (.slice A0_1 l0_1.length c0_1) ∧ w'.cell? ⟨gb539, 2, none⟩ = some (.slice A0_2 l0_2.length c0_2)) (ds := []) #[false, false, false, false, false, false, false, false, false, false, false] (by kernel_rfl) rfl rfl ⟨(blk_cell BK539.out 0).trans rfl, (blk_cell BK539.out 1).trans rfl, (blk_cell BK539.out 2).trans rfl⟩ (fun hHeld => ?_); refine with_tabW impl_ownBook.tab1 impl_ownBook.bits1 (fun HT_ HW_ => ?_)
 generalize w6.drew = w7 at BK539 BK540 HB hHeld ⊢
 refine pure_ (i := 0) (N := some 3) (v := ?_) (a' := ?_) #[true, false, false, false, false, false, false, false, false, false, false] rfl rfl (any_of HT_.out (by kernel_rfl)) (fun _ _ _ h => h) (Or.inl ⟨by rfl, ?_⟩) ?_ ?_
 rotate_left
 ·intro w'
  go_simp
  with_reducible rfl
 rotate_left
 ·simp only [Act.put, List.setIfInBounds_toArray, List.set_cons_zero, List.set_cons_succ, i64_w, i32_w]
  rfl
 refine pure_ (i := 3) (N := some 6) (v := ?_) (a' := ?_) #[true, false, false, true, false, false, false, false, false, false, false] rfl rfl (any_of HT_.out (by kernel_rfl)) (fun _ _ _ h => h) (Or.inl ⟨by rfl, ?_⟩) ?_ ?_
 rotate_left
 ·intro w'
  go_simp
  with_reducible rfl
 rotate_left
 ·simp only [Act.put, List.setIfInBounds_toArray, List.set_cons_zero, List.set_cons_succ, i64_w, i32_w]
  rfl
 refine pure_ (i := 6) (N := some 9) (v := ?_) (a' := ?_) #[true, false, false, true, false, false, true, false, false, false, false] rfl rfl (any_of HT_.out (by kernel_rfl)) (fun _ _ _ h => h) (Or.inl ⟨by rfl, ?_⟩) ?_ ?_
 rotate_left
 ·intro w'
  go_simp
  with_reducible rfl
 rotate_left
 ·simp only [Act.put, List.setIfInBounds_toArray, List.set_cons_zero, List.set_cons_succ, i64_w, i32_w]
  rfl
 refine take_ (i := 1) (N := some 4) (v := ?_) (a' := ?_) #[true, true, false, true, false, false, true, false, false, false, false] rfl rfl (take_ofW HT_.out HW_.out (by kernel_rfl)) (fun _ _ _ h => h) (Or.inl ⟨by rfl, ?_⟩) hHeld ?_ ?_
 rotate_left
 ·rintro w' ⟨s0, s1, s2⟩
  go_simp
  with_reducible rfl
 rotate_left
 ·simp only [Act.put, List.setIfInBounds_toArray, List.set_cons_zero, List.set_cons_succ, i64_w, i32_w]
  rfl
 refine take_ (i := 4) (N := some 7) (v := ?_) (a' := ?_) #[true, true, false, true, true, false, true, false, false, false, false] rfl rfl (take_ofW HT_.out HW_.out (by kernel_rfl)) (fun _ _ _ h => h) (Or.inl ⟨by rfl, ?_⟩) hHeld ?_ ?_
 rotate_left
 ·rintro w' ⟨s0, s1, s2⟩
  go_simp
  with_reducible rfl
 rotate_left
 ·simp only [Act.put, List.setIfInBounds_toArray, List.set_cons_zero, List.set_cons_succ, i64_w, i32_w]
  rfl
 refine take_ (i := 7) (N := some 10) (v := ?_) (a' := ?_) #[true, true, false, true, true, false, true, true, false, false, false] rfl rfl (take_ofW HT_.out HW_.out (by kernel_rfl)) (fun _ _ _ h => h) (Or.inl ⟨by rfl, ?_⟩) hHeld ?_ ?_
 rotate_left
 ·rintro w' ⟨s0, s1, s2⟩
  go_simp
  with_reducible rfl
 rotate_left
 ·simp only [Act.put, List.setIfInBounds_toArray, List.set_cons_zero, List.set_cons_succ, i64_w, i32_w]
  rfl
 refine one_ (i := 2) (N := some 5) #[true, true, true, true, true, false, true, true, false, false, false] rfl rfl (one_of HT_.out (by kernel_rfl)) (by decide) (fun K hK => ?_)
 refine goes_ Try.func66 (by kernel_rfl) rfl #[.slice A0_0 l0_0.length c0_0] (by rfl) rfl rfl ar ?_
 with_reducible refine (impl_Talk_66.calls _ _ l0_0 t541 _ ?side1 ?side2 A2.out).mono ?_
 (case side1 => exact cA (Kd.C_below HR0_0.out HB.out))
 (case side2 => exact HC0_0.out)
 rintro e w8 ⟨v542, rfl, ho0, hb⟩
 refine ⟨_, rfl, ?_⟩
 have n0_ := Aside0.mk (Kd.R_lower ho0 (below_size (hA HB.out)))
 have n1_ := Aside0.mk (bB BK539.out hb)
 have n2_ := Aside0.mk (bB BK540.out hb)
 have n3_ := Aside0.mk (below_step (hA HB.out) hb)
 clear BK539
 clear BK540
 clear HB
 have HO543 := n0_
 have BK539 := n1_
 have BK540 := n2_
 have HB := n3_
 clear n0_ n1_ n2_ n3_
 (try clear hb); (try clear hb2); (try clear hk); (try clear hi); (try clear ho0)
 refine hK.out _ _ ⟨(blk_cell BK539.out 0).trans rfl, (blk_cell BK539.out 1).trans rfl, (blk_cell BK539.out 2).trans rfl⟩ (fun hHeld => ?_)
 clear hK K
 refine norm_ (a' := ?_) ?_ ?_
 rotate_left
 ·show Act.put _ (some 5) _ = _
  simp only [Act.put, List.setIfInBounds_toArray, List.set_cons_zero, List.set_cons_succ, i64_w, i32_w]
  rfl
 refine one_ (i := 5) (N := some 8) #[true, true, true, true, true, true, true, true, false, false, false] rfl rfl (one_of HT_.out (by kernel_rfl)) (by decide) (fun K hK => ?_)
 refine goes_ Try.func41 (by kernel_rfl) rfl #[.slice A0_1 l0_1.length c0_1] (by rfl) rfl rfl ar ?_
 with_reducible refine (slices_Clone_int_int.calls k _ _ l0_1 t544 _ ?side1 ?side2 A3.out).mono ?_
 (case side1 => exact cA (Kd.C_below HR0_1.out HB.out))
 (case side2 => exact HC0_1.out)
 rintro e w9 ⟨v545, rfl, ho0, hb⟩
 refine ⟨_, rfl, ?_⟩
 have n0_ := Aside0.mk (Kd.R_below (rA HO543.out) hb)
 have n1_ := Aside0.mk (Kd.R_lower ho0 (below_size (hA HB.out)))
 have n2_ := Aside0.mk (bB BK539.out hb)
 have n3_ := Aside0.mk (bB BK540.out hb)
 have n4_ := Aside0.mk (below_step (hA HB.out) hb)
 clear HO543
 clear BK539
 clear BK540
 clear HB
 have HO543 := n0_
 have HO546 := n1_
 have BK539 := n2_
 have BK540 := n3_
 have HB := n4_
 clear n0_ n1_ n2_ n3_ n4_
 (try clear hb); (try clear hb2); (try clear hk); (try clear hi); (try clear ho0)
 refine hK.out _ _ ⟨(blk_cell BK539.out 0).trans rfl, (blk_cell BK539.out 1).trans rfl, (blk_cell BK539.out 2).trans rfl⟩ (fun hHeld => ?_)
 clear hK K
 refine norm_ (a' := ?_) ?_ ?_
 rotate_left
 ·show Act.put _ (some 8) _ = _
  simp only [Act.put, List.setIfInBounds_toArray, List.set_cons_zero, List.set_cons_succ, i64_w, i32_w]
  rfl
 refine one_ (i := 8) (N := some 11) #[true, true, true, true, true, true, true, true, true, false, false] rfl rfl (one_of HT_.out (by kernel_rfl)) (by decide) (fun K hK => ?_)
 refine goes_ Try.func41 (by kernel_rfl) rfl #[.slice A0_2 l0_2.length c0_2] (by rfl) rfl rfl ar ?_
 with_reducible refine (slices_Clone_int_int.calls k _ _ l0_2 t547 _ ?side1 ?side2 A4.out).mono ?_
 (case side1 => exact cA (Kd.C_below HR0_2.out HB.out))
 (case side2 => exact HC0_2.out)
 rintro e w10 ⟨v548, rfl, ho0, hb⟩
 refine ⟨_, rfl, ?_⟩
 have n0_ := Aside0.mk (Kd.R_below (rA HO543.out) hb)
 have n1_ := Aside0.mk (Kd.R_elder' (rA HO546.out) (Kd.R_base ho0) hb)
 have n2_ := Aside0.mk (Kd.R_lower (Kd.R_new' ho0 (Kd.R_lt (rA HO546.out))) (below_size (hA HB.out)))
 have n3_ := Aside0.mk (bB BK539.out hb)
 have n4_ := Aside0.mk (bB BK540.out hb)
 have n5_ := Aside0.mk (below_step (hA HB.out) hb)
 clear HO543
 clear HO546
 clear BK539
 clear BK540
 clear HB
 have HO543 := n0_
 have HO546 := n1_
 have HO549 := n2_
 have BK539 := n3_
 have BK540 := n4_
 have HB := n5_
 clear n0_ n1_ n2_ n3_ n4_ n5_
 (try clear hb); (try clear hb2); (try clear hk); (try clear hi); (try clear ho0)
 obtain ⟨Ao11, co11, eo11⟩ := Kd.R_slice HO549.out
 (first | subst eo11 | (injection eo11 with f1_ f2_ f3_; have f4_ := f1_.symm; have f5_ := f3_.symm; clear f1_ f2_ f3_; subst f4_; subst f5_))
 obtain ⟨Ao12, co12, eo12⟩ := Kd.R_slice HO546.out
 (first | subst eo12 | (injection eo12 with f1_ f2_ f3_; have f4_ := f1_.symm; have f5_ := f3_.symm; clear f1_ f2_ f3_; subst f4_; subst f5_))
 obtain ⟨Ao13, co13, eo13⟩ := Kd.R_slice HO543.out
 (first | subst eo13 | (injection eo13 with f1_ f2_ f3_; have f4_ := f1_.symm; have f5_ := f3_.symm; clear f1_ f2_ f3_; subst f4_; subst f5_))
 refine hK.out _ _ ⟨(blk_cell BK539.out 0).trans rfl, (blk_cell BK539.out 1).trans rfl, (blk_cell BK539.out 2).trans rfl⟩ (fun hHeld => ?_)
 clear hK K
 refine norm_ (a' := ?_) ?_ ?_
 rotate_left
 ·show Act.put _ (some 11) _ = _
  simp only [Act.put, List.setIfInBounds_toArray, List.set_cons_zero, List.set_cons_succ, i64_w, i32_w]
  rfl
 refine pure_ (i := 9) (N := some 12) (v := ?_) (a' := ?_) #[true, true, true, true, true, true, true, true, true, true, false] rfl rfl (any_of HT_.out (by kernel_rfl)) (fun _ _ _ h => h) (Or.inl ⟨by rfl, ?_⟩) ?_ ?_
 rotate_left
 ·intro w'
  go_simp
  with_reducible rfl
 rotate_left
 ·simp only [Act.put, List.setIfInBounds_toArray, List.set_cons_zero, List.set_cons_succ, i64_w, i32_w]
  rfl
 refine one_ (i := 10) (N := none) #[true, true, true, true, true, true, true, true, true, true, true] rfl rfl (one_of HT_.out (by kernel_rfl)) (by decide) (fun K hK => ?_)
 have hs14 : w10.cell? ⟨gb540, 0, none⟩ = some (.slice none 0 0) := (blk_cell BK540.out 0).trans rfl
 have hfs14 := blk_frozen BK540.out 0
 have hns14_0 := NB539_540.out
 have hms14_0 := NB540_539.out
 have hs15 : w10.cell? ⟨gb540, 1, none⟩ = some (.slice none 0 0) := (blk_cell BK540.out 1).trans rfl
 have hfs15 := blk_frozen BK540.out 1
 have hns15_0 := NB539_540.out
 have hms15_0 := NB540_539.out
 have hs16 : w10.cell? ⟨gb540, 2, none⟩ = some (.slice none 0 0) := (blk_cell BK540.out 2).trans rfl
 have hfs16 := blk_frozen BK540.out 2
 have hns16_0 := NB539_540.out
 have hms16_0 := NB540_539.out
 refine skip_ (w1 := ?_) (by rfl) rfl ?_ ?_
 rotate_left
 ·go_simp
  rfl
 refine hK.out _ _ ⟨((cell_far (p := ⟨gb540, _, none⟩) NB539_540.out _).trans (((cell_far (p := ⟨gb540, _, none⟩) NB539_540.out _).trans (((cell_far (p := ⟨gb540, _, none⟩) NB539_540.out _).trans (hHeld.1)))))), ((cell_far (p := ⟨gb540, _, none⟩) NB539_540.out _).trans (((cell_far (p := ⟨gb540, _, none⟩) NB539_540.out _).trans (((cell_far (p := ⟨gb540, _, none⟩) NB539_540.out _).trans (hHeld.2.1)))))), ((cell_far (p := ⟨gb540, _, none⟩) NB539_540.out _).trans (((cell_far (p := ⟨gb540, _, none⟩) NB539_540.out _).trans (((cell_far (p := ⟨gb540, _, none⟩) NB539_540.out _).trans (hHeld.2.2))))))⟩ (fun hHeld => ?_)
 clear hK K
 refine done_ (done_of HT_.out (by kernel_rfl)) ?_
 try go_wp2
 refine bodyPost_ret (results_cell_row rfl _ _ gb540 29 #[.slice Ao13 t541.length co13, .slice Ao12 t544.length co12, .slice Ao11 t547.length co11] (0, 0) _ rfl (by refine bC (a := ?_); refine blk_put (cs := #[.slice Ao13 t541.length co13, .slice Ao12 t544.length co12, .slice none 0 0]) ?_ 2 _ rfl; refine bC (a := ?_); refine blk_put (cs := #[.slice Ao13 t541.length co13, .slice none 0 0, .slice none 0 0]) ?_ 1 _ rfl; refine bC (a := ?_); refine blk_put (cs := #[.slice none 0 0, .slice none 0 0, .slice none 0 0]) ?_ 0 _ rfl; refine bC (a := ?_); exact BK540.out) Try.underlying29 rfl (by kernel_rfl)) rfl ?_
 exact ⟨_, _, _, er, by refine rC (a := ?_); exact Kd.R_mono (Kd.R_far (p := ⟨gb540, 2, none⟩) (Kd.R_far (p := ⟨gb540, 1, none⟩) (Kd.R_far (p := ⟨gb540, 0, none⟩) (Kd.R_types HO543.out BK540.out (by decide)) (fun _ hk => hk.2) (.slice Ao13 t541.length co13)) (fun _ hk => hk.2) (.slice Ao12 t544.length co12)) (fun _ hk => hk.2) (.slice Ao11 t547.length co11)) (fun _ hk => trivial), by refine rC (a := ?_); exact Kd.R_mono (Kd.R_far (p := ⟨gb540, 2, none⟩) (Kd.R_far (p := ⟨gb540, 1, none⟩) (Kd.R_far (p := ⟨gb540, 0, none⟩) (Kd.R_types HO546.out BK540.out (by decide)) (fun _ hk => hk.2) (.slice Ao13 t541.length co13)) (fun _ hk => hk.2) (.slice Ao12 t544.length co12)) (fun _ hk => hk.2) (.slice Ao11 t547.length co11)) (fun _ hk => hk.1.2), by refine rC (a := ?_); exact Kd.R_mono (Kd.R_far (p := ⟨gb540, 2, none⟩) (Kd.R_far (p := ⟨gb540, 1, none⟩) (Kd.R_far (p := ⟨gb540, 0, none⟩) (Kd.R_types HO549.out BK540.out (by decide)) (fun _ hk => hk.2) (.slice Ao13 t541.length co13)) (fun _ hk => hk.2) (.slice Ao12 t544.length co12)) (fun _ hk => hk.2) (.slice Ao11 t547.length co11)) (fun _ hk => hk.1.2), hA HB.out⟩

/-! ### impl_Restart: function 28 -/
def impl_Restart.j0 : Nat → Int → Bool → List (S50) → List Int → List Int → Option ((List (S50)) × List Int × List Int × Bool)
 | 0, _, _, _, _, _ => none
 | k + 1, x1, x13, x551000, x551001, x551002 => if x13 = true then (some (([] : List (S50)), ([] : List Int), ([] : List Int), false)) else ((impl_ownBook.f k x551000 x551001 x551002).bind fun bt554 => (if x1 = 2 then ((impl_MendBook.f k bt554.1 bt554.2.1 bt554.2.2).bind fun bt563 => (some (bt563.1, bt563.2.1, bt563.2.2.1, true))) else (if x1 = 3 then ((impl_said.f k ([] : List (S50)) bt554.2.1 bt554.2.2).bind fun bt575 => (some (([] : List (S50)), bt575.1, bt575.2, true))) else (some (bt554.1, bt554.2.1, bt554.2.2, true)))))
def impl_Restart.f (k : Nat) (l0_0 : List (S50)) (l0_1 : List Int) (l0_2 : List Int) (a1 : Int) : Option ((List (S50)) × List Int × List Int × Bool) := (impl_BookOk.f k l0_0 l0_1 l0_2).bind fun t552 => (if t552 = true then ((impl_in.f a1 1 3).bind fun t553 => (impl_Restart.j0 k a1 (!t553) l0_0 l0_1 l0_2)) else (impl_Restart.j0 k a1 true l0_0 l0_1 l0_2))
theorem impl_Restart.mono_l : ∀ k, (∀ y0 y1 y2 y3 y4, LeO (impl_Restart.j0 k y0 y1 y2 y3 y4) (impl_Restart.j0 (k + 1) y0 y1 y2 y3 y4))
 | 0 => fun _ _ _ _ _ r h => by simp [impl_Restart.j0] at h
 | k + 1 => by
  have ih0 := impl_Restart.mono_l k
  ·intro y0 y1 y2 y3 y4
   unfold impl_Restart.j0
   repeat' first
   | (with_reducible exact ih0 _ _ _ _ _)
   | (with_reducible exact impl_BookOk.mono _ _ _ _)
   | (with_reducible exact impl_MendBook.mono _ _ _ _)
   | (with_reducible exact impl_ownBook.mono _ _ _ _)
   | (with_reducible exact impl_said.mono _ _ _ _)
   | (with_reducible exact LeO.refl _)
   | (with_reducible exact LeO.none _)
   | (with_reducible refine LeO.ite ?_ ?_)
   | (with_reducible refine LeO.bind ?_ (fun _ => ?_))
   | exact ih0 _ _ _ _ _
   | exact impl_BookOk.mono _ _ _ _
   | exact impl_MendBook.mono _ _ _ _
   | exact impl_ownBook.mono _ _ _ _
   | exact impl_said.mono _ _ _ _
   | exact LeO.none _
   | refine LeO.ite ?_ ?_
   | refine LeO.bind ?_ (fun _ => ?_)
theorem impl_Restart.mono : ∀ a0 a1 a2 a3 k, LeO (impl_Restart.f k a0 a1 a2 a3) (impl_Restart.f (k + 1) a0 a1 a2 a3) := by
 intro a0 a1 a2 a3 k
 have ih0 := impl_Restart.mono_l k
 unfold impl_Restart.f
 repeat' first
   | (with_reducible exact ih0 _ _ _ _ _)
   | (with_reducible exact impl_BookOk.mono _ _ _ _)
   | (with_reducible exact impl_MendBook.mono _ _ _ _)
   | (with_reducible exact impl_ownBook.mono _ _ _ _)
   | (with_reducible exact impl_said.mono _ _ _ _)
   | (with_reducible exact LeO.refl _)
   | (with_reducible exact LeO.none _)
   | (with_reducible refine LeO.ite ?_ ?_)
   | (with_reducible refine LeO.bind ?_ (fun _ => ?_))
   | exact ih0 _ _ _ _ _
   | exact impl_BookOk.mono _ _ _ _
   | exact impl_MendBook.mono _ _ _ _
   | exact impl_ownBook.mono _ _ _ _
   | exact impl_said.mono _ _ _ _
   | exact LeO.none _
   | refine LeO.ite ?_ ?_
   | refine LeO.bind ?_ (fun _ => ?_)
set_option maxHeartbeats 8000000 in
set_option maxRecDepth 100000 in
theorem impl_Restart.calls (k : Nat) (A0_0 : Option Addr) (c0_0 : Nat) (l0_0 : List (S50)) (A0_1 : Option Addr) (c0_1 : Nat) (l0_1 : List Int) (A0_2 : Option Addr) (c0_2 : Nat) (l0_2 : List Int) (a1 : Int) (r1 : List (S50)) (r2 : List Int) (r3 : List Int) (r4 : Bool) (w : World) (hr0_0 : Kd.C k50 w A0_0 l0_0.length l0_0) (hc0_0 : l0_0.length ≤ c0_0) (hr0_1 : Kd.C (Kd.int .i64) w A0_1 l0_1.length l0_1) (hc0_1 : l0_1.length ≤ c0_1) (hr0_2 : Kd.C (Kd.int .i64) w A0_2 l0_2.length l0_2) (hc0_2 : l0_2.length ≤ c0_2) (h : impl_Restart.f k l0_0 l0_1 l0_2 a1 = some (r1, r2, r3, r4)) :
  Calls Try.prog 28 #[.agg #[.slice A0_0 l0_0.length c0_0, .slice A0_1 l0_1.length c0_1, .slice A0_2 l0_2.length c0_2], .int .i64 a1] w fun e w' => ∃ v0_ v1_ v2_ : Value, e = .returned (.tuple #[.agg #[v0_, v1_, v2_], .bool r4]) ∧ Kd.R k50 50 w' w.heap.size (fun _ => True) v0_ r1 ∧ Kd.R (Kd.int .i64) 3 w' w.heap.size (fun k_ => some k_ ≠ (v2_ : Value).ownBlock) v1_ r2 ∧ Kd.R (Kd.int .i64) 3 w' w.heap.size (fun k_ => some k_ ≠ (v1_ : Value).ownBlock) v2_ r3 ∧ Below w.heap.size w w' := by
 have hu29 := Try.underlying29
 have HR0_0 := Aside0.mk hr0_0
 have HC0_0 := Aside0.mk hc0_0
 clear hr0_0 hc0_0
 have HR0_1 := Aside0.mk hr0_1
 have HC0_1 := Aside0.mk hc0_1
 clear hr0_1 hc0_1
 have HR0_2 := Aside0.mk hr0_2
 have HC0_2 := Aside0.mk hc0_2
 clear hr0_2 hc0_2
 have HB := Aside0.mk (Below.refl w.heap.size w)
 have H : ((impl_BookOk.f k l0_0 l0_1 l0_2).bind fun t552 => (if t552 = true then ((impl_in.f a1 1 3).bind fun t553 => (impl_Restart.j0 k a1 (!t553) l0_0 l0_1 l0_2)) else (impl_Restart.j0 k a1 true l0_0 l0_1 l0_2))) = some (r1, r2, r3, r4) := h
 clear h
 have HC3 := Aside0.mk H
 clear H
 go_enter Try.func28, Try.ntmps28
 go_upto_region 1 with (first | ((with_reducible refine gate_dst (N := 2) rfl ?_); refine box_event ?hg (N := 2) ?hd (cs := #[.slice A0_0 l0_0.length c0_0, .slice A0_1 l0_1.length c0_1, .slice A0_2 l0_2.length c0_2]) (t := 29) ?hr ?_; (case hd => rfl); (case hg => rfl); (case hr => first | (go_simp; done) | (go_simp; rfl)); intro gb550 hg w4 hbox hb; have n0_ := Aside0.mk (below_step (hA HB.out) hb); have n1_ := Aside0.mk (hbox); have n2_ := Aside0.mk ((by rw [hg]; exact (below_size (hA HB.out)) : w.heap.size ≤ gb550)); have n3_ := Aside0.mk ((by rw [hg]; exact (below_size (hA HB.out)) : w.heap.size ≤ gb550)); clear HB; have HB := n0_; have BK550 := n1_; have GW550 := n2_; have GE550 := n3_; clear n0_ n1_ n2_ n3_; clear hb hbox hg) | ((with_reducible refine gate_dst (N := 4) rfl ?_); refine box_event ?hg (N := 4) ?hd (cs := #[.slice none 0 0, .slice none 0 0, .slice none 0 0]) (t := 29) ?hr ?_; (case hd => rfl); (case hg => rfl); (case hr => first | (go_simp; done) | (go_simp; rfl)); intro gb551 hg w5 hbox hb; have n0_ := Aside0.mk (bB BK550.out hb); have n1_ := Aside0.mk (below_step (hA HB.out) hb); have n2_ := Aside0.mk (hbox); have n3_ := Aside0.mk ((by rw [hg]; exact (below_size (hA HB.out)) : w.heap.size ≤ gb551)); have n4_ := Aside0.mk ((by rw [hg]; exact (below_size (hA HB.out)) : w.heap.size ≤ gb551)); have n5_ := Aside0.mk ((by rw [hg]; exact Nat.ne_of_lt (blk_lt (g := gb550) (o := .cells #[.slice A0_0 l0_0.length c0_0, .slice A0_1 l0_1.length c0_1, .slice A0_2 l0_2.length c0_2] 29 (0, 0)) (bA BK550.out)) : gb550 ≠ gb551)); have n6_ := Aside0.mk ((by rw [hg]; exact Nat.ne_of_gt (blk_lt (g := gb550) (o := .cells #[.slice A0_0 l0_0.length c0_0, .slice A0_1 l0_1.length c0_1, .slice A0_2 l0_2.length c0_2] 29 (0, 0)) (bA BK550.out)) : gb551 ≠ gb550)); clear BK550; clear HB; have BK550 := n0_; have HB := n1_; have BK551 := n2_; have GW551 := n3_; have GE551 := n4_; have NB550_551 := n5_; have NB551_550 := n6_; clear n0_ n1_ n2_ n3_ n4_ n5_ n6_; clear hb hbox hg))
 (try simp only [Act.put, List.setIfInBounds_toArray, List.set_cons_zero, List.set_cons_succ])
 go_cut [13] (fun v13 wc => ∃ (kq : Nat) (x13_2 : Bool), v13 = .bool x13_2 ∧ Aside0 (impl_Restart.j0 kq a1 x13_2 l0_0 l0_1 l0_2 = some (r1, r2, r3, r4)) ∧ Aside0 (kq ≤ k) ∧ Aside0 (wc.heap[gb550]? = some (.cells #[(.slice A0_0 l0_0.length c0_0), (.slice A0_1 l0_1.length c0_1), (.slice A0_2 l0_2.length c0_2)] 29 (0, 0))) ∧ Aside0 (wc.heap[gb551]? = some (.cells #[(.slice none 0 0), (.slice none 0 0), (.slice none 0 0)] 29 (0, 0))) ∧ Aside0 (Below w.heap.size w wc))
 case first =>
  have H := HC3.out
  clear HC3
  replace H := Option.bind_eq_some_iff.mp H
  obtain ⟨t552, A60, H⟩ := H
  replace H : (if t552 = true then ((impl_in.f a1 1 3).bind fun t553 => (impl_Restart.j0 k a1 (!t553) l0_0 l0_1 l0_2)) else (impl_Restart.j0 k a1 true l0_0 l0_1 l0_2)) = some (r1, r2, r3, r4) := H
  have A6 := Aside0.mk A60
  clear A60
  by_cases c7 : t552 = true
  ·subst c7
   have H1 : ((impl_in.f a1 1 3).bind fun t553 => (impl_Restart.j0 k a1 (!t553) l0_0 l0_1 l0_2)) = some (r1, r2, r3, r4) := by rw [if_pos rfl] at H; exact H
   clear H
   have H := H1
   clear H1
   replace H := Option.bind_eq_some_iff.mp H
   obtain ⟨t553, A80, H⟩ := H
   replace H : (impl_Restart.j0 k a1 (!t553) l0_0 l0_1 l0_2) = some (r1, r2, r3, r4) := H
   have A8 := Aside0.mk A80
   clear A80
   have H' := Aside0.mk H
   clear H
   have hnb9 := NB550_551.out
   have hnc9 := NB551_550.out
   have hcz10_0 : w5.cell? ⟨gb550, 0, none⟩ = some (.slice A0_0 l0_0.length c0_0) := (blk_cell BK550.out 0).trans rfl
   have hcz10_1 : w5.cell? ⟨gb550, 1, none⟩ = some (.slice A0_1 l0_1.length c0_1) := (blk_cell BK550.out 1).trans rfl
   have hcz10_2 : w5.cell? ⟨gb550, 2, none⟩ = some (.slice A0_2 l0_2.length c0_2) := (blk_cell BK550.out 2).trans rfl
   have hfz10_0 := blk_frozen BK550.out 0
   have hfz10_1 := blk_frozen BK550.out 1
   have hfz10_2 := blk_frozen BK550.out 2
   go_wp2_with (first | ((with_reducible refine gate_callee (f := 40) rfl ?_); refine goesL_ (some 7) rfl rfl Try.func40 (by kernel_rfl) rfl #[.agg #[.slice A0_0 l0_0.length c0_0, .slice A0_1 l0_1.length c0_1, .slice A0_2 l0_2.length c0_2]] rfl ar ?_; (with_reducible refine (impl_BookOk.calls k _ _ l0_0 (fun k_ => k_ < w.heap.size) _ _ l0_1 (fun k_ => k_ < w.heap.size) _ _ l0_2 true _ ?side1 ?side2 ?side3 ?side4 A6.out).mono ?_); (case side1 => exact cA (Kd.C_below HR0_0.out HB.out)); (case side2 => exact HC0_0.out); (case side3 => exact Kd.V_mk HC0_1.out (Kd.F_below (Kd.C_F (Kd.heap_int .i64) HR0_1.out) (hA HB.out))); (case side4 => exact Kd.V_mk HC0_2.out (Kd.F_below (Kd.C_F (Kd.heap_int .i64) HR0_2.out) (hA HB.out))); rintro e w11 ⟨rfl, hb⟩; refine ⟨_, rfl, ?_⟩; have n0_ := Aside0.mk (bB BK550.out hb); have n1_ := Aside0.mk (bB BK551.out hb); have n2_ := Aside0.mk (below_step (hA HB.out) hb); clear BK550; clear BK551; clear HB; have BK550 := n0_; have BK551 := n1_; have HB := n2_; clear n0_ n1_ n2_; (try clear hb); (try clear hb2); (try clear hk); (try clear hi)) | (go_at_call 54; (with_reducible refine (impl_in.calls a1 1 3 t553 _ A8.out).mono ?_); rintro e w' ⟨rfl, ⟨nd, rfl⟩⟩))
   go_meet
   case rel => exact ⟨_, (!t553), rs, H', ⟨by first | omega | exact Nat.le_refl _⟩, ⟨by refine bC (a := ?_); exact BK550.out⟩, ⟨by refine bC (a := ?_); exact BK551.out⟩, ⟨hA HB.out⟩⟩
  ·replace c7 := Bool.eq_false_iff.mpr c7
   subst c7
   have H1 : (impl_Restart.j0 k a1 true l0_0 l0_1 l0_2) = some (r1, r2, r3, r4) := by rw [if_neg (show ¬ (false = true) by decide)] at H; exact H
   clear H
   have H := H1
   clear H1
   have H' := Aside0.mk H
   clear H
   have hnb12 := NB550_551.out
   have hnc12 := NB551_550.out
   have hcz13_0 : w5.cell? ⟨gb550, 0, none⟩ = some (.slice A0_0 l0_0.length c0_0) := (blk_cell BK550.out 0).trans rfl
   have hcz13_1 : w5.cell? ⟨gb550, 1, none⟩ = some (.slice A0_1 l0_1.length c0_1) := (blk_cell BK550.out 1).trans rfl
   have hcz13_2 : w5.cell? ⟨gb550, 2, none⟩ = some (.slice A0_2 l0_2.length c0_2) := (blk_cell BK550.out 2).trans rfl
   have hfz13_0 := blk_frozen BK550.out 0
   have hfz13_1 := blk_frozen BK550.out 1
   have hfz13_2 := blk_frozen BK550.out 2
   go_wp2_with (first | ((with_reducible refine gate_callee (f := 40) rfl ?_); refine goesL_ (some 7) rfl rfl Try.func40 (by kernel_rfl) rfl #[.agg #[.slice A0_0 l0_0.length c0_0, .slice A0_1 l0_1.length c0_1, .slice A0_2 l0_2.length c0_2]] rfl ar ?_; (with_reducible refine (impl_BookOk.calls k _ _ l0_0 (fun k_ => k_ < w.heap.size) _ _ l0_1 (fun k_ => k_ < w.heap.size) _ _ l0_2 false _ ?side1 ?side2 ?side3 ?side4 A6.out).mono ?_); (case side1 => exact cA (Kd.C_below HR0_0.out HB.out)); (case side2 => exact HC0_0.out); (case side3 => exact Kd.V_mk HC0_1.out (Kd.F_below (Kd.C_F (Kd.heap_int .i64) HR0_1.out) (hA HB.out))); (case side4 => exact Kd.V_mk HC0_2.out (Kd.F_below (Kd.C_F (Kd.heap_int .i64) HR0_2.out) (hA HB.out))); rintro e w14 ⟨rfl, hb⟩; refine ⟨_, rfl, ?_⟩; have n0_ := Aside0.mk (bB BK550.out hb); have n1_ := Aside0.mk (bB BK551.out hb); have n2_ := Aside0.mk (below_step (hA HB.out) hb); clear BK550; clear BK551; clear HB; have BK550 := n0_; have BK551 := n1_; have HB := n2_; clear n0_ n1_ n2_; (try clear hb); (try clear hb2); (try clear hk); (try clear hi)))
   go_meet
   case rel => exact ⟨_, (true), rs, H', ⟨by first | omega | exact Nat.le_refl _⟩, ⟨by refine bC (a := ?_); exact BK550.out⟩, ⟨by refine bC (a := ?_); exact BK551.out⟩, ⟨hA HB.out⟩⟩
 case rest =>
  clear HC3
  (try clear c1); (try clear c2); (try clear p2); (try clear c4); (try clear c7); (try clear c9); (try clear c12); (try clear hcz10_0); (try clear hcz10_1); (try clear hcz10_2); (try clear hcz13_0); (try clear hcz13_1); (try clear hcz13_2); (try clear hfz10_0); (try clear hfz10_1); (try clear hfz10_2); (try clear hfz13_0); (try clear hfz13_1); (try clear hfz13_2)
  obtain ⟨kq, x13_2, rfl, HA, HJ2, BK550, BK551, HB⟩ := hcut
  cases kq with
  | zero => exact absurd HA.out (by simp [impl_Restart.j0])
  | succ kj2 =>
   have H := HA.out
   clear HA
   simp only [impl_Restart.j0] at H
   by_cases c15 : x13_2 = true
   ·subst c15
    have H1 : (some (([] : List (S50)), ([] : List Int), ([] : List Int), false)) = some (r1, r2, r3, r4) := by rw [if_pos rfl] at H; exact H
    clear H
    have H := H1
    clear H1
    simp only [Option.some.injEq, Prod.mk.injEq] at H
    obtain ⟨rfl, rfl, rfl, rfl⟩ := H
    have hnb16 := NB551_550.out
    have hnc16 := NB550_551.out
    have hcz17_0 : wc.cell? ⟨gb551, 0, none⟩ = some (.slice none 0 0) := (blk_cell BK551.out 0).trans rfl
    have hcz17_1 : wc.cell? ⟨gb551, 1, none⟩ = some (.slice none 0 0) := (blk_cell BK551.out 1).trans rfl
    have hcz17_2 : wc.cell? ⟨gb551, 2, none⟩ = some (.slice none 0 0) := (blk_cell BK551.out 2).trans rfl
    have hfz17_0 := blk_frozen BK551.out 0
    have hfz17_1 := blk_frozen BK551.out 1
    have hfz17_2 := blk_frozen BK551.out 2
    go_wp2
    refine bodyPost_ret (results_ct rfl _ _ gb551 29 #[.slice none 0 0, .slice none 0 0, .slice none 0 0] (0, 0) _ rfl (by refine bC (a := ?_); refine blk_put (cs := #[.slice none 0 0, .slice none 0 0, .slice none 0 0]) ?_ 2 _ rfl; refine bC (a := ?_); refine blk_put (cs := #[.slice none 0 0, .slice none 0 0, .slice none 0 0]) ?_ 1 _ rfl; refine bC (a := ?_); refine blk_put (cs := #[.slice none 0 0, .slice none 0 0, .slice none 0 0]) ?_ 0 _ rfl; refine bC (a := ?_); exact BK551.out) Try.underlying29 rfl (by kernel_rfl)) rfl ?_
    exact ⟨_, _, _, er, by first | exact Kd.R_nil _ _ _ _ _ | exact Kd.N_nil _ _ _ _ _ | exact Kd.V_nil _ _ _ _ _ | exact Kd.Q_nil _ _ _ _ _ | exact Kd.S_nil _ _ _ _ _, by first | exact Kd.R_nil _ _ _ _ _ | exact Kd.N_nil _ _ _ _ _ | exact Kd.V_nil _ _ _ _ _ | exact Kd.Q_nil _ _ _ _ _ | exact Kd.S_nil _ _ _ _ _, by first | exact Kd.R_nil _ _ _ _ _ | exact Kd.N_nil _ _ _ _ _ | exact Kd.V_nil _ _ _ _ _ | exact Kd.Q_nil _ _ _ _ _ | exact Kd.S_nil _ _ _ _ _, hA HB.out⟩
   ·replace c15 := Bool.eq_false_iff.mpr c15
    subst c15
    have H1 : ((impl_ownBook.f kj2 l0_0 l0_1 l0_2).bind fun bt554 => (if a1 = 2 then ((impl_MendBook.f kj2 bt554.1 bt554.2.1 bt554.2.2).bind fun bt563 => (some (bt563.1, bt563.2.1, bt563.2.2.1, true))) else (if a1 = 3 then ((impl_said.f kj2 ([] : List (S50)) bt554.2.1 bt554.2.2).bind fun bt575 => (some (([] : List (S50)), bt575.1, bt575.2, true))) else (some (bt554.1, bt554.2.1, bt554.2.2, true))))) = some (r1, r2, r3, r4) := by rw [if_neg (show ¬ (false = true) by decide)] at H; exact H
    clear H
    have H := H1
    clear H1
    replace H := Option.bind_eq_some_iff.mp H
    obtain ⟨⟨t554, t557, t560⟩, A180, H⟩ := H
    replace H : (if a1 = 2 then ((impl_MendBook.f kj2 t554 t557 t560).bind fun bt563 => (some (bt563.1, bt563.2.1, bt563.2.2.1, true))) else (if a1 = 3 then ((impl_said.f kj2 ([] : List (S50)) t557 t560).bind fun bt575 => (some (([] : List (S50)), bt575.1, bt575.2, true))) else (some (t554, t557, t560, true)))) = some (r1, r2, r3, r4) := H
    have A18 := Aside0.mk A180
    clear A180
    by_cases c19 : a1 = 2
    ·rw [if_pos c19] at H
     have c19b0 : (a1 == 2) = true := beq_iff_eq.mpr c19
     have c19b1 : (a1 != 2) = false := bne_eq_false_iff_eq.mpr c19
     clear c19
     replace H := Option.bind_eq_some_iff.mp H
     obtain ⟨⟨t563, t566, t569, t572⟩, A200, H⟩ := H
     replace H : (some (t563, t566, t569, true)) = some (r1, r2, r3, r4) := H
     have A20 := Aside0.mk A200
     clear A200
     simp only [Option.some.injEq, Prod.mk.injEq] at H
     obtain ⟨rfl, rfl, rfl, rfl⟩ := H
     have hnb21 := NB550_551.out
     have hnc21 := NB551_550.out
     have hcz22_0 : wc.cell? ⟨gb550, 0, none⟩ = some (.slice A0_0 l0_0.length c0_0) := (blk_cell BK550.out 0).trans rfl
     have hcz22_1 : wc.cell? ⟨gb550, 1, none⟩ = some (.slice A0_1 l0_1.length c0_1) := (blk_cell BK550.out 1).trans rfl
     have hcz22_2 : wc.cell? ⟨gb550, 2, none⟩ = some (.slice A0_2 l0_2.length c0_2) := (blk_cell BK550.out 2).trans rfl
     have hfz22_0 := blk_frozen BK550.out 0
     have hfz22_1 := blk_frozen BK550.out 1
     have hfz22_2 := blk_frozen BK550.out 2
     go_wp2_with (first | ((with_reducible refine gate_callee (f := 55) rfl ?_); refine goesL_ (some 16) rfl rfl Try.func55 (by kernel_rfl) rfl #[.agg #[.slice A0_0 l0_0.length c0_0, .slice A0_1 l0_1.length c0_1, .slice A0_2 l0_2.length c0_2]] rfl ar ?_; (with_reducible refine (impl_ownBook.calls kj2 _ _ l0_0 _ _ l0_1 _ _ l0_2 t554 t557 t560 _ ?side1 ?side2 ?side3 ?side4 ?side5 ?side6 A18.out).mono ?_); (case side1 => exact cA (Kd.C_below HR0_0.out HB.out)); (case side2 => exact HC0_0.out); (case side3 => exact cA (Kd.C_below HR0_1.out HB.out)); (case side4 => exact HC0_1.out); (case side5 => exact cA (Kd.C_below HR0_2.out HB.out)); (case side6 => exact HC0_2.out); rintro e w23 ⟨v555, v558, v561, rfl, ho0, ho1, ho2, hb⟩; refine ⟨_, rfl, ?_⟩; have n0_ := Aside0.mk (Kd.R_lower ho0 (below_size (hA HB.out))); have n1_ := Aside0.mk (Kd.R_lower ho1 (below_size (hA HB.out))); have n2_ := Aside0.mk (Kd.R_lower ho2 (below_size (hA HB.out))); have n3_ := Aside0.mk (bB BK550.out hb); have n4_ := Aside0.mk (bB BK551.out hb); have n5_ := Aside0.mk (below_step (hA HB.out) hb); clear BK550; clear BK551; clear HB; have HO556 := n0_; have HO559 := n1_; have HO562 := n2_; have BK550 := n3_; have BK551 := n4_; have HB := n5_; clear n0_ n1_ n2_ n3_ n4_ n5_; (try clear hb); (try clear hb2); (try clear hk); (try clear hi); (try clear ho0); (try clear ho1); (try clear ho2); obtain ⟨Ao24, co24, eo24⟩ := Kd.R_slice HO556.out; subst eo24; have hcz25_0 : w23.cell? ⟨gb550, 0, none⟩ = some (.slice A0_0 l0_0.length c0_0) := (blk_cell BK550.out 0).trans rfl; have hcz25_1 : w23.cell? ⟨gb550, 1, none⟩ = some (.slice A0_1 l0_1.length c0_1) := (blk_cell BK550.out 1).trans rfl; have hcz25_2 : w23.cell? ⟨gb550, 2, none⟩ = some (.slice A0_2 l0_2.length c0_2) := (blk_cell BK550.out 2).trans rfl; have hfz25_0 := blk_frozen BK550.out 0; have hfz25_1 := blk_frozen BK550.out 1; have hfz25_2 := blk_frozen BK550.out 2; obtain ⟨Ao26, co26, eo26⟩ := Kd.R_slice HO559.out; subst eo26; obtain ⟨Ao27, co27, eo27⟩ := Kd.R_slice HO562.out; subst eo27) | ((with_reducible refine gate_callee (f := 12) rfl ?_); refine goesL_ (some 22) rfl rfl Try.func12 (by kernel_rfl) rfl #[.agg #[.slice Ao24 t554.length co24, .slice Ao26 t557.length co26, .slice Ao27 t560.length co27]] rfl ar ?_; (with_reducible refine (impl_MendBook.calls kj2 _ _ t554 _ _ t557 _ _ t560 t563 t566 t569 t572 _ ?side1 ?side2 ?side3 ?side4 ?side5 ?side6 A20.out).mono ?_); (case side1 => refine (Kd.R_reads' (e := 50) (base := w.heap.size) (ok := fun k_ => True) (n := t554.length) (c := co24) ?_).2.2; exact (rC (a := by exact (Kd.R_mono (Kd.R_far (p := ⟨gb550, 2, none⟩) (Kd.R_far (p := ⟨gb550, 1, none⟩) (Kd.R_far (p := ⟨gb550, 0, none⟩) (Kd.R_types HO556.out BK550.out (by decide)) (fun _ hk => hk.2) (.slice Ao24 t554.length co24)) (fun _ hk => hk.2) (.slice Ao26 t557.length co26)) (fun _ hk => hk.2) (.slice Ao27 t560.length co27)) (fun _ h_ => h_.1))))); (case side2 => exact (Kd.R_reads' HO556.out).2.1); (case side3 => refine (Kd.R_reads' (e := 3) (base := w.heap.size) (ok := fun k_ => some k_ ≠ (.slice Ao27 t560.length co27 : Value).ownBlock) (n := t557.length) (c := co26) ?_).2.2; exact (rC (a := by exact (Kd.R_mono (Kd.R_far (p := ⟨gb550, 2, none⟩) (Kd.R_far (p := ⟨gb550, 1, none⟩) (Kd.R_far (p := ⟨gb550, 0, none⟩) (Kd.R_types HO559.out BK550.out (by decide)) (fun _ hk => hk.2) (.slice Ao24 t554.length co24)) (fun _ hk => hk.2) (.slice Ao26 t557.length co26)) (fun _ hk => hk.2) (.slice Ao27 t560.length co27)) (fun _ h_ => h_.1))))); (case side4 => exact (Kd.R_reads' HO559.out).2.1); (case side5 => refine (Kd.R_reads' (e := 3) (base := w.heap.size) (ok := fun k_ => some k_ ≠ (.slice Ao26 t557.length co26 : Value).ownBlock) (n := t560.length) (c := co27) ?_).2.2; exact (rC (a := by exact (Kd.R_mono (Kd.R_far (p := ⟨gb550, 2, none⟩) (Kd.R_far (p := ⟨gb550, 1, none⟩) (Kd.R_far (p := ⟨gb550, 0, none⟩) (Kd.R_types HO562.out BK550.out (by decide)) (fun _ hk => hk.2) (.slice Ao24 t554.length co24)) (fun _ hk => hk.2) (.slice Ao26 t557.length co26)) (fun _ hk => hk.2) (.slice Ao27 t560.length co27)) (fun _ h_ => h_.1))))); (case side6 => exact (Kd.R_reads' HO562.out).2.1); rintro e w28 ⟨v564, v567, v570, v573, rfl, ho0, ho1, ho2, ho3, hb⟩; refine ⟨_, rfl, ?_⟩; have n0_ := Aside0.mk (Kd.R_elder' (rC (a := by exact (Kd.R_mono (Kd.R_far (p := ⟨gb550, 2, none⟩) (Kd.R_far (p := ⟨gb550, 1, none⟩) (Kd.R_far (p := ⟨gb550, 0, none⟩) (Kd.R_types HO556.out BK550.out (by decide)) (fun _ hk => hk.2) (.slice Ao24 t554.length co24)) (fun _ hk => hk.2) (.slice Ao26 t557.length co26)) (fun _ hk => hk.2) (.slice Ao27 t560.length co27)) (fun _ h_ => h_.1)))) (Kd.R_base ho0) hb); have n1_ := Aside0.mk (Kd.R_mono (Kd.R_told (Kd.R_told (Kd.R_told (Kd.R_old (rC (a := by exact (Kd.R_mono (Kd.R_far (p := ⟨gb550, 2, none⟩) (Kd.R_far (p := ⟨gb550, 1, none⟩) (Kd.R_far (p := ⟨gb550, 0, none⟩) (Kd.R_types HO559.out BK550.out (by decide)) (fun _ hk => hk.2) (.slice Ao24 t554.length co24)) (fun _ hk => hk.2) (.slice Ao26 t557.length co26)) (fun _ hk => hk.2) (.slice Ao27 t560.length co27)) (fun _ h_ => h_.1)))) hb) (Kd.R_base ho1)) (Kd.R_base ho2)) (Kd.R_base ho3)) (fun _ h_ => h_.1)); have n2_ := Aside0.mk (Kd.R_mono (Kd.R_told (Kd.R_told (Kd.R_told (Kd.R_old (rC (a := by exact (Kd.R_mono (Kd.R_far (p := ⟨gb550, 2, none⟩) (Kd.R_far (p := ⟨gb550, 1, none⟩) (Kd.R_far (p := ⟨gb550, 0, none⟩) (Kd.R_types HO562.out BK550.out (by decide)) (fun _ hk => hk.2) (.slice Ao24 t554.length co24)) (fun _ hk => hk.2) (.slice Ao26 t557.length co26)) (fun _ hk => hk.2) (.slice Ao27 t560.length co27)) (fun _ h_ => h_.1)))) hb) (Kd.R_base ho1)) (Kd.R_base ho2)) (Kd.R_base ho3)) (fun _ h_ => h_.1)); have n3_ := Aside0.mk (Kd.R_lower (Kd.R_new' ho0 (Kd.R_lt (rC (a := by exact (Kd.R_mono (Kd.R_far (p := ⟨gb550, 2, none⟩) (Kd.R_far (p := ⟨gb550, 1, none⟩) (Kd.R_far (p := ⟨gb550, 0, none⟩) (Kd.R_types HO556.out BK550.out (by decide)) (fun _ hk => hk.2) (.slice Ao24 t554.length co24)) (fun _ hk => hk.2) (.slice Ao26 t557.length co26)) (fun _ hk => hk.2) (.slice Ao27 t560.length co27)) (fun _ h_ => h_.1)))))) (below_size (hA HB.out))); have n4_ := Aside0.mk (Kd.R_lower (Kd.R_new' (Kd.R_new' ho1 (Kd.R_lt (rC (a := by exact (Kd.R_mono (Kd.R_far (p := ⟨gb550, 2, none⟩) (Kd.R_far (p := ⟨gb550, 1, none⟩) (Kd.R_far (p := ⟨gb550, 0, none⟩) (Kd.R_types HO559.out BK550.out (by decide)) (fun _ hk => hk.2) (.slice Ao24 t554.length co24)) (fun _ hk => hk.2) (.slice Ao26 t557.length co26)) (fun _ hk => hk.2) (.slice Ao27 t560.length co27)) (fun _ h_ => h_.1)))))) (Kd.R_lt (rC (a := by exact (Kd.R_mono (Kd.R_far (p := ⟨gb550, 2, none⟩) (Kd.R_far (p := ⟨gb550, 1, none⟩) (Kd.R_far (p := ⟨gb550, 0, none⟩) (Kd.R_types HO562.out BK550.out (by decide)) (fun _ hk => hk.2) (.slice Ao24 t554.length co24)) (fun _ hk => hk.2) (.slice Ao26 t557.length co26)) (fun _ hk => hk.2) (.slice Ao27 t560.length co27)) (fun _ h_ => h_.1)))))) (below_size (hA HB.out))); have n5_ := Aside0.mk (Kd.R_lower (Kd.R_new' (Kd.R_new' ho2 (Kd.R_lt (rC (a := by exact (Kd.R_mono (Kd.R_far (p := ⟨gb550, 2, none⟩) (Kd.R_far (p := ⟨gb550, 1, none⟩) (Kd.R_far (p := ⟨gb550, 0, none⟩) (Kd.R_types HO559.out BK550.out (by decide)) (fun _ hk => hk.2) (.slice Ao24 t554.length co24)) (fun _ hk => hk.2) (.slice Ao26 t557.length co26)) (fun _ hk => hk.2) (.slice Ao27 t560.length co27)) (fun _ h_ => h_.1)))))) (Kd.R_lt (rC (a := by exact (Kd.R_mono (Kd.R_far (p := ⟨gb550, 2, none⟩) (Kd.R_far (p := ⟨gb550, 1, none⟩) (Kd.R_far (p := ⟨gb550, 0, none⟩) (Kd.R_types HO562.out BK550.out (by decide)) (fun _ hk => hk.2) (.slice Ao24 t554.length co24)) (fun _ hk => hk.2) (.slice Ao26 t557.length co26)) (fun _ hk => hk.2) (.slice Ao27 t560.length co27)) (fun _ h_ => h_.1)))))) (below_size (hA HB.out))); have n6_ := Aside0.mk (Kd.R_lower (Kd.R_new' (Kd.R_new' ho3 (Kd.R_lt (rC (a := by exact (Kd.R_mono (Kd.R_far (p := ⟨gb550, 2, none⟩) (Kd.R_far (p := ⟨gb550, 1, none⟩) (Kd.R_far (p := ⟨gb550, 0, none⟩) (Kd.R_types HO559.out BK550.out (by decide)) (fun _ hk => hk.2) (.slice Ao24 t554.length co24)) (fun _ hk => hk.2) (.slice Ao26 t557.length co26)) (fun _ hk => hk.2) (.slice Ao27 t560.length co27)) (fun _ h_ => h_.1)))))) (Kd.R_lt (rC (a := by exact (Kd.R_mono (Kd.R_far (p := ⟨gb550, 2, none⟩) (Kd.R_far (p := ⟨gb550, 1, none⟩) (Kd.R_far (p := ⟨gb550, 0, none⟩) (Kd.R_types HO562.out BK550.out (by decide)) (fun _ hk => hk.2) (.slice Ao24 t554.length co24)) (fun _ hk => hk.2) (.slice Ao26 t557.length co26)) (fun _ hk => hk.2) (.slice Ao27 t560.length co27)) (fun _ h_ => h_.1)))))) (below_size (hA HB.out))); have n7_ := Aside0.mk (blk_below (g := gb550) (o := .cells #[.slice Ao24 t554.length co24, .slice Ao26 t557.length co26, .slice Ao27 t560.length co27] 29 (0, 0)) (by refine bC (a := ?_); refine blk_put (cs := #[.slice Ao24 t554.length co24, .slice Ao26 t557.length co26, .slice A0_2 l0_2.length c0_2]) ?_ 2 _ rfl; refine bC (a := ?_); refine blk_put (cs := #[.slice Ao24 t554.length co24, .slice A0_1 l0_1.length c0_1, .slice A0_2 l0_2.length c0_2]) ?_ 1 _ rfl; refine bC (a := ?_); refine blk_put (cs := #[.slice A0_0 l0_0.length c0_0, .slice A0_1 l0_1.length c0_1, .slice A0_2 l0_2.length c0_2]) ?_ 0 _ rfl; refine bC (a := ?_); exact BK550.out) hb); have n8_ := Aside0.mk (blk_below (g := gb551) (o := .cells #[.slice none 0 0, .slice none 0 0, .slice none 0 0] 29 (0, 0)) (by refine bC (a := ?_); refine blk_far ?_ NB551_550.out _; refine bC (a := ?_); refine blk_far ?_ NB551_550.out _; refine bC (a := ?_); refine blk_far ?_ NB551_550.out _; refine bC (a := ?_); exact BK551.out) hb); have n9_ := Aside0.mk (below_step (hA HB.out) hb); clear HO556; clear HO559; clear HO562; clear BK550; clear BK551; clear HB; have HO556 := n0_; have HO559 := n1_; have HO562 := n2_; have HO565 := n3_; have HO568 := n4_; have HO571 := n5_; have HO574 := n6_; have BK550 := n7_; have BK551 := n8_; have HB := n9_; clear n0_ n1_ n2_ n3_ n4_ n5_ n6_ n7_ n8_ n9_; (try clear hb); (try clear hb2); (try clear hk); (try clear hi); (try clear ho0); (try clear ho1); (try clear ho2); (try clear ho3); obtain ⟨Ao29, co29, eo29⟩ := Kd.R_slice HO565.out; subst eo29; have hcz30_0 : w28.cell? ⟨gb550, 0, none⟩ = some (.slice Ao24 t554.length co24) := (blk_cell BK550.out 0).trans rfl; have hcz30_1 : w28.cell? ⟨gb550, 1, none⟩ = some (.slice Ao26 t557.length co26) := (blk_cell BK550.out 1).trans rfl; have hcz30_2 : w28.cell? ⟨gb550, 2, none⟩ = some (.slice Ao27 t560.length co27) := (blk_cell BK550.out 2).trans rfl; have hfz30_0 := blk_frozen BK550.out 0; have hfz30_1 := blk_frozen BK550.out 1; have hfz30_2 := blk_frozen BK550.out 2; obtain ⟨Ao31, co31, eo31⟩ := Kd.R_slice HO568.out; subst eo31; obtain ⟨Ao32, co32, eo32⟩ := Kd.R_slice HO571.out; subst eo32; have hcz33_0 : w28.cell? ⟨gb551, 0, none⟩ = some (.slice none 0 0) := (blk_cell BK551.out 0).trans rfl; have hcz33_1 : w28.cell? ⟨gb551, 1, none⟩ = some (.slice none 0 0) := (blk_cell BK551.out 1).trans rfl; have hcz33_2 : w28.cell? ⟨gb551, 2, none⟩ = some (.slice none 0 0) := (blk_cell BK551.out 2).trans rfl; have hfz33_0 := blk_frozen BK551.out 0; have hfz33_1 := blk_frozen BK551.out 1; have hfz33_2 := blk_frozen BK551.out 2))
     refine bodyPost_ret (results_ct rfl _ _ gb551 29 #[.slice Ao29 t563.length co29, .slice Ao31 t566.length co31, .slice Ao32 t569.length co32] (0, 0) _ rfl (by refine bC (a := ?_); refine blk_put (cs := #[.slice Ao29 t563.length co29, .slice Ao31 t566.length co31, .slice none 0 0]) ?_ 2 _ rfl; refine bC (a := ?_); refine blk_put (cs := #[.slice Ao29 t563.length co29, .slice none 0 0, .slice none 0 0]) ?_ 1 _ rfl; refine bC (a := ?_); refine blk_put (cs := #[.slice none 0 0, .slice none 0 0, .slice none 0 0]) ?_ 0 _ rfl; refine bC (a := ?_); refine blk_far ?_ NB551_550.out _; refine bC (a := ?_); refine blk_far ?_ NB551_550.out _; refine bC (a := ?_); refine blk_far ?_ NB551_550.out _; refine bC (a := ?_); exact BK551.out) Try.underlying29 rfl (by kernel_rfl)) rfl ?_
     exact ⟨_, _, _, er, by refine rC (a := ?_); exact Kd.R_mono (Kd.R_far (p := ⟨gb551, 2, none⟩) (Kd.R_far (p := ⟨gb551, 1, none⟩) (Kd.R_far (p := ⟨gb551, 0, none⟩) (Kd.R_far (p := ⟨gb550, 2, none⟩) (Kd.R_far (p := ⟨gb550, 1, none⟩) (Kd.R_far (p := ⟨gb550, 0, none⟩) (Kd.R_types (Kd.R_types HO565.out BK550.out (by decide)) BK551.out (by decide)) (fun _ hk => hk.1.2) (.slice Ao29 t563.length co29)) (fun _ hk => hk.1.2) (.slice Ao31 t566.length co31)) (fun _ hk => hk.1.2) (.slice Ao32 t569.length co32)) (fun _ hk => hk.2) (.slice Ao29 t563.length co29)) (fun _ hk => hk.2) (.slice Ao31 t566.length co31)) (fun _ hk => hk.2) (.slice Ao32 t569.length co32)) (fun _ hk => trivial), by refine rC (a := ?_); exact Kd.R_mono (Kd.R_far (p := ⟨gb551, 2, none⟩) (Kd.R_far (p := ⟨gb551, 1, none⟩) (Kd.R_far (p := ⟨gb551, 0, none⟩) (Kd.R_far (p := ⟨gb550, 2, none⟩) (Kd.R_far (p := ⟨gb550, 1, none⟩) (Kd.R_far (p := ⟨gb550, 0, none⟩) (Kd.R_types (Kd.R_types HO568.out BK550.out (by decide)) BK551.out (by decide)) (fun _ hk => hk.1.2) (.slice Ao29 t563.length co29)) (fun _ hk => hk.1.2) (.slice Ao31 t566.length co31)) (fun _ hk => hk.1.2) (.slice Ao32 t569.length co32)) (fun _ hk => hk.2) (.slice Ao29 t563.length co29)) (fun _ hk => hk.2) (.slice Ao31 t566.length co31)) (fun _ hk => hk.2) (.slice Ao32 t569.length co32)) (fun _ hk => hk.1.1.1.1.1), by refine rC (a := ?_); exact Kd.R_mono (Kd.R_far (p := ⟨gb551, 2, none⟩) (Kd.R_far (p := ⟨gb551, 1, none⟩) (Kd.R_far (p := ⟨gb551, 0, none⟩) (Kd.R_far (p := ⟨gb550, 2, none⟩) (Kd.R_far (p := ⟨gb550, 1, none⟩) (Kd.R_far (p := ⟨gb550, 0, none⟩) (Kd.R_types (Kd.R_types HO571.out BK550.out (by decide)) BK551.out (by decide)) (fun _ hk => hk.1.2) (.slice Ao29 t563.length co29)) (fun _ hk => hk.1.2) (.slice Ao31 t566.length co31)) (fun _ hk => hk.1.2) (.slice Ao32 t569.length co32)) (fun _ hk => hk.2) (.slice Ao29 t563.length co29)) (fun _ hk => hk.2) (.slice Ao31 t566.length co31)) (fun _ hk => hk.2) (.slice Ao32 t569.length co32)) (fun _ hk => hk.1.1.1.1.1), hA HB.out⟩
    ·rw [if_neg c19] at H
     have c19b0 : (a1 == 2) = false := beq_eq_false_iff_ne.mpr c19
     have c19b1 : (a1 != 2) = true := bne_iff_ne.mpr c19
     by_cases c34 : a1 = 3
     ·rw [if_pos c34] at H
      have c34b0 : (a1 == 3) = true := beq_iff_eq.mpr c34
      have c34b1 : (a1 != 3) = false := bne_eq_false_iff_eq.mpr c34
      clear c34
      replace H := Option.bind_eq_some_iff.mp H
      obtain ⟨⟨t575, t578⟩, A350, H⟩ := H
      replace H : (some (([] : List (S50)), t575, t578, true)) = some (r1, r2, r3, r4) := H
      have A35 := Aside0.mk A350
      clear A350
      simp only [Option.some.injEq, Prod.mk.injEq] at H
      obtain ⟨rfl, rfl, rfl, rfl⟩ := H
      have hnb36 := NB550_551.out
      have hnc36 := NB551_550.out
      have hcz37_0 : wc.cell? ⟨gb550, 0, none⟩ = some (.slice A0_0 l0_0.length c0_0) := (blk_cell BK550.out 0).trans rfl
      have hcz37_1 : wc.cell? ⟨gb550, 1, none⟩ = some (.slice A0_1 l0_1.length c0_1) := (blk_cell BK550.out 1).trans rfl
      have hcz37_2 : wc.cell? ⟨gb550, 2, none⟩ = some (.slice A0_2 l0_2.length c0_2) := (blk_cell BK550.out 2).trans rfl
      have hfz37_0 := blk_frozen BK550.out 0
      have hfz37_1 := blk_frozen BK550.out 1
      have hfz37_2 := blk_frozen BK550.out 2
      go_wp2_with (first | ((with_reducible refine gate_callee (f := 55) rfl ?_); refine goesL_ (some 16) rfl rfl Try.func55 (by kernel_rfl) rfl #[.agg #[.slice A0_0 l0_0.length c0_0, .slice A0_1 l0_1.length c0_1, .slice A0_2 l0_2.length c0_2]] rfl ar ?_; (with_reducible refine (impl_ownBook.calls kj2 _ _ l0_0 _ _ l0_1 _ _ l0_2 t554 t557 t560 _ ?side1 ?side2 ?side3 ?side4 ?side5 ?side6 A18.out).mono ?_); (case side1 => exact cA (Kd.C_below HR0_0.out HB.out)); (case side2 => exact HC0_0.out); (case side3 => exact cA (Kd.C_below HR0_1.out HB.out)); (case side4 => exact HC0_1.out); (case side5 => exact cA (Kd.C_below HR0_2.out HB.out)); (case side6 => exact HC0_2.out); rintro e w38 ⟨v555, v558, v561, rfl, ho0, ho1, ho2, hb⟩; refine ⟨_, rfl, ?_⟩; have n0_ := Aside0.mk (Kd.R_lower ho0 (below_size (hA HB.out))); have n1_ := Aside0.mk (Kd.R_lower ho1 (below_size (hA HB.out))); have n2_ := Aside0.mk (Kd.R_lower ho2 (below_size (hA HB.out))); have n3_ := Aside0.mk (bB BK550.out hb); have n4_ := Aside0.mk (bB BK551.out hb); have n5_ := Aside0.mk (below_step (hA HB.out) hb); clear BK550; clear BK551; clear HB; have HO556 := n0_; have HO559 := n1_; have HO562 := n2_; have BK550 := n3_; have BK551 := n4_; have HB := n5_; clear n0_ n1_ n2_ n3_ n4_ n5_; (try clear hb); (try clear hb2); (try clear hk); (try clear hi); (try clear ho0); (try clear ho1); (try clear ho2); obtain ⟨Ao39, co39, eo39⟩ := Kd.R_slice HO556.out; subst eo39; have hcz40_0 : w38.cell? ⟨gb550, 0, none⟩ = some (.slice A0_0 l0_0.length c0_0) := (blk_cell BK550.out 0).trans rfl; have hcz40_1 : w38.cell? ⟨gb550, 1, none⟩ = some (.slice A0_1 l0_1.length c0_1) := (blk_cell BK550.out 1).trans rfl; have hcz40_2 : w38.cell? ⟨gb550, 2, none⟩ = some (.slice A0_2 l0_2.length c0_2) := (blk_cell BK550.out 2).trans rfl; have hfz40_0 := blk_frozen BK550.out 0; have hfz40_1 := blk_frozen BK550.out 1; have hfz40_2 := blk_frozen BK550.out 2; obtain ⟨Ao41, co41, eo41⟩ := Kd.R_slice HO559.out; subst eo41; obtain ⟨Ao42, co42, eo42⟩ := Kd.R_slice HO562.out; subst eo42) | ((with_reducible refine gate_callee (f := 44) rfl ?_); refine goesL_ (some 30) rfl rfl Try.func44 (by kernel_rfl) rfl #[.agg #[.slice none 0 0, .slice Ao41 t557.length co41, .slice Ao42 t560.length co42]] rfl ar ?_; (refine (impl_said.calls kj2 _ _ ([] : List (S50)) _ _ t557 _ _ t560 t575 t578 _ ?side1 ?side2 ?side3 ?side4 ?side5 ?side6 A35.out).mono ?_); (case side1 => exact Kd.C_nil _ _); (case side2 => exact Nat.le_refl _); (case side3 => refine (Kd.R_reads' (e := 3) (base := w.heap.size) (ok := fun k_ => some k_ ≠ (.slice Ao42 t560.length co42 : Value).ownBlock) (n := t557.length) (c := co41) ?_).2.2; exact (rC (a := by exact (Kd.R_mono (Kd.R_far (p := ⟨gb550, 0, none⟩) (Kd.R_far (p := ⟨gb550, 2, none⟩) (Kd.R_far (p := ⟨gb550, 1, none⟩) (Kd.R_far (p := ⟨gb550, 0, none⟩) (Kd.R_types HO559.out BK550.out (by decide)) (fun _ hk => hk.2) (.slice Ao39 t554.length co39)) (fun _ hk => hk.2) (.slice Ao41 t557.length co41)) (fun _ hk => hk.2) (.slice Ao42 t560.length co42)) (fun _ hk => hk.2) (.slice none 0 0)) (fun _ h_ => h_.1))))); (case side4 => exact (Kd.R_reads' HO559.out).2.1); (case side5 => refine (Kd.R_reads' (e := 3) (base := w.heap.size) (ok := fun k_ => some k_ ≠ (.slice Ao41 t557.length co41 : Value).ownBlock) (n := t560.length) (c := co42) ?_).2.2; exact (rC (a := by exact (Kd.R_mono (Kd.R_far (p := ⟨gb550, 0, none⟩) (Kd.R_far (p := ⟨gb550, 2, none⟩) (Kd.R_far (p := ⟨gb550, 1, none⟩) (Kd.R_far (p := ⟨gb550, 0, none⟩) (Kd.R_types HO562.out BK550.out (by decide)) (fun _ hk => hk.2) (.slice Ao39 t554.length co39)) (fun _ hk => hk.2) (.slice Ao41 t557.length co41)) (fun _ hk => hk.2) (.slice Ao42 t560.length co42)) (fun _ hk => hk.2) (.slice none 0 0)) (fun _ h_ => h_.1))))); (case side6 => exact (Kd.R_reads' HO562.out).2.1); rintro e w43 ⟨v576, v579, rfl, ho0, ho1, hb⟩; refine ⟨_, rfl, ?_⟩; have n0_ := Aside0.mk (Kd.R_below (rC (a := by exact (Kd.R_mono (Kd.R_far (p := ⟨gb550, 0, none⟩) (Kd.R_far (p := ⟨gb550, 2, none⟩) (Kd.R_far (p := ⟨gb550, 1, none⟩) (Kd.R_far (p := ⟨gb550, 0, none⟩) (Kd.R_types HO556.out BK550.out (by decide)) (fun _ hk => hk.2) (.slice Ao39 t554.length co39)) (fun _ hk => hk.2) (.slice Ao41 t557.length co41)) (fun _ hk => hk.2) (.slice Ao42 t560.length co42)) (fun _ hk => hk.2) (.slice none 0 0)) (fun _ h_ => h_.1)))) hb); have n1_ := Aside0.mk (Kd.R_mono (Kd.R_told (Kd.R_told (Kd.R_old (rC (a := by exact (Kd.R_mono (Kd.R_far (p := ⟨gb550, 0, none⟩) (Kd.R_far (p := ⟨gb550, 2, none⟩) (Kd.R_far (p := ⟨gb550, 1, none⟩) (Kd.R_far (p := ⟨gb550, 0, none⟩) (Kd.R_types HO559.out BK550.out (by decide)) (fun _ hk => hk.2) (.slice Ao39 t554.length co39)) (fun _ hk => hk.2) (.slice Ao41 t557.length co41)) (fun _ hk => hk.2) (.slice Ao42 t560.length co42)) (fun _ hk => hk.2) (.slice none 0 0)) (fun _ h_ => h_.1)))) hb) (Kd.R_base ho0)) (Kd.R_base ho1)) (fun _ h_ => h_.1)); have n2_ := Aside0.mk (Kd.R_mono (Kd.R_told (Kd.R_told (Kd.R_old (rC (a := by exact (Kd.R_mono (Kd.R_far (p := ⟨gb550, 0, none⟩) (Kd.R_far (p := ⟨gb550, 2, none⟩) (Kd.R_far (p := ⟨gb550, 1, none⟩) (Kd.R_far (p := ⟨gb550, 0, none⟩) (Kd.R_types HO562.out BK550.out (by decide)) (fun _ hk => hk.2) (.slice Ao39 t554.length co39)) (fun _ hk => hk.2) (.slice Ao41 t557.length co41)) (fun _ hk => hk.2) (.slice Ao42 t560.length co42)) (fun _ hk => hk.2) (.slice none 0 0)) (fun _ h_ => h_.1)))) hb) (Kd.R_base ho0)) (Kd.R_base ho1)) (fun _ h_ => h_.1)); have n3_ := Aside0.mk (Kd.R_lower (Kd.R_new' (Kd.R_new' ho0 (Kd.R_lt (rC (a := by exact (Kd.R_mono (Kd.R_far (p := ⟨gb550, 0, none⟩) (Kd.R_far (p := ⟨gb550, 2, none⟩) (Kd.R_far (p := ⟨gb550, 1, none⟩) (Kd.R_far (p := ⟨gb550, 0, none⟩) (Kd.R_types HO559.out BK550.out (by decide)) (fun _ hk => hk.2) (.slice Ao39 t554.length co39)) (fun _ hk => hk.2) (.slice Ao41 t557.length co41)) (fun _ hk => hk.2) (.slice Ao42 t560.length co42)) (fun _ hk => hk.2) (.slice none 0 0)) (fun _ h_ => h_.1)))))) (Kd.R_lt (rC (a := by exact (Kd.R_mono (Kd.R_far (p := ⟨gb550, 0, none⟩) (Kd.R_far (p := ⟨gb550, 2, none⟩) (Kd.R_far (p := ⟨gb550, 1, none⟩) (Kd.R_far (p := ⟨gb550, 0, none⟩) (Kd.R_types HO562.out BK550.out (by decide)) (fun _ hk => hk.2) (.slice Ao39 t554.length co39)) (fun _ hk => hk.2) (.slice Ao41 t557.length co41)) (fun _ hk => hk.2) (.slice Ao42 t560.length co42)) (fun _ hk => hk.2) (.slice none 0 0)) (fun _ h_ => h_.1)))))) (below_size (hA HB.out))); have n4_ := Aside0.mk (Kd.R_lower (Kd.R_new' (Kd.R_new' ho1 (Kd.R_lt (rC (a := by exact (Kd.R_mono (Kd.R_far (p := ⟨gb550, 0, none⟩) (Kd.R_far (p := ⟨gb550, 2, none⟩) (Kd.R_far (p := ⟨gb550, 1, none⟩) (Kd.R_far (p := ⟨gb550, 0, none⟩) (Kd.R_types HO559.out BK550.out (by decide)) (fun _ hk => hk.2) (.slice Ao39 t554.length co39)) (fun _ hk => hk.2) (.slice Ao41 t557.length co41)) (fun _ hk => hk.2) (.slice Ao42 t560.length co42)) (fun _ hk => hk.2) (.slice none 0 0)) (fun _ h_ => h_.1)))))) (Kd.R_lt (rC (a := by exact (Kd.R_mono (Kd.R_far (p := ⟨gb550, 0, none⟩) (Kd.R_far (p := ⟨gb550, 2, none⟩) (Kd.R_far (p := ⟨gb550, 1, none⟩) (Kd.R_far (p := ⟨gb550, 0, none⟩) (Kd.R_types HO562.out BK550.out (by decide)) (fun _ hk => hk.2) (.slice Ao39 t554.length co39)) (fun _ hk => hk.2) (.slice Ao41 t557.length co41)) (fun _ hk => hk.2) (.slice Ao42 t560.length co42)) (fun _ hk => hk.2) (.slice none 0 0)) (fun _ h_ => h_.1)))))) (below_size (hA HB.out))); have n5_ := Aside0.mk (blk_below (g := gb550) (o := .cells #[.slice none 0 0, .slice Ao41 t557.length co41, .slice Ao42 t560.length co42] 29 (0, 0)) (by refine bC (a := ?_); refine blk_put (cs := #[.slice Ao39 t554.length co39, .slice Ao41 t557.length co41, .slice Ao42 t560.length co42]) ?_ 0 _ rfl; refine bC (a := ?_); refine blk_put (cs := #[.slice Ao39 t554.length co39, .slice Ao41 t557.length co41, .slice A0_2 l0_2.length c0_2]) ?_ 2 _ rfl; refine bC (a := ?_); refine blk_put (cs := #[.slice Ao39 t554.length co39, .slice A0_1 l0_1.length c0_1, .slice A0_2 l0_2.length c0_2]) ?_ 1 _ rfl; refine bC (a := ?_); refine blk_put (cs := #[.slice A0_0 l0_0.length c0_0, .slice A0_1 l0_1.length c0_1, .slice A0_2 l0_2.length c0_2]) ?_ 0 _ rfl; refine bC (a := ?_); exact BK550.out) hb); have n6_ := Aside0.mk (blk_below (g := gb551) (o := .cells #[.slice none 0 0, .slice none 0 0, .slice none 0 0] 29 (0, 0)) (by refine bC (a := ?_); refine blk_far ?_ NB551_550.out _; refine bC (a := ?_); refine blk_far ?_ NB551_550.out _; refine bC (a := ?_); refine blk_far ?_ NB551_550.out _; refine bC (a := ?_); refine blk_far ?_ NB551_550.out _; refine bC (a := ?_); exact BK551.out) hb); have n7_ := Aside0.mk (below_step (hA HB.out) hb); clear HO556; clear HO559; clear HO562; clear BK550; clear BK551; clear HB; have HO556 := n0_; have HO559 := n1_; have HO562 := n2_; have HO577 := n3_; have HO580 := n4_; have BK550 := n5_; have BK551 := n6_; have HB := n7_; clear n0_ n1_ n2_ n3_ n4_ n5_ n6_ n7_; (try clear hb); (try clear hb2); (try clear hk); (try clear hi); (try clear ho0); (try clear ho1); obtain ⟨Ao44, co44, eo44⟩ := Kd.R_slice HO577.out; subst eo44; have hcz45_0 : w43.cell? ⟨gb550, 0, none⟩ = some (.slice none 0 0) := (blk_cell BK550.out 0).trans rfl; have hcz45_1 : w43.cell? ⟨gb550, 1, none⟩ = some (.slice Ao41 t557.length co41) := (blk_cell BK550.out 1).trans rfl; have hcz45_2 : w43.cell? ⟨gb550, 2, none⟩ = some (.slice Ao42 t560.length co42) := (blk_cell BK550.out 2).trans rfl; have hfz45_0 := blk_frozen BK550.out 0; have hfz45_1 := blk_frozen BK550.out 1; have hfz45_2 := blk_frozen BK550.out 2; obtain ⟨Ao46, co46, eo46⟩ := Kd.R_slice HO580.out; subst eo46; have hcz47_0 : w43.cell? ⟨gb551, 0, none⟩ = some (.slice none 0 0) := (blk_cell BK551.out 0).trans rfl; have hcz47_1 : w43.cell? ⟨gb551, 1, none⟩ = some (.slice none 0 0) := (blk_cell BK551.out 1).trans rfl; have hcz47_2 : w43.cell? ⟨gb551, 2, none⟩ = some (.slice none 0 0) := (blk_cell BK551.out 2).trans rfl; have hfz47_0 := blk_frozen BK551.out 0; have hfz47_1 := blk_frozen BK551.out 1; have hfz47_2 := blk_frozen BK551.out 2))
      refine bodyPost_ret (results_ct rfl _ _ gb551 29 #[.slice none 0 0, .slice Ao44 t575.length co44, .slice Ao46 t578.length co46] (0, 0) _ rfl (by refine bC (a := ?_); refine blk_put (cs := #[.slice none 0 0, .slice Ao44 t575.length co44, .slice none 0 0]) ?_ 2 _ rfl; refine bC (a := ?_); refine blk_put (cs := #[.slice none 0 0, .slice none 0 0, .slice none 0 0]) ?_ 1 _ rfl; refine bC (a := ?_); refine blk_put (cs := #[.slice none 0 0, .slice none 0 0, .slice none 0 0]) ?_ 0 _ rfl; refine bC (a := ?_); refine blk_far ?_ NB551_550.out _; refine bC (a := ?_); refine blk_far ?_ NB551_550.out _; refine bC (a := ?_); exact BK551.out) Try.underlying29 rfl (by kernel_rfl)) rfl ?_
      exact ⟨_, _, _, er, by first | exact Kd.R_nil _ _ _ _ _ | exact Kd.N_nil _ _ _ _ _ | exact Kd.V_nil _ _ _ _ _ | exact Kd.Q_nil _ _ _ _ _ | exact Kd.S_nil _ _ _ _ _, by refine rC (a := ?_); exact Kd.R_mono (Kd.R_far (p := ⟨gb551, 2, none⟩) (Kd.R_far (p := ⟨gb551, 1, none⟩) (Kd.R_far (p := ⟨gb551, 0, none⟩) (Kd.R_far (p := ⟨gb550, 2, none⟩) (Kd.R_far (p := ⟨gb550, 1, none⟩) (Kd.R_types (Kd.R_types HO577.out BK550.out (by decide)) BK551.out (by decide)) (fun _ hk => hk.1.2) (.slice Ao44 t575.length co44)) (fun _ hk => hk.1.2) (.slice Ao46 t578.length co46)) (fun _ hk => hk.2) (.slice none 0 0)) (fun _ hk => hk.2) (.slice Ao44 t575.length co44)) (fun _ hk => hk.2) (.slice Ao46 t578.length co46)) (fun _ hk => hk.1.1.1.1), by refine rC (a := ?_); exact Kd.R_mono (Kd.R_far (p := ⟨gb551, 2, none⟩) (Kd.R_far (p := ⟨gb551, 1, none⟩) (Kd.R_far (p := ⟨gb551, 0, none⟩) (Kd.R_far (p := ⟨gb550, 2, none⟩) (Kd.R_far (p := ⟨gb550, 1, none⟩) (Kd.R_types (Kd.R_types HO580.out BK550.out (by decide)) BK551.out (by decide)) (fun _ hk => hk.1.2) (.slice Ao44 t575.length co44)) (fun _ hk => hk.1.2) (.slice Ao46 t578.length co46)) (fun _ hk => hk.2) (.slice none 0 0)) (fun _ hk => hk.2) (.slice Ao44 t575.length co44)) (fun _ hk => hk.2) (.slice Ao46 t578.length co46)) (fun _ hk => hk.1.1.1.1), hA HB.out⟩
     ·rw [if_neg c34] at H
      have c34b0 : (a1 == 3) = false := beq_eq_false_iff_ne.mpr c34
      have c34b1 : (a1 != 3) = true := bne_iff_ne.mpr c34
      simp only [Option.some.injEq, Prod.mk.injEq] at H
      obtain ⟨rfl, rfl, rfl, rfl⟩ := H
      have hnb48 := NB550_551.out
      have hnc48 := NB551_550.out
      have hcz49_0 : wc.cell? ⟨gb550, 0, none⟩ = some (.slice A0_0 l0_0.length c0_0) := (blk_cell BK550.out 0).trans rfl
      have hcz49_1 : wc.cell? ⟨gb550, 1, none⟩ = some (.slice A0_1 l0_1.length c0_1) := (blk_cell BK550.out 1).trans rfl
      have hcz49_2 : wc.cell? ⟨gb550, 2, none⟩ = some (.slice A0_2 l0_2.length c0_2) := (blk_cell BK550.out 2).trans rfl
      have hfz49_0 := blk_frozen BK550.out 0
      have hfz49_1 := blk_frozen BK550.out 1
      have hfz49_2 := blk_frozen BK550.out 2
      go_wp2_with (first | ((with_reducible refine gate_callee (f := 55) rfl ?_); refine goesL_ (some 16) rfl rfl Try.func55 (by kernel_rfl) rfl #[.agg #[.slice A0_0 l0_0.length c0_0, .slice A0_1 l0_1.length c0_1, .slice A0_2 l0_2.length c0_2]] rfl ar ?_; (with_reducible refine (impl_ownBook.calls kj2 _ _ l0_0 _ _ l0_1 _ _ l0_2 t554 t557 t560 _ ?side1 ?side2 ?side3 ?side4 ?side5 ?side6 A18.out).mono ?_); (case side1 => exact cA (Kd.C_below HR0_0.out HB.out)); (case side2 => exact HC0_0.out); (case side3 => exact cA (Kd.C_below HR0_1.out HB.out)); (case side4 => exact HC0_1.out); (case side5 => exact cA (Kd.C_below HR0_2.out HB.out)); (case side6 => exact HC0_2.out); rintro e w50 ⟨v555, v558, v561, rfl, ho0, ho1, ho2, hb⟩; refine ⟨_, rfl, ?_⟩; have n0_ := Aside0.mk (Kd.R_lower ho0 (below_size (hA HB.out))); have n1_ := Aside0.mk (Kd.R_lower ho1 (below_size (hA HB.out))); have n2_ := Aside0.mk (Kd.R_lower ho2 (below_size (hA HB.out))); have n3_ := Aside0.mk (bB BK550.out hb); have n4_ := Aside0.mk (bB BK551.out hb); have n5_ := Aside0.mk (below_step (hA HB.out) hb); clear BK550; clear BK551; clear HB; have HO556 := n0_; have HO559 := n1_; have HO562 := n2_; have BK550 := n3_; have BK551 := n4_; have HB := n5_; clear n0_ n1_ n2_ n3_ n4_ n5_; (try clear hb); (try clear hb2); (try clear hk); (try clear hi); (try clear ho0); (try clear ho1); (try clear ho2); obtain ⟨Ao51, co51, eo51⟩ := Kd.R_slice HO556.out; subst eo51; have hcz52_0 : w50.cell? ⟨gb550, 0, none⟩ = some (.slice A0_0 l0_0.length c0_0) := (blk_cell BK550.out 0).trans rfl; have hcz52_1 : w50.cell? ⟨gb550, 1, none⟩ = some (.slice A0_1 l0_1.length c0_1) := (blk_cell BK550.out 1).trans rfl; have hcz52_2 : w50.cell? ⟨gb550, 2, none⟩ = some (.slice A0_2 l0_2.length c0_2) := (blk_cell BK550.out 2).trans rfl; have hfz52_0 := blk_frozen BK550.out 0; have hfz52_1 := blk_frozen BK550.out 1; have hfz52_2 := blk_frozen BK550.out 2; obtain ⟨Ao53, co53, eo53⟩ := Kd.R_slice HO559.out; subst eo53; obtain ⟨Ao54, co54, eo54⟩ := Kd.R_slice HO562.out; subst eo54; have hcz55_0 : w50.cell? ⟨gb551, 0, none⟩ = some (.slice none 0 0) := (blk_cell BK551.out 0).trans rfl; have hcz55_1 : w50.cell? ⟨gb551, 1, none⟩ = some (.slice none 0 0) := (blk_cell BK551.out 1).trans rfl; have hcz55_2 : w50.cell? ⟨gb551, 2, none⟩ = some (.slice none 0 0) := (blk_cell BK551.out 2).trans rfl; have hfz55_0 := blk_frozen BK551.out 0; have hfz55_1 := blk_frozen BK551.out 1; have hfz55_2 := blk_frozen BK551.out 2))
      refine bodyPost_ret (results_ct rfl _ _ gb551 29 #[.slice Ao51 t554.length co51, .slice Ao53 t557.length co53, .slice Ao54 t560.length co54] (0, 0) _ rfl (by refine bC (a := ?_); refine blk_put (cs := #[.slice Ao51 t554.length co51, .slice Ao53 t557.length co53, .slice none 0 0]) ?_ 2 _ rfl; refine bC (a := ?_); refine blk_put (cs := #[.slice Ao51 t554.length co51, .slice none 0 0, .slice none 0 0]) ?_ 1 _ rfl; refine bC (a := ?_); refine blk_put (cs := #[.slice none 0 0, .slice none 0 0, .slice none 0 0]) ?_ 0 _ rfl; refine bC (a := ?_); refine blk_far ?_ NB551_550.out _; refine bC (a := ?_); refine blk_far ?_ NB551_550.out _; refine bC (a := ?_); refine blk_far ?_ NB551_550.out _; refine bC (a := ?_); exact BK551.out) Try.underlying29 rfl (by kernel_rfl)) rfl ?_
      exact ⟨_, _, _, er, by refine rC (a := ?_); exact Kd.R_mono (Kd.R_far (p := ⟨gb551, 2, none⟩) (Kd.R_far (p := ⟨gb551, 1, none⟩) (Kd.R_far (p := ⟨gb551, 0, none⟩) (Kd.R_far (p := ⟨gb550, 2, none⟩) (Kd.R_far (p := ⟨gb550, 1, none⟩) (Kd.R_far (p := ⟨gb550, 0, none⟩) (Kd.R_types (Kd.R_types HO556.out BK550.out (by decide)) BK551.out (by decide)) (fun _ hk => hk.1.2) (.slice Ao51 t554.length co51)) (fun _ hk => hk.1.2) (.slice Ao53 t557.length co53)) (fun _ hk => hk.1.2) (.slice Ao54 t560.length co54)) (fun _ hk => hk.2) (.slice Ao51 t554.length co51)) (fun _ hk => hk.2) (.slice Ao53 t557.length co53)) (fun _ hk => hk.2) (.slice Ao54 t560.length co54)) (fun _ hk => trivial), by refine rC (a := ?_); exact Kd.R_mono (Kd.R_far (p := ⟨gb551, 2, none⟩) (Kd.R_far (p := ⟨gb551, 1, none⟩) (Kd.R_far (p := ⟨gb551, 0, none⟩) (Kd.R_far (p := ⟨gb550, 2, none⟩) (Kd.R_far (p := ⟨gb550, 1, none⟩) (Kd.R_far (p := ⟨gb550, 0, none⟩) (Kd.R_types (Kd.R_types HO559.out BK550.out (by decide)) BK551.out (by decide)) (fun _ hk => hk.1.2) (.slice Ao51 t554.length co51)) (fun _ hk => hk.1.2) (.slice Ao53 t557.length co53)) (fun _ hk => hk.1.2) (.slice Ao54 t560.length co54)) (fun _ hk => hk.2) (.slice Ao51 t554.length co51)) (fun _ hk => hk.2) (.slice Ao53 t557.length co53)) (fun _ hk => hk.2) (.slice Ao54 t560.length co54)) (fun _ hk => hk.1.1), by refine rC (a := ?_); exact Kd.R_mono (Kd.R_far (p := ⟨gb551, 2, none⟩) (Kd.R_far (p := ⟨gb551, 1, none⟩) (Kd.R_far (p := ⟨gb551, 0, none⟩) (Kd.R_far (p := ⟨gb550, 2, none⟩) (Kd.R_far (p := ⟨gb550, 1, none⟩) (Kd.R_far (p := ⟨gb550, 0, none⟩) (Kd.R_types (Kd.R_types HO562.out BK550.out (by decide)) BK551.out (by decide)) (fun _ hk => hk.1.2) (.slice Ao51 t554.length co51)) (fun _ hk => hk.1.2) (.slice Ao53 t557.length co53)) (fun _ hk => hk.1.2) (.slice Ao54 t560.length co54)) (fun _ hk => hk.2) (.slice Ao51 t554.length co51)) (fun _ hk => hk.2) (.slice Ao53 t557.length co53)) (fun _ hk => hk.2) (.slice Ao54 t560.length co54)) (fun _ hk => hk.1.1), hA HB.out⟩

-- NOT PRINTED: function 5 (laws_FnMendedBook)

end Go.Proofs.Ytngnkfpciloamaa.MFnMendedBook
