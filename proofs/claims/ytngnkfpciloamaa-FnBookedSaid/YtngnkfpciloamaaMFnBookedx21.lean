/- What the code of the law FnBooked answers. -/
import Derived.Test.YtngnkfpciloamaaShortFnBooked
import Derived.Test.YtngnkfpciloamaaMFnBookedx8
import Derived.Test.YtngnkfpciloamaaMFnBookedx9
import Derived.Test.YtngnkfpciloamaaMFnBookedx11
import Derived.Test.YtngnkfpciloamaaMFnBookedx18
import Derived.Test.YtngnkfpciloamaaMFnBookedx19
namespace Go.Proofs.Ytngnkfpciloamaa.MFnBooked
open Go Go.RowKit Go.Proofs.YtngnkfpciloamaaW.PrintWords Go.Proofs.YtngnkfpciloamaaW.PrintLast Go.Proofs.YtngnkfpciloamaaW.PrintMore
attribute [local go_sem] max2_int min2_int max_two min_two max_three min_three max_four min_four
set_option linter.unusedVariables false
set_option linter.unusedSimpArgs false
theorem R_any {α : Type} {kd : Kd α} {e base : Nat} {ok : Nat → Prop} {W : World} {v : Value} {xs : List α} (h : Kd.R kd e W base ok v xs) : Kd.R kd e W 0 (fun _ => True) v xs := Kd.R_lower (Kd.R_mono h (fun _ _ => trivial)) (Nat.zero_le _)
theorem R_set3 {α : Type} {kd : Kd α} {e base g : Nat} {ok : Nat → Prop} {W : World} {v : Value} {xs : List α} {a b c : Value} (h : Kd.R kd e W base ok v xs) (hb : W.heap[g]? = some (.cells #[a, b, c] 29 (0, 0))) (ht : ∀ q, q ∈ e :: kd.E → q ≠ 29) (x y z : Value) : Kd.R kd e (((W.setCell ⟨g, 0, none⟩ x).setCell ⟨g, 1, none⟩ y).setCell ⟨g, 2, none⟩ z) base ok v xs := by
 have P1 := blk_put hb 0 x (cs' := #[x, b, c]) rfl
 have P2 := blk_put P1 1 y (cs' := #[x, y, c]) rfl
 exact R_set (R_set (R_set h hb ht 0 x) P1 ht 1 y) P2 ht 2 z
structure B3 (W : World) (vT vL vC : Value) (T : List S50) (L C : List Int) : Prop where
 oT : Kd.R k50 50 W 0 (fun _ => True) vT T
 oL : Kd.R (Kd.int .i64) 3 W 0 (fun _ => True) vL L
 oC : Kd.R (Kd.int .i64) 3 W 0 (fun _ => True) vC C
theorem B3.of {W : World} {vT vL vC : Value} {T : List S50} {L C : List Int} {b1 b2 b3 : Nat} {k1 k2 k3 : Nat → Prop} (hT : Kd.R k50 50 W b1 k1 vT T) (hL : Kd.R (Kd.int .i64) 3 W b2 k2 vL L) (hC : Kd.R (Kd.int .i64) 3 W b3 k3 vC C) : B3 W vT vL vC T L C := ⟨R_any hT, R_any hL, R_any hC⟩
theorem B3.below {W W' : World} {vT vL vC : Value} {T : List S50} {L C : List Int} (h : B3 W vT vL vC T L C) (hB : Below W.heap.size W W') : B3 W' vT vL vC T L C := ⟨Kd.R_below h.oT hB, Kd.R_below h.oL hB, Kd.R_below h.oC hB⟩
theorem B3.set3 {W : World} {g : Nat} {vT vL vC a b c : Value} {T : List S50} {L C : List Int} (h : B3 W vT vL vC T L C) (hb : W.heap[g]? = some (.cells #[a, b, c] 29 (0, 0))) (x y z : Value) : B3 (((W.setCell ⟨g, 0, none⟩ x).setCell ⟨g, 1, none⟩ y).setCell ⟨g, 2, none⟩ z) vT vL vC T L C :=
 ⟨R_set3 h.oT hb (by decide) x y z, R_set3 h.oL hb (by decide) x y z, R_set3 h.oC hb (by decide) x y z⟩
theorem bel_set3 {w W : World} {g : Nat} (h : Below w.heap.size w W) (hg : w.heap.size ≤ g) (x y z : Value) : Below w.heap.size w (((W.setCell ⟨g, 0, none⟩ x).setCell ⟨g, 1, none⟩ y).setCell ⟨g, 2, none⟩ z) :=
 ((h.setCell (p := ⟨g, 0, none⟩) hg x).setCell (p := ⟨g, 1, none⟩) hg y).setCell (p := ⟨g, 2, none⟩) hg z
structure Bg (n m : Nat) (t0 t1 t2 : Int) (a : List S50) (b c : List Int) : Prop where
 n1 : a.length = n + 1
 n2 : b.length = m
 e0 : rd_T50 a (n : Int) = ⟨t0, t1, t2⟩
 p0 : 0 ≤ t0 ∧ t0 < (b.length : Int) ∧ rd b t0 = (n : Int)
 p1 : 0 ≤ t1 ∧ t1 < (b.length : Int) ∧ rd b t1 = (n : Int)
 f : ∃ k Z, impl_Faults.f k a b c = some Z ∧ Z.length = 0
 r : ∃ k T5 L5 C5, impl_Restart.f k a b c 1 = some (T5, L5, C5, true) ∧ T5.length = n + 1 ∧ ∃ k, laws_sameInts.f k L5 b = some true
structure Bf (T : List S50) (L C : List Int) (t0 t1 t2 : Int) : Prop where
 all : ∃ a b c o, (∃ k, impl_Add18.f k T L C t0 t1 t2 = some (a, b, c, o)) ∧ (∃ k T2 L2 C2, spec_Add18.f k T L C t0 t1 t2 = some (T2, L2, C2, o)) ∧ (o = false → a.length = T.length) ∧ (o = true → Bg T.length L.length t0 t1 t2 a b c)
def Bs : Prop := ∃ k Ts Ls Cs, impl_Add18.f k ([] : List S50) [-1, -1] ([] : List Int) 0 1 (-1) = some (Ts, Ls, Cs, true) ∧ ∃ k, laws_sameInts.f k Ls [0, 0] = some true
def laws_FnBooked.T14 : Bool × List (List Nat × List Nat) := (true, [([], []), ([0], [0]), ([1], [1]), ([], []), ([3], [3]), ([2, 4], [2, 4]), ([5], [5]), ([6], [6]), ([7, 6], [6, 7]), ([8, 6], [6, 8]), ([6], [6]), ([10, 6], [6, 10]), ([11, 6], [6, 11]), ([9, 12, 6], [6, 9, 12]), ([6, 13], [6, 13]), ([14, 6], [14]), ([15], [15]), ([16, 15], [15, 16]), ([15], [15]), ([17, 18, 15], [15, 17, 18]), ([19, 15], [15, 19]), ([15], [15]), ([20, 21, 15], [15, 20, 21]), ([15, 22], [15, 22]), ([23, 15], [23]), ([24], [24]), ([25, 24], [24, 25]), ([24], [24]), ([27, 24], [24, 27]), ([26, 28, 24], [24, 26, 28]), ([29, 24], [24, 29]), ([24], [24]), ([30, 31, 24], [24, 30, 31]), ([24, 32], [24, 32]), ([33, 24], [33]), ([34], [34]), ([35, 34], [34, 35]), ([34], [34]), ([37, 34], [34, 37]), ([36, 38, 34], [34, 36, 38]), ([39, 34], [34, 39]), ([34], [34]), ([40, 41, 34], [34, 40, 41]), ([34, 42], [34, 42]), ([43, 34], [43]), ([44], [44]), ([45, 44, 44], [44, 45]), ([46, 44], [44, 46]), ([47, 44], [44, 47]), ([44, 48], [44, 48])])
def laws_FnBooked.B14 : List Nat := [0, 1, 3, 0, 8, 31, 63, 127, 255, 511, 127, 1151, 3199, 8191, 16383, 32767, 65535, 131071, 65535, 524287, 1048575, 65535, 4194303, 8388607, 16777215, 33554431, 67108863, 33554431, 167772159, 536870911, 1073741823, 33554431, 4294967295, 8589934591, 17179869183, 34359738367, 68719476735, 34359738367, 171798691839, 549755813887, 1099511627775, 34359738367, 4398046511103, 8796093022207, 17592186044415, 35184372088831, 70368744177663, 140737488355327, 281474976710655, 562949953421311]
theorem laws_FnBooked.tab14 : rtab .any (opsOf Try.f7 14) = laws_FnBooked.T14 := by kernel_rfl
theorem laws_FnBooked.bits14 : waitsOk laws_FnBooked.T14.2 laws_FnBooked.B14 = true := by kernel_rfl
set_option maxHeartbeats 4000000 in
set_option maxRecDepth 100000 in
theorem laws_FnBooked.yes (F : Facts) (FM : ∀ (T : List S50) (L C : List Int), T.length ≤ 31 → L.length ≤ 31 → C.length ≤ 31 → ∃ k T1 L1 C1 G, spec_MendBook.f k T L C = some (T1, L1, C1, G) ∧ T1.length ≤ 31 ∧ L1.length ≤ 31 ∧ C1.length ≤ 31) (HM : ∀ T L C t0 t1 t2, T.length ≤ 31 → L.length ≤ 31 → C.length ≤ 31 → Bf T L C t0 t1 t2) (HS : Bs) (kn : Nat) (ha : Int) (A0 : Option Addr) (c0 : Nat) (l0 : List Int) (w : World) (hr0 : Kd.C (Kd.int .u8) w A0 l0.length l0) (hc0 : l0.length ≤ c0) (hN : spec_l1New.f kn l0 = some (l0, 0, ha)) :
  Calls Try.prog 7 #[.slice A0 l0.length c0] w fun e w' => e = .returned (.bool true) ∧ Below w.heap.size w w' := by
 have hu29 := Try.underlying29
 have hu50 := Try.underlying50
 have hN := mk0 hN
 have hbel : Below w.heap.size w w := Below.refl _ _
 go_enter Try.func7, Try.ntmps7
 by_cases hbig : (l0.length : Int) > 1048576
 ·have cb : decide ((l0.length : Int) > 1048576) = true := decide_eq_true hbig
  go_wp2_with (first
   | (go_at_call 24; (with_reducible refine (laws_big.calls _ _ l0 true _ hr0 hc0 (by unfold laws_big.f; rw [cb])).mono ?_); rintro e wa ⟨rfl, hz⟩; have kf := below_drawn hz; clear hz))
  go_ret
  exact ⟨rfl, kf⟩
 have cb : decide ((l0.length : Int) > 1048576) = false := decide_eq_false hbig
 have hlen : l0.length ≤ 1048576 := by omega
 clear hbig
 go_upto_region 4 with (first
  | (go_at_call 24; (with_reducible refine (laws_big.calls _ _ l0 false _ hr0 hc0 (by unfold laws_big.f; rw [cb])).mono ?_); rintro e wa ⟨rfl, hz⟩; have kf := below_drawn hz; clear hz; replace hbel := below_step hbel kf; clear kf)
  | (go_at_call 30; (with_reducible refine (spec_DrawAdd18.drawn F FM kn ha _ _ l0 _ (Kd.C_below hr0 hbel) hc0 hlen hN.out).mono ?_); rintro e wa ⟨u0, u1, u2, T, L, C, t0, t1, t2, rfl, hK, hS, kf⟩; replace hbel := below_step hbel kf; clear kf; obtain ⟨AbT, cbT, ebT⟩ := Kd.R_slice hK.oT; subst ebT; obtain ⟨AbL, cbL, ebL⟩ := Kd.R_slice hK.oL; subst ebL; obtain ⟨AbC, cbC, ebC⟩ := Kd.R_slice hK.oC; subst ebC)
  | ((with_reducible refine gate_dst (N := 3) rfl ?_); refine box_event ?hg (N := 3) ?hd (cs := #[.slice none 0 0, .slice none 0 0, .slice none 0 0]) (t := 29) ?hr ?_; (case hd | hg => rfl); (case hr => first | (go_simp; done) | (go_simp; rfl)); intro g3 hg wb hb3 kf; have ge3 : w.heap.size ≤ g3 := by { rw [hg]; exact below_size hbel }; replace hbel := below_step hbel kf; replace hK := hK.below kf; clear hg kf)
  | ((with_reducible refine gate_dst (N := 4) rfl ?_); refine box_event ?hg (N := 4) ?hd (cs := #[.int .i64 0, .int .i64 0, .int .i64 0]) (t := 50) ?hr ?_; (case hd | hg => rfl); (case hr => first | (go_simp; done) | (go_simp; rfl)); intro g4 hg wb4 hb4 kf; have ge4 : w.heap.size ≤ g4 := by { rw [hg]; exact below_size hbel }; have n3_4 : g3 ≠ g4 := by { rw [hg]; exact Nat.ne_of_lt (blk_lt hb3) }; have hl4 : ∀ j, bkOwn (.slice AbT T.length cbT) (.slice AbL L.length cbL) (.slice AbC C.length cbC) j → j ≠ g4 := by { rw [hg]; exact fun j hj => Nat.ne_of_lt (hK.lt hj) }; replace hbel := below_step hbel kf; replace hK := hK.below kf; replace hb3 := blk_below hb3 kf; clear hg kf; obtain ⟨b0, b1, b2⟩ := cells3 hb3; have z0 := blk_frozen hb3 0; have z1 := blk_frozen hb3 1; have z2 := blk_frozen hb3 2; obtain ⟨d0, d1, d2⟩ := cells3 hb4; have y0 := blk_frozen hb4 0; have y1 := blk_frozen hb4 1; have y2 := blk_frozen hb4 2; have n4_3 := Ne.symm n3_4))
 have k3 := put3 hb3 (.slice AbT T.length cbT) (.slice AbL L.length cbL) (.slice AbC C.length cbC)
 replace hb4 := far3 hb4 n4_3 (.slice AbT T.length cbT) (.slice AbL L.length cbL) (.slice AbC C.length cbC)
 replace hK := store_bk (x := .slice AbT T.length cbT) (y := .slice AbL L.length cbL) (z := .slice AbC C.length cbC) hK hb3
 replace hbel := bel_set3 hbel ge3 (.slice AbT T.length cbT) (.slice AbL L.length cbL) (.slice AbC C.length cbC)
 generalize (((wb4.setCell ⟨g3, 0, none⟩ (.slice AbT T.length cbT)).setCell ⟨g3, 1, none⟩ (.slice AbL L.length cbL)).setCell ⟨g3, 2, none⟩ (.slice AbC C.length cbC)) = Wa at k3 hb4 hK hbel ⊢
 clear hb3 b0 b1 b2 z0 z1 z2 d0 d1 d2 y0 y1 y2
 have k4 := put3 hb4 (.int .i64 t0) (.int .i64 t1) (.int .i64 t2)
 replace k3 := far3 k3 n3_4 (.int .i64 t0) (.int .i64 t1) (.int .i64 t2)
 replace hbel := bel_set3 hbel ge4 (.int .i64 t0) (.int .i64 t1) (.int .i64 t2)
 replace hK := ((hK.far (p := ⟨g4, 0, none⟩) hl4 (.int .i64 t0)).far (p := ⟨g4, 1, none⟩) hl4 (.int .i64 t1)).far (p := ⟨g4, 2, none⟩) hl4 (.int .i64 t2)
 generalize (((Wa.setCell ⟨g4, 0, none⟩ (.int .i64 t0)).setCell ⟨g4, 1, none⟩ (.int .i64 t1)).setCell ⟨g4, 2, none⟩ (.int .i64 t2)) = Wb at k3 k4 hK hbel ⊢
 clear hb4 hl4
 have hB := B3.of hK.oT hK.oL hK.oC
 clear hK
 obtain ⟨q30, q31, q32⟩ := cells3 k3
 obtain ⟨q40, q41, q42⟩ := cells3 k4
 obtain ⟨a, b, c, o, ⟨km1, m1⟩, ⟨km2, T2, L2, C2, m2⟩, hno, hyes⟩ := (HM T L C t0 t1 t2 hS.1 hS.2.1 hS.2.2).all
 have m1 := mk0 m1
 have m2 := mk0 m2
 have hlT := mk0 hS
 clear HM hS
 go_upto_region 5 with (first
  | (go_at_call 31; (with_reducible refine (impl_Add18.calls km1 _ _ T _ _ L _ _ C t0 t1 t2 a b c o _ (Kd.R_reads' hB.oT).2.2 (Kd.R_reads' hB.oT).2.1 (Kd.R_reads' hB.oL).2.2 (Kd.R_reads' hB.oL).2.1 (Kd.R_reads' hB.oC).2.2 (Kd.R_reads' hB.oC).2.1 m1.out).mono ?_); rintro e wa ⟨u0, u1, u2, rfl, o0, o1, o2, kf⟩; replace hbel := below_step hbel kf; replace hB := hB.below kf; replace k3 := blk_below k3 kf; replace k4 := blk_below k4 kf; clear kf; clear q30 q31 q32 q40 q41 q42; have hM := B3.of o0 o1 o2; clear o0 o1 o2; obtain ⟨AmT, cmT, emT⟩ := Kd.R_slice hM.oT; subst emT; obtain ⟨AmL, cmL, emL⟩ := Kd.R_slice hM.oL; subst emL; obtain ⟨AmC, cmC, emC⟩ := Kd.R_slice hM.oC; subst emC; obtain ⟨q30, q31, q32⟩ := cells3 k3; obtain ⟨q40, q41, q42⟩ := cells3 k4)
  | ((with_reducible refine gate_dst (N := 5) rfl ?_); (try (refine gate_guard (by rfl) ?_; dsimp only)); refine box_event ?hg (N := 5) ?hd (cs := #[.slice none 0 0, .slice none 0 0, .slice none 0 0]) (t := 29) ?hr ?_; (case hd | hg => rfl); (case hr => first | (go_simp; done) | (go_simp; rfl)); intro g5 hg wb hbox kf; have ge5 : w.heap.size ≤ g5 := by { rw [hg]; exact below_size hbel }; have n3_5 : g3 ≠ g5 := by { rw [hg]; exact Nat.ne_of_lt (blk_lt k3) }; have n4_5 : g4 ≠ g5 := by { rw [hg]; exact Nat.ne_of_lt (blk_lt k4) }; replace hbel := below_step hbel kf; replace hB := hB.below kf; replace k3 := blk_below k3 kf; replace k4 := blk_below k4 kf; replace hM := hM.below kf; clear hg kf; obtain ⟨b0, b1, b2⟩ := cells3 hbox; have z0 := blk_frozen hbox 0; have z1 := blk_frozen hbox 1; have z2 := blk_frozen hbox 2))
 have k5 := put3 hbox (.slice AmT a.length cmT) (.slice AmL b.length cmL) (.slice AmC c.length cmC)
 replace hbel := bel_set3 hbel ge5 (.slice AmT a.length cmT) (.slice AmL b.length cmL) (.slice AmC c.length cmC)
 replace hB := hB.set3 hbox (.slice AmT a.length cmT) (.slice AmL b.length cmL) (.slice AmC c.length cmC)
 replace k3 := far3 k3 n3_5 (.slice AmT a.length cmT) (.slice AmL b.length cmL) (.slice AmC c.length cmC)
 replace k4 := far3 k4 n4_5 (.slice AmT a.length cmT) (.slice AmL b.length cmL) (.slice AmC c.length cmC)
 replace hM := hM.set3 hbox (.slice AmT a.length cmT) (.slice AmL b.length cmL) (.slice AmC c.length cmC)
 generalize (((wb.setCell ⟨g5, 0, none⟩ (.slice AmT a.length cmT)).setCell ⟨g5, 1, none⟩ (.slice AmL b.length cmL)).setCell ⟨g5, 2, none⟩ (.slice AmC c.length cmC)) = W1 at k5 hbel hB k3 k4 hM ⊢
 clear hbox b0 b1 b2 z0 z1 z2 q30 q31 q32 q40 q41 q42
 obtain ⟨q30, q31, q32⟩ := cells3 k3
 obtain ⟨q40, q41, q42⟩ := cells3 k4
 obtain ⟨q50, q51, q52⟩ := cells3 k5
 go_upto_region 6 with (first
  | (go_at_call 32; (with_reducible refine (spec_Add18.calls km2 _ _ T _ _ L _ _ C t0 t1 t2 T2 L2 C2 o _ (Kd.R_reads' hB.oT).2.2 (Kd.R_reads' hB.oT).2.1 (Kd.R_reads' hB.oL).2.2 (Kd.R_reads' hB.oL).2.1 (Kd.R_reads' hB.oC).2.2 (Kd.R_reads' hB.oC).2.1 m2.out).mono ?_); rintro e wa ⟨u0, u1, u2, rfl, o0, o1, o2, kf⟩; replace hbel := below_step hbel kf; replace hB := hB.below kf; replace k3 := blk_below k3 kf; replace k4 := blk_below k4 kf; replace hM := hM.below kf; replace k5 := blk_below k5 kf; clear kf; clear q30 q31 q32 q40 q41 q42 q50 q51 q52; have hQ := B3.of o0 o1 o2; clear o0 o1 o2; obtain ⟨AqT, cqT, eqT⟩ := Kd.R_slice hQ.oT; subst eqT; obtain ⟨AqL, cqL, eqL⟩ := Kd.R_slice hQ.oL; subst eqL; obtain ⟨AqC, cqC, eqC⟩ := Kd.R_slice hQ.oC; subst eqC; obtain ⟨q30, q31, q32⟩ := cells3 k3; obtain ⟨q40, q41, q42⟩ := cells3 k4; obtain ⟨q50, q51, q52⟩ := cells3 k5)
  | ((with_reducible refine gate_dst (N := 7) rfl ?_); (try (refine gate_guard (by rfl) ?_; dsimp only)); refine box_event ?hg (N := 7) ?hd (cs := #[.slice none 0 0, .slice none 0 0, .slice none 0 0]) (t := 29) ?hr ?_; (case hd | hg => rfl); (case hr => first | (go_simp; done) | (go_simp; rfl)); intro g7 hg wb hbox kf; have ge7 : w.heap.size ≤ g7 := by { rw [hg]; exact below_size hbel }; have n3_7 : g3 ≠ g7 := by { rw [hg]; exact Nat.ne_of_lt (blk_lt k3) }; have n4_7 : g4 ≠ g7 := by { rw [hg]; exact Nat.ne_of_lt (blk_lt k4) }; have n5_7 : g5 ≠ g7 := by { rw [hg]; exact Nat.ne_of_lt (blk_lt k5) }; replace hbel := below_step hbel kf; replace hB := hB.below kf; replace k3 := blk_below k3 kf; replace k4 := blk_below k4 kf; replace hM := hM.below kf; replace k5 := blk_below k5 kf; replace hQ := hQ.below kf; clear hg kf; obtain ⟨b0, b1, b2⟩ := cells3 hbox; have z0 := blk_frozen hbox 0; have z1 := blk_frozen hbox 1; have z2 := blk_frozen hbox 2))
 have k7 := put3 hbox (.slice AqT T2.length cqT) (.slice AqL L2.length cqL) (.slice AqC C2.length cqC)
 replace hbel := bel_set3 hbel ge7 (.slice AqT T2.length cqT) (.slice AqL L2.length cqL) (.slice AqC C2.length cqC)
 replace hB := hB.set3 hbox (.slice AqT T2.length cqT) (.slice AqL L2.length cqL) (.slice AqC C2.length cqC)
 replace k3 := far3 k3 n3_7 (.slice AqT T2.length cqT) (.slice AqL L2.length cqL) (.slice AqC C2.length cqC)
 replace k4 := far3 k4 n4_7 (.slice AqT T2.length cqT) (.slice AqL L2.length cqL) (.slice AqC C2.length cqC)
 replace hM := hM.set3 hbox (.slice AqT T2.length cqT) (.slice AqL L2.length cqL) (.slice AqC C2.length cqC)
 replace k5 := far3 k5 n5_7 (.slice AqT T2.length cqT) (.slice AqL L2.length cqL) (.slice AqC C2.length cqC)
 replace hQ := hQ.set3 hbox (.slice AqT T2.length cqT) (.slice AqL L2.length cqL) (.slice AqC C2.length cqC)
 generalize (((wb.setCell ⟨g7, 0, none⟩ (.slice AqT T2.length cqT)).setCell ⟨g7, 1, none⟩ (.slice AqL L2.length cqL)).setCell ⟨g7, 2, none⟩ (.slice AqC C2.length cqC)) = W2 at k7 hbel hB k3 k4 hM k5 hQ ⊢
 clear hbox b0 b1 b2 z0 z1 z2 q30 q31 q32 q40 q41 q42 q50 q51 q52
 obtain ⟨q30, q31, q32⟩ := cells3 k3
 obtain ⟨q40, q41, q42⟩ := cells3 k4
 obtain ⟨q50, q51, q52⟩ := cells3 k5
 obtain ⟨q70, q71, q72⟩ := cells3 k7
 clear k7 q70 q71 q72 hQ m1 m2
 have co : (o != o) = false := bne_self_eq_false o
 obtain ⟨ks, Ts, Ls, Cs, ms, ks2, ss⟩ := HS
 obtain ⟨Y, hY⟩ : ∃ Y : List Int, Y = [-1, -1] := ⟨_, rfl⟩
 obtain ⟨Z, hZ⟩ : ∃ Z : List Int, Z = [0, 0] := ⟨_, rfl⟩
 rw [← hY] at ms
 rw [← hZ] at ss
 replace hY := mk0 hY
 replace hZ := mk0 hZ
 go_upto_region 9 with (first
  | ((with_reducible refine gate_dst (N := 37) rfl ?_); (try (refine gate_guard (by rfl) ?_; dsimp only)); refine Kd.R_lit (Kd.int .i64) _ 3 ?hg (N := 37) ?hd (xs := ([(-1), (-1)] : List Int)) (inner := [.int .i64 (-1), .int .i64 (-1)]) (ok := fun _ => True) (okp := fun _ => True) ?hr ?hp (fun _ hk => hk) trivial (Below.refl _ _) (Nat.le_refl _) (by simp) ?_; (case hd | hg => rfl); (case hr => first | (go_simp; done) | (go_simp; rfl)); (case hp => exact (Reps.one (show Kd.M (Kd.int .i64) _ _ _ (-1) [.int .i64 (-1)] from rfl) (Reps.one (show Kd.M (Kd.int .i64) _ _ _ (-1) [.int .i64 (-1)] from rfl) (Reps.none _ _)))); intro vY wy oY0 kf hg_ hnew_; clear hg_ hnew_; (first | rw [← hY.out] at oY0 | (simp only [Int.reduceToNat] at oY0; rw [← hY.out] at oY0)); replace hbel := below_step hbel kf; replace hB := hB.below kf; replace k3 := blk_below k3 kf; replace k4 := blk_below k4 kf; replace hM := hM.below kf; replace k5 := blk_below k5 kf; clear kf; clear q30 q31 q32 q40 q41 q42 q50 q51 q52; have oY := R_any oY0; clear oY0; obtain ⟨AY, cY, eY⟩ := Kd.R_slice oY; subst eY; obtain ⟨q30, q31, q32⟩ := cells3 k3; obtain ⟨q40, q41, q42⟩ := cells3 k4; obtain ⟨q50, q51, q52⟩ := cells3 k5)
  | (go_at_call 31; refine (impl_Add18.calls ks none 0 ([] : List S50) _ _ Y none 0 ([] : List Int) 0 1 (-1) Ts Ls Cs true _ ⟨rfl, by decide, fun h => absurd h (by decide)⟩ (Nat.le_refl _) (Kd.R_reads' oY).2.2 (Kd.R_reads' oY).2.1 ⟨rfl, by decide, fun h => absurd h (by decide)⟩ (Nat.le_refl _) ms).mono ?_; rintro e wa ⟨u0, u1, u2, rfl, o0, o1, o2, kf⟩; replace hbel := below_step hbel kf; replace hB := hB.below kf; replace k3 := blk_below k3 kf; replace k4 := blk_below k4 kf; replace hM := hM.below kf; replace k5 := blk_below k5 kf; clear kf; clear q30 q31 q32 q40 q41 q42 q50 q51 q52 oY; have hQ := B3.of o0 o1 o2; clear o0 o1 o2; obtain ⟨AsT, csT, esT⟩ := Kd.R_slice hQ.oT; subst esT; obtain ⟨AsL, csL, esL⟩ := Kd.R_slice hQ.oL; subst esL; obtain ⟨AsC, csC, esC⟩ := Kd.R_slice hQ.oC; subst esC; obtain ⟨q30, q31, q32⟩ := cells3 k3; obtain ⟨q40, q41, q42⟩ := cells3 k4; obtain ⟨q50, q51, q52⟩ := cells3 k5)
  | ((with_reducible refine gate_dst (N := 9) rfl ?_); (try (refine gate_guard (by rfl) ?_; dsimp only)); refine box_event ?hg (N := 9) ?hd (cs := #[.slice none 0 0, .slice none 0 0, .slice none 0 0]) (t := 29) ?hr ?_; (case hd | hg => rfl); (case hr => first | (go_simp; done) | (go_simp; rfl)); intro g9 hg wb hbox kf; have ge9 : w.heap.size ≤ g9 := by { rw [hg]; exact below_size hbel }; have n3_9 : g3 ≠ g9 := by { rw [hg]; exact Nat.ne_of_lt (blk_lt k3) }; have n4_9 : g4 ≠ g9 := by { rw [hg]; exact Nat.ne_of_lt (blk_lt k4) }; have n5_9 : g5 ≠ g9 := by { rw [hg]; exact Nat.ne_of_lt (blk_lt k5) }; replace hbel := below_step hbel kf; replace hB := hB.below kf; replace k3 := blk_below k3 kf; replace k4 := blk_below k4 kf; replace hM := hM.below kf; replace k5 := blk_below k5 kf; replace hQ := hQ.below kf; clear hg kf; obtain ⟨b0, b1, b2⟩ := cells3 hbox; have z0 := blk_frozen hbox 0; have z1 := blk_frozen hbox 1; have z2 := blk_frozen hbox 2))
 have k9 := put3 hbox (.slice AsT Ts.length csT) (.slice AsL Ls.length csL) (.slice AsC Cs.length csC)
 replace hbel := bel_set3 hbel ge9 (.slice AsT Ts.length csT) (.slice AsL Ls.length csL) (.slice AsC Cs.length csC)
 replace hB := hB.set3 hbox (.slice AsT Ts.length csT) (.slice AsL Ls.length csL) (.slice AsC Cs.length csC)
 replace k3 := far3 k3 n3_9 (.slice AsT Ts.length csT) (.slice AsL Ls.length csL) (.slice AsC Cs.length csC)
 replace k4 := far3 k4 n4_9 (.slice AsT Ts.length csT) (.slice AsL Ls.length csL) (.slice AsC Cs.length csC)
 replace hM := hM.set3 hbox (.slice AsT Ts.length csT) (.slice AsL Ls.length csL) (.slice AsC Cs.length csC)
 replace k5 := far3 k5 n5_9 (.slice AsT Ts.length csT) (.slice AsL Ls.length csL) (.slice AsC Cs.length csC)
 replace hQ := hQ.set3 hbox (.slice AsT Ts.length csT) (.slice AsL Ls.length csL) (.slice AsC Cs.length csC)
 generalize (((wb.setCell ⟨g9, 0, none⟩ (.slice AsT Ts.length csT)).setCell ⟨g9, 1, none⟩ (.slice AsL Ls.length csL)).setCell ⟨g9, 2, none⟩ (.slice AsC Cs.length csC)) = W3 at k9 hbel hB k3 k4 hM k5 hQ ⊢
 clear hbox b0 b1 b2 z0 z1 z2 q30 q31 q32 q40 q41 q42 q50 q51 q52
 obtain ⟨q30, q31, q32⟩ := cells3 k3
 obtain ⟨q40, q41, q42⟩ := cells3 k4
 obtain ⟨q50, q51, q52⟩ := cells3 k5
 obtain ⟨q90, q91, q92⟩ := cells3 k9
 go_upto_region 11 with (first
  | ((with_reducible refine gate_dst (N := 48) rfl ?_); (try (refine gate_guard (by rfl) ?_; dsimp only)); refine Kd.R_lit (Kd.int .i64) _ 3 ?hg (N := 48) ?hd (xs := ([0, 0] : List Int)) (inner := [.int .i64 0, .int .i64 0]) (ok := fun _ => True) (okp := fun _ => True) ?hr ?hp (fun _ hk => hk) trivial (Below.refl _ _) (Nat.le_refl _) (by simp) ?_; (case hd | hg => rfl); (case hr => first | (go_simp; done) | (go_simp; rfl)); (case hp => exact (Reps.one (show Kd.M (Kd.int .i64) _ _ _ 0 [.int .i64 0] from rfl) (Reps.one (show Kd.M (Kd.int .i64) _ _ _ 0 [.int .i64 0] from rfl) (Reps.none _ _)))); intro vY wy oY0 kf hg_ hnew_; clear hg_ hnew_; (first | rw [← hZ.out] at oY0 | (simp only [Int.reduceToNat] at oY0; rw [← hZ.out] at oY0)); replace hbel := below_step hbel kf; replace hB := hB.below kf; replace k3 := blk_below k3 kf; replace k4 := blk_below k4 kf; replace hM := hM.below kf; replace k5 := blk_below k5 kf; replace hQ := hQ.below kf; replace k9 := blk_below k9 kf; clear kf; clear q30 q31 q32 q40 q41 q42 q50 q51 q52 q90 q91 q92; have oZ := R_any oY0; clear oY0; obtain ⟨AZ, cZ, eZ⟩ := Kd.R_slice oZ; subst eZ; obtain ⟨q30, q31, q32⟩ := cells3 k3; obtain ⟨q40, q41, q42⟩ := cells3 k4; obtain ⟨q50, q51, q52⟩ := cells3 k5; obtain ⟨q90, q91, q92⟩ := cells3 k9)
  | (go_at_call 26; (with_reducible refine (laws_sameInts.calls ks2 _ _ Ls _ _ Z true _ (Kd.R_reads' hQ.oL).2.2 (Kd.R_reads' hQ.oL).2.1 (Kd.R_reads' oZ).2.2 (Kd.R_reads' oZ).2.1 ss).mono ?_); rintro e wa ⟨rfl, hz⟩; have kf := below_drawn hz; clear hz; replace hbel := below_step hbel kf; replace hB := hB.below kf; replace k3 := blk_below k3 kf; replace k4 := blk_below k4 kf; replace hM := hM.below kf; replace k5 := blk_below k5 kf; replace hQ := hQ.below kf; replace k9 := blk_below k9 kf; clear kf; clear q30 q31 q32 q40 q41 q42 q50 q51 q52 q90 q91 q92; obtain ⟨q30, q31, q32⟩ := cells3 k3; obtain ⟨q40, q41, q42⟩ := cells3 k4; obtain ⟨q50, q51, q52⟩ := cells3 k5; obtain ⟨q90, q91, q92⟩ := cells3 k9))
 clear k9 q90 q91 q92 hQ ss ms co
 cases o
 ·have c1 : ((a.length : Int) == (T.length : Int)) = true := beq_iff_eq.mpr (by have := hno rfl; omega)
  clear hno hyes
  go_wp2
  go_ret
  exact ⟨rfl, hbel⟩
 obtain ⟨n1, n2, e0, ⟨p0, p0', p0''⟩, ⟨p1, p1', p1''⟩, ⟨kf1, Z3, f3, z3⟩, ⟨kr, T5, L5, C5, r5, t5, ks5, s5⟩⟩ := hyes rfl
 have hw : wrap64 ((T.length : Int) + 1) = (T.length : Int) + 1 := wrap_small (by omega) (by have := hlT.out.1; omega)
 have c1 : ((a.length : Int) != wrap64 ((T.length : Int) + 1)) = false := bne_eq_false_iff_eq.mpr (by rw [hw]; omega)
 have c2 : ((b.length : Int) != (L.length : Int)) = false := bne_eq_false_iff_eq.mpr (by omega)
 have c3 : (!(((rd_T50 a (T.length : Int)).f0) == t0) || (!(((rd_T50 a (T.length : Int)).f1) == t1) || (!(((rd_T50 a (T.length : Int)).f2) == t2)))) = false := by rw [e0]; simp
 have c3a : ((rd_T50 a (T.length : Int)).f0 = t0) = True := eq_true (by rw [e0])
 have c3b : ((rd_T50 a (T.length : Int)).f1 = t1) = True := eq_true (by rw [e0])
 have c3c : ((rd_T50 a (T.length : Int)).f2 = t2) = True := eq_true (by rw [e0])
 have c4 : ((rd b t0) != (T.length : Int)) = false := bne_eq_false_iff_eq.mpr p0''
 have c5 : ((rd b t1) != (T.length : Int)) = false := bne_eq_false_iff_eq.mpr p1''
 have c6 : ((Z3.length : Int) != 0) = false := bne_eq_false_iff_eq.mpr (by omega)
 have c7 : ((T5.length : Int) == wrap64 ((T.length : Int) + 1)) = true := beq_iff_eq.mpr (by rw [hw]; omega)
 have q696 : (T.length : Int) < (a.length : Int) := by omega
 replace f3 := mk0 f3
 replace r5 := mk0 r5
 clear hno hyes n1 n2 e0 p0'' p1'' z3 t5 hw
 go_wp2
 obtain ⟨ad6, e6, hx0, hx1, hx2⟩ := at_T50 (Kd.R_reads' hM.oT).2.2 (T.length : Int) (by omega) q696
 subst e6
 rw [Int.toNat_natCast] at hx0 hx1 hx2
 obtain ⟨ad7, e7, hy0⟩ := Kd.at_int (Kd.R_reads' hM.oL).2.2 t0 p0 p0'
 subst e7
 obtain ⟨ad8, e8, hy1⟩ := Kd.at_int (Kd.R_reads' hM.oL).2.2 t1 p1 p1'
 obtain rfl : ad7 = ad8 := (by injection e8)
 clear e8
 have p696 := eq_true (show 0 ≤ (T.length : Int) by omega)
 replace q696 := eq_true q696
 replace p0 := eq_true p0
 replace p0' := eq_true p0'
 replace p1 := eq_true p1
 replace p1' := eq_true p1'
 clear q30 q31 q32 q40 q41 q42 q50 q51 q52
 refine start_ (n := 50) (S := fun w' => w'.heap[g3]? = some (.cells #[.slice AbT T.length cbT, .slice AbL L.length cbL, .slice AbC C.length cbC] 29 (0, 0)) ∧ w'.heap[g4]? = some (.cells #[.int .i64 t0, .int .i64 t1, .int .i64 t2] 50 (0, 0)) ∧ w'.heap[g5]? = some (.cells #[.slice (some ad6) a.length cmT, .slice (some ad7) b.length cmL, .slice AmC c.length cmC] 29 (0, 0)) ∧ w'.cell? (ad6.add (T.length * 3)) = some (.int .i64 ((rd_T50 a (T.length : Int)).f0)) ∧ w'.cell? ⟨(ad6.add (T.length * 3)).block, (ad6.add (T.length * 3)).off + 1, none⟩ = some (.int .i64 ((rd_T50 a (T.length : Int)).f1)) ∧ w'.cell? ⟨(ad6.add (T.length * 3)).block, (ad6.add (T.length * 3)).off + 2, none⟩ = some (.int .i64 ((rd_T50 a (T.length : Int)).f2)) ∧ w'.cell? (ad7.add (t0).toNat) = some (.int .i64 (rd b t0)) ∧ w'.cell? (ad7.add (t1).toNat) = some (.int .i64 (rd b t1))) (ds := []) #[O,O,O,O,O,O,O,O,O,O,O,O,O,O,O,O,O,O,O,O,O,O,O,O,O,O,O,O,O,O,O,O,O,O,O,O,O,O,O,O,O,O,O,O,O,O,O,O,O,O] (by kernel_rfl) rfl rfl ⟨blk_drew k3, blk_drew k4, blk_drew k5, hx0, hx1, hx2, hy0, hy1⟩ (fun hS => ?_)
 refine with_tabW laws_FnBooked.tab14 laws_FnBooked.bits14 (fun HT_ HW_ => ?_)
 clear hx0 hx1 hx2 hy0 hy1
 replace hbel := below_step hbel (below_drew1 (Below.refl _ _))
 replace hB := hB.below (below_drew1 (Below.refl _ _))
 replace k3 := blk_below k3 (below_drew1 (Below.refl _ _))
 replace k4 := blk_below k4 (below_drew1 (Below.refl _ _))
 replace hM := hM.below (below_drew1 (Below.refl _ _))
 replace k5 := blk_below k5 (below_drew1 (Below.refl _ _))
 generalize World.drew _ = Wd at hS hbel hB k3 k4 hM k5 ⊢
 refine pure_ (i := 0) (N := some 64) (v := ?_) (a' := ?_) #[I,O,O,O,O,O,O,O,O,O,O,O,O,O,O,O,O,O,O,O,O,O,O,O,O,O,O,O,O,O,O,O,O,O,O,O,O,O,O,O,O,O,O,O,O,O,O,O,O,O] rfl rfl (any_of HT_.out (by kernel_rfl)) (fun _ _ _ h => h) (Or.inl ⟨by rfl, ?_⟩) ?_ ?_
 rotate_left
 ·intro w'
  go_simp
  with_reducible rfl
 rotate_left
 ·simp only [Act.put, sq1, sq2, sq3, i64_w]
  rfl
 refine pure_ (i := 3) (N := some 67) (v := ?_) (a' := ?_) #[I,O,O,I,O,O,O,O,O,O,O,O,O,O,O,O,O,O,O,O,O,O,O,O,O,O,O,O,O,O,O,O,O,O,O,O,O,O,O,O,O,O,O,O,O,O,O,O,O,O] rfl rfl (any_of HT_.out (by kernel_rfl)) (fun _ _ _ h => h) (Or.inl ⟨by rfl, ?_⟩) ?_ ?_
 rotate_left
 ·intro w'
  go_simp
  with_reducible rfl
 rotate_left
 ·simp only [Act.put, sq1, sq2, sq3, i64_w]
  rfl
 refine pure_ (i := 4) (N := some 68) (v := ?_) (a' := ?_) #[I,O,O,I,I,O,O,O,O,O,O,O,O,O,O,O,O,O,O,O,O,O,O,O,O,O,O,O,O,O,O,O,O,O,O,O,O,O,O,O,O,O,O,O,O,O,O,O,O,O] rfl rfl (any_of HT_.out (by kernel_rfl)) (fun _ _ _ h => h) (Or.inl ⟨by rfl, ?_⟩) ?_ ?_
 rotate_left
 ·intro w'
  go_simp
  with_reducible rfl
 rotate_left
 ·simp only [Act.put, sq1, sq2, sq3, i64_w]
  rfl
 refine take_ (i := 1) (N := some 65) (v := ?_) (a' := ?_) #[I,I,O,I,I,O,O,O,O,O,O,O,O,O,O,O,O,O,O,O,O,O,O,O,O,O,O,O,O,O,O,O,O,O,O,O,O,O,O,O,O,O,O,O,O,O,O,O,O,O] rfl rfl (take_ofW HT_.out HW_.out (by kernel_rfl)) (fun _ _ _ h => h) (Or.inl ⟨by rfl, ?_⟩) hS ?_ ?_
 rotate_left
 ·rintro w' ⟨s3, s4, s5, x0, x1, x2, y0, y1⟩
  obtain ⟨r30, r31, r32⟩ := cells3 s3
  obtain ⟨r40, r41, r42⟩ := cells3 s4
  obtain ⟨r50, r51, r52⟩ := cells3 s5
  go_simp
  with_reducible rfl
 rotate_left
 ·simp only [Act.put, sq1, sq2, sq3, i64_w]
  rfl
 refine pure_ (i := 2) (N := some 66) (v := ?_) (a' := ?_) #[I,I,I,I,I,O,O,O,O,O,O,O,O,O,O,O,O,O,O,O,O,O,O,O,O,O,O,O,O,O,O,O,O,O,O,O,O,O,O,O,O,O,O,O,O,O,O,O,O,O] rfl rfl (any_of HT_.out (by kernel_rfl)) (fun _ _ _ h => h) (Or.inl ⟨by rfl, ?_⟩) ?_ ?_
 rotate_left
 ·intro w'
  go_simp
  with_reducible rfl
 rotate_left
 ·simp only [Act.put, sq1, sq2, sq3, i64_w]
  rfl
 refine pure_ (i := 5) (N := some 69) (v := ?_) (a' := ?_) #[I,I,I,I,I,I,O,O,O,O,O,O,O,O,O,O,O,O,O,O,O,O,O,O,O,O,O,O,O,O,O,O,O,O,O,O,O,O,O,O,O,O,O,O,O,O,O,O,O,O] rfl rfl (any_of HT_.out (by kernel_rfl)) (fun _ _ _ h => h) (Or.inl ⟨by rfl, ?_⟩) ?_ ?_
 rotate_left
 ·intro w'
  go_simp
  with_reducible rfl
 rotate_left
 ·simp only [Act.put, sq1, sq2, sq3, i64_w]
  rfl
 refine pure_ (i := 6) (N := some 70) (v := ?_) (a' := ?_) #[I,I,I,I,I,I,I,O,O,O,O,O,O,O,O,O,O,O,O,O,O,O,O,O,O,O,O,O,O,O,O,O,O,O,O,O,O,O,O,O,O,O,O,O,O,O,O,O,O,O] rfl rfl (any_of HT_.out (by kernel_rfl)) (fun _ _ _ h => h) (Or.inl ⟨by rfl, ?_⟩) ?_ ?_
 rotate_left
 ·intro w'
  go_simp
  with_reducible rfl
 rotate_left
 ·simp only [Act.put, sq1, sq2, sq3, i64_w]
  rfl
 refine pure_ (i := 7) (N := some 71) (v := ?_) (a' := ?_) #[I,I,I,I,I,I,I,I,O,O,O,O,O,O,O,O,O,O,O,O,O,O,O,O,O,O,O,O,O,O,O,O,O,O,O,O,O,O,O,O,O,O,O,O,O,O,O,O,O,O] rfl rfl (any_of HT_.out (by kernel_rfl)) (fun _ _ _ h => h) (Or.inl ⟨by rfl, ?_⟩) ?_ ?_
 rotate_left
 ·intro w'
  go_simp
  with_reducible rfl
 rotate_left
 ·simp only [Act.put, sq1, sq2, sq3, i64_w]
  rfl
 refine pure_ (i := 10) (N := some 74) (v := ?_) (a' := ?_) #[I,I,I,I,I,I,I,I,O,O,I,O,O,O,O,O,O,O,O,O,O,O,O,O,O,O,O,O,O,O,O,O,O,O,O,O,O,O,O,O,O,O,O,O,O,O,O,O,O,O] rfl rfl (any_of HT_.out (by kernel_rfl)) (fun _ _ _ h => h) (Or.inl ⟨by rfl, ?_⟩) ?_ ?_
 rotate_left
 ·intro w'
  go_simp
  with_reducible rfl
 rotate_left
 ·simp only [Act.put, sq1, sq2, sq3, i64_w]
  rfl
 refine take_ (i := 8) (N := some 72) (v := ?_) (a' := ?_) #[I,I,I,I,I,I,I,I,I,O,I,O,O,O,O,O,O,O,O,O,O,O,O,O,O,O,O,O,O,O,O,O,O,O,O,O,O,O,O,O,O,O,O,O,O,O,O,O,O,O] rfl rfl (take_ofW HT_.out HW_.out (by kernel_rfl)) (fun _ _ _ h => h) (Or.inl ⟨by rfl, ?_⟩) hS ?_ ?_
 rotate_left
 ·rintro w' ⟨s3, s4, s5, x0, x1, x2, y0, y1⟩
  obtain ⟨r30, r31, r32⟩ := cells3 s3
  obtain ⟨r40, r41, r42⟩ := cells3 s4
  obtain ⟨r50, r51, r52⟩ := cells3 s5
  go_simp
  with_reducible rfl
 rotate_left
 ·simp only [Act.put, sq1, sq2, sq3, i64_w]
  rfl
 refine pure_ (i := 9) (N := some 73) (v := ?_) (a' := ?_) #[I,I,I,I,I,I,I,I,I,I,I,O,O,O,O,O,O,O,O,O,O,O,O,O,O,O,O,O,O,O,O,O,O,O,O,O,O,O,O,O,O,O,O,O,O,O,O,O,O,O] rfl rfl (any_of HT_.out (by kernel_rfl)) (fun _ _ _ h => h) (Or.inl ⟨by rfl, ?_⟩) ?_ ?_
 rotate_left
 ·intro w'
  go_simp
  with_reducible rfl
 rotate_left
 ·simp only [Act.put, sq1, sq2, sq3, i64_w]
  rfl
 refine take_ (i := 11) (N := some 75) (v := ?_) (a' := ?_) #[I,I,I,I,I,I,I,I,I,I,I,I,O,O,O,O,O,O,O,O,O,O,O,O,O,O,O,O,O,O,O,O,O,O,O,O,O,O,O,O,O,O,O,O,O,O,O,O,O,O] rfl rfl (take_ofW HT_.out HW_.out (by kernel_rfl)) (fun _ _ _ h => h) (Or.inl ⟨by rfl, ?_⟩) hS ?_ ?_
 rotate_left
 ·rintro w' ⟨s3, s4, s5, x0, x1, x2, y0, y1⟩
  obtain ⟨r30, r31, r32⟩ := cells3 s3
  obtain ⟨r40, r41, r42⟩ := cells3 s4
  obtain ⟨r50, r51, r52⟩ := cells3 s5
  go_simp
  with_reducible rfl
 rotate_left
 ·simp only [Act.put, sq1, sq2, sq3, i64_w]
  rfl
 refine pure_ (i := 12) (N := some 76) (v := ?_) (a' := ?_) #[I,I,I,I,I,I,I,I,I,I,I,I,I,O,O,O,O,O,O,O,O,O,O,O,O,O,O,O,O,O,O,O,O,O,O,O,O,O,O,O,O,O,O,O,O,O,O,O,O,O] rfl rfl (any_of HT_.out (by kernel_rfl)) (fun _ _ _ h => h) (Or.inl ⟨by rfl, ?_⟩) ?_ ?_
 rotate_left
 ·intro w'
  go_simp
  with_reducible rfl
 rotate_left
 ·simp only [Act.put, sq1, sq2, sq3, i64_w]
  rfl
 refine pure_ (i := 13) (N := some 77) (v := ?_) (a' := ?_) #[I,I,I,I,I,I,I,I,I,I,I,I,I,I,O,O,O,O,O,O,O,O,O,O,O,O,O,O,O,O,O,O,O,O,O,O,O,O,O,O,O,O,O,O,O,O,O,O,O,O] rfl rfl (any_of HT_.out (by kernel_rfl)) (fun _ _ _ h => h) (Or.inl ⟨by rfl, ?_⟩) ?_ ?_
 rotate_left
 ·intro w'
  go_simp
  with_reducible rfl
 rotate_left
 ·simp only [Act.put, sq1, sq2, sq3, i64_w]
  rfl
 refine pure_ (i := 14) (N := some 78) (v := ?_) (a' := ?_) #[I,I,I,I,I,I,I,I,I,I,I,I,I,I,I,O,O,O,O,O,O,O,O,O,O,O,O,O,O,O,O,O,O,O,O,O,O,O,O,O,O,O,O,O,O,O,O,O,O,O] rfl rfl (any_of HT_.out (by kernel_rfl)) (fun _ _ _ h => h) (Or.inl ⟨by rfl, ?_⟩) ?_ ?_
 rotate_left
 ·intro w'
  go_simp
  with_reducible rfl
 rotate_left
 ·simp only [Act.put, sq1, sq2, sq3, i64_w]
  rfl
 refine pure_ (i := 15) (N := some 79) (v := ?_) (a' := ?_) #[I,I,I,I,I,I,I,I,I,I,I,I,I,I,I,I,O,O,O,O,O,O,O,O,O,O,O,O,O,O,O,O,O,O,O,O,O,O,O,O,O,O,O,O,O,O,O,O,O,O] rfl rfl (any_of HT_.out (by kernel_rfl)) (fun _ _ _ h => h) (Or.inl ⟨by rfl, ?_⟩) ?_ ?_
 rotate_left
 ·intro w'
  go_simp
  with_reducible rfl
 rotate_left
 ·simp only [Act.put, sq1, sq2, sq3, i64_w]
  rfl
 refine pure_ (i := 16) (N := some 80) (v := ?_) (a' := ?_) #[I,I,I,I,I,I,I,I,I,I,I,I,I,I,I,I,I,O,O,O,O,O,O,O,O,O,O,O,O,O,O,O,O,O,O,O,O,O,O,O,O,O,O,O,O,O,O,O,O,O] rfl rfl (any_of HT_.out (by kernel_rfl)) (fun _ _ _ h => h) (Or.inl ⟨by rfl, ?_⟩) ?_ ?_
 rotate_left
 ·intro w'
  go_simp
  with_reducible rfl
 rotate_left
 ·simp only [Act.put, sq1, sq2, sq3, i64_w]
  rfl
 refine pure_ (i := 18) (N := some 82) (v := ?_) (a' := ?_) #[I,I,I,I,I,I,I,I,I,I,I,I,I,I,I,I,I,O,I,O,O,O,O,O,O,O,O,O,O,O,O,O,O,O,O,O,O,O,O,O,O,O,O,O,O,O,O,O,O,O] rfl rfl (any_of HT_.out (by kernel_rfl)) (fun _ _ _ h => h) (Or.inl ⟨by rfl, ?_⟩) ?_ ?_
 rotate_left
 ·intro w'
  go_simp
  with_reducible rfl
 rotate_left
 ·simp only [Act.put, sq1, sq2, sq3, i64_w]
  rfl
 refine take_ (i := 17) (N := some 81) (v := ?_) (a' := ?_) #[I,I,I,I,I,I,I,I,I,I,I,I,I,I,I,I,I,I,I,O,O,O,O,O,O,O,O,O,O,O,O,O,O,O,O,O,O,O,O,O,O,O,O,O,O,O,O,O,O,O] rfl rfl (take_ofW HT_.out HW_.out (by kernel_rfl)) (fun _ _ _ h => h) (Or.inl ⟨by rfl, ?_⟩) hS ?_ ?_
 rotate_left
 ·rintro w' ⟨s3, s4, s5, x0, x1, x2, y0, y1⟩
  obtain ⟨r30, r31, r32⟩ := cells3 s3
  obtain ⟨r40, r41, r42⟩ := cells3 s4
  obtain ⟨r50, r51, r52⟩ := cells3 s5
  go_simp
  with_reducible rfl
 rotate_left
 ·simp only [Act.put, sq1, sq2, sq3, i64_w]
  rfl
 refine pure_ (i := 19) (N := some 83) (v := ?_) (a' := ?_) #[I,I,I,I,I,I,I,I,I,I,I,I,I,I,I,I,I,I,I,I,O,O,O,O,O,O,O,O,O,O,O,O,O,O,O,O,O,O,O,O,O,O,O,O,O,O,O,O,O,O] rfl rfl (any_of HT_.out (by kernel_rfl)) (fun _ _ _ h => h) (Or.inl ⟨by rfl, ?_⟩) ?_ ?_
 rotate_left
 ·intro w'
  go_simp
  with_reducible rfl
 rotate_left
 ·simp only [Act.put, sq1, sq2, sq3, i64_w]
  rfl
 refine take_ (i := 20) (N := some 84) (v := ?_) (a' := ?_) #[I,I,I,I,I,I,I,I,I,I,I,I,I,I,I,I,I,I,I,I,I,O,O,O,O,O,O,O,O,O,O,O,O,O,O,O,O,O,O,O,O,O,O,O,O,O,O,O,O,O] rfl rfl (take_ofW HT_.out HW_.out (by kernel_rfl)) (fun _ _ _ h => h) (Or.inl ⟨by rfl, ?_⟩) hS ?_ ?_
 rotate_left
 ·rintro w' ⟨s3, s4, s5, x0, x1, x2, y0, y1⟩
  obtain ⟨r30, r31, r32⟩ := cells3 s3
  obtain ⟨r40, r41, r42⟩ := cells3 s4
  obtain ⟨r50, r51, r52⟩ := cells3 s5
  go_simp
  with_reducible rfl
 rotate_left
 ·simp only [Act.put, sq1, sq2, sq3, i64_w]
  rfl
 refine take_ (i := 21) (N := some 85) (v := ?_) (a' := ?_) #[I,I,I,I,I,I,I,I,I,I,I,I,I,I,I,I,I,I,I,I,I,I,O,O,O,O,O,O,O,O,O,O,O,O,O,O,O,O,O,O,O,O,O,O,O,O,O,O,O,O] rfl rfl (take_ofW HT_.out HW_.out (by kernel_rfl)) (fun _ _ _ h => h) (Or.inl ⟨by rfl, ?_⟩) hS ?_ ?_
 rotate_left
 ·rintro w' ⟨s3, s4, s5, x0, x1, x2, y0, y1⟩
  obtain ⟨r30, r31, r32⟩ := cells3 s3
  obtain ⟨r40, r41, r42⟩ := cells3 s4
  obtain ⟨r50, r51, r52⟩ := cells3 s5
  go_simp
  with_reducible rfl
 rotate_left
 ·simp only [Act.put, sq1, sq2, sq3, i64_w]
  rfl
 refine pure_ (i := 22) (N := some 86) (v := ?_) (a' := ?_) #[I,I,I,I,I,I,I,I,I,I,I,I,I,I,I,I,I,I,I,I,I,I,I,O,O,O,O,O,O,O,O,O,O,O,O,O,O,O,O,O,O,O,O,O,O,O,O,O,O,O] rfl rfl (any_of HT_.out (by kernel_rfl)) (fun _ _ _ h => h) (Or.inl ⟨by rfl, ?_⟩) ?_ ?_
 rotate_left
 ·intro w'
  go_simp
  with_reducible rfl
 rotate_left
 ·simp only [Act.put, sq1, sq2, sq3, i64_w]
  rfl
 refine pure_ (i := 23) (N := some 87) (v := ?_) (a' := ?_) #[I,I,I,I,I,I,I,I,I,I,I,I,I,I,I,I,I,I,I,I,I,I,I,I,O,O,O,O,O,O,O,O,O,O,O,O,O,O,O,O,O,O,O,O,O,O,O,O,O,O] rfl rfl (any_of HT_.out (by kernel_rfl)) (fun _ _ _ h => h) (Or.inl ⟨by rfl, ?_⟩) ?_ ?_
 rotate_left
 ·intro w'
  go_simp
  with_reducible rfl
 rotate_left
 ·simp only [Act.put, sq1, sq2, sq3, i64_w]
  rfl
 refine pure_ (i := 24) (N := some 88) (v := ?_) (a' := ?_) #[I,I,I,I,I,I,I,I,I,I,I,I,I,I,I,I,I,I,I,I,I,I,I,I,I,O,O,O,O,O,O,O,O,O,O,O,O,O,O,O,O,O,O,O,O,O,O,O,O,O] rfl rfl (any_of HT_.out (by kernel_rfl)) (fun _ _ _ h => h) (Or.inl ⟨by rfl, ?_⟩) ?_ ?_
 rotate_left
 ·intro w'
  go_simp
  with_reducible rfl
 rotate_left
 ·simp only [Act.put, sq1, sq2, sq3, i64_w]
  rfl
 refine pure_ (i := 25) (N := some 89) (v := ?_) (a' := ?_) #[I,I,I,I,I,I,I,I,I,I,I,I,I,I,I,I,I,I,I,I,I,I,I,I,I,I,O,O,O,O,O,O,O,O,O,O,O,O,O,O,O,O,O,O,O,O,O,O,O,O] rfl rfl (any_of HT_.out (by kernel_rfl)) (fun _ _ _ h => h) (Or.inl ⟨by rfl, ?_⟩) ?_ ?_
 rotate_left
 ·intro w'
  go_simp
  with_reducible rfl
 rotate_left
 ·simp only [Act.put, sq1, sq2, sq3, i64_w]
  rfl
 refine pure_ (i := 27) (N := some 91) (v := ?_) (a' := ?_) #[I,I,I,I,I,I,I,I,I,I,I,I,I,I,I,I,I,I,I,I,I,I,I,I,I,I,O,I,O,O,O,O,O,O,O,O,O,O,O,O,O,O,O,O,O,O,O,O,O,O] rfl rfl (any_of HT_.out (by kernel_rfl)) (fun _ _ _ h => h) (Or.inl ⟨by rfl, ?_⟩) ?_ ?_
 rotate_left
 ·intro w'
  go_simp
  with_reducible rfl
 rotate_left
 ·simp only [Act.put, sq1, sq2, sq3, i64_w]
  rfl
 refine pure_ (i := 31) (N := some 95) (v := ?_) (a' := ?_) #[I,I,I,I,I,I,I,I,I,I,I,I,I,I,I,I,I,I,I,I,I,I,I,I,I,I,O,I,O,O,O,I,O,O,O,O,O,O,O,O,O,O,O,O,O,O,O,O,O,O] rfl rfl (any_of HT_.out (by kernel_rfl)) (fun _ _ _ h => h) (Or.inl ⟨by rfl, ?_⟩) ?_ ?_
 rotate_left
 ·intro w'
  go_simp
  with_reducible rfl
 rotate_left
 ·simp only [Act.put, sq1, sq2, sq3, i64_w]
  rfl
 refine take_ (i := 26) (N := some 90) (v := ?_) (a' := ?_) #[I,I,I,I,I,I,I,I,I,I,I,I,I,I,I,I,I,I,I,I,I,I,I,I,I,I,I,I,O,O,O,I,O,O,O,O,O,O,O,O,O,O,O,O,O,O,O,O,O,O] rfl rfl (take_ofW HT_.out HW_.out (by kernel_rfl)) (fun _ _ _ h => h) (Or.inl ⟨by rfl, ?_⟩) hS ?_ ?_
 rotate_left
 ·rintro w' ⟨s3, s4, s5, x0, x1, x2, y0, y1⟩
  obtain ⟨r30, r31, r32⟩ := cells3 s3
  obtain ⟨r40, r41, r42⟩ := cells3 s4
  obtain ⟨r50, r51, r52⟩ := cells3 s5
  go_simp
  with_reducible rfl
 rotate_left
 ·simp only [Act.put, sq1, sq2, sq3, i64_w]
  rfl
 refine take_ (i := 28) (N := some 92) (v := ?_) (a' := ?_) #[I,I,I,I,I,I,I,I,I,I,I,I,I,I,I,I,I,I,I,I,I,I,I,I,I,I,I,I,I,O,O,I,O,O,O,O,O,O,O,O,O,O,O,O,O,O,O,O,O,O] rfl rfl (take_ofW HT_.out HW_.out (by kernel_rfl)) (fun _ _ _ h => h) (Or.inl ⟨by rfl, ?_⟩) hS ?_ ?_
 rotate_left
 ·rintro w' ⟨s3, s4, s5, x0, x1, x2, y0, y1⟩
  obtain ⟨r30, r31, r32⟩ := cells3 s3
  obtain ⟨r40, r41, r42⟩ := cells3 s4
  obtain ⟨r50, r51, r52⟩ := cells3 s5
  go_simp
  with_reducible rfl
 rotate_left
 ·simp only [Act.put, sq1, sq2, sq3, i64_w]
  rfl
 refine pure_ (i := 29) (N := some 93) (v := ?_) (a' := ?_) #[I,I,I,I,I,I,I,I,I,I,I,I,I,I,I,I,I,I,I,I,I,I,I,I,I,I,I,I,I,I,O,I,O,O,O,O,O,O,O,O,O,O,O,O,O,O,O,O,O,O] rfl rfl (any_of HT_.out (by kernel_rfl)) (fun _ _ _ h => h) (Or.inl ⟨by rfl, ?_⟩) ?_ ?_
 rotate_left
 ·intro w'
  go_simp
  with_reducible rfl
 rotate_left
 ·simp only [Act.put, sq1, sq2, sq3, i64_w]
  rfl
 refine take_ (i := 30) (N := some 94) (v := ?_) (a' := ?_) #[I,I,I,I,I,I,I,I,I,I,I,I,I,I,I,I,I,I,I,I,I,I,I,I,I,I,I,I,I,I,I,I,O,O,O,O,O,O,O,O,O,O,O,O,O,O,O,O,O,O] rfl rfl (take_ofW HT_.out HW_.out (by kernel_rfl)) (fun _ _ _ h => h) (Or.inl ⟨by rfl, ?_⟩) hS ?_ ?_
 rotate_left
 ·rintro w' ⟨s3, s4, s5, x0, x1, x2, y0, y1⟩
  obtain ⟨r30, r31, r32⟩ := cells3 s3
  obtain ⟨r40, r41, r42⟩ := cells3 s4
  obtain ⟨r50, r51, r52⟩ := cells3 s5
  go_simp
  with_reducible rfl
 rotate_left
 ·simp only [Act.put, sq1, sq2, sq3, i64_w]
  rfl
 refine pure_ (i := 32) (N := some 96) (v := ?_) (a' := ?_) #[I,I,I,I,I,I,I,I,I,I,I,I,I,I,I,I,I,I,I,I,I,I,I,I,I,I,I,I,I,I,I,I,I,O,O,O,O,O,O,O,O,O,O,O,O,O,O,O,O,O] rfl rfl (any_of HT_.out (by kernel_rfl)) (fun _ _ _ h => h) (Or.inl ⟨by rfl, ?_⟩) ?_ ?_
 rotate_left
 ·intro w'
  go_simp
  with_reducible rfl
 rotate_left
 ·simp only [Act.put, sq1, sq2, sq3, i64_w]
  rfl
 refine pure_ (i := 33) (N := some 97) (v := ?_) (a' := ?_) #[I,I,I,I,I,I,I,I,I,I,I,I,I,I,I,I,I,I,I,I,I,I,I,I,I,I,I,I,I,I,I,I,I,I,O,O,O,O,O,O,O,O,O,O,O,O,O,O,O,O] rfl rfl (any_of HT_.out (by kernel_rfl)) (fun _ _ _ h => h) (Or.inl ⟨by rfl, ?_⟩) ?_ ?_
 rotate_left
 ·intro w'
  go_simp
  with_reducible rfl
 rotate_left
 ·simp only [Act.put, sq1, sq2, sq3, i64_w]
  rfl
 refine pure_ (i := 34) (N := some 98) (v := ?_) (a' := ?_) #[I,I,I,I,I,I,I,I,I,I,I,I,I,I,I,I,I,I,I,I,I,I,I,I,I,I,I,I,I,I,I,I,I,I,I,O,O,O,O,O,O,O,O,O,O,O,O,O,O,O] rfl rfl (any_of HT_.out (by kernel_rfl)) (fun _ _ _ h => h) (Or.inl ⟨by rfl, ?_⟩) ?_ ?_
 rotate_left
 ·intro w'
  go_simp
  with_reducible rfl
 rotate_left
 ·simp only [Act.put, sq1, sq2, sq3, i64_w]
  rfl
 refine pure_ (i := 35) (N := some 99) (v := ?_) (a' := ?_) #[I,I,I,I,I,I,I,I,I,I,I,I,I,I,I,I,I,I,I,I,I,I,I,I,I,I,I,I,I,I,I,I,I,I,I,I,O,O,O,O,O,O,O,O,O,O,O,O,O,O] rfl rfl (any_of HT_.out (by kernel_rfl)) (fun _ _ _ h => h) (Or.inl ⟨by rfl, ?_⟩) ?_ ?_
 rotate_left
 ·intro w'
  go_simp
  with_reducible rfl
 rotate_left
 ·simp only [Act.put, sq1, sq2, sq3, i64_w]
  rfl
 refine pure_ (i := 37) (N := some 101) (v := ?_) (a' := ?_) #[I,I,I,I,I,I,I,I,I,I,I,I,I,I,I,I,I,I,I,I,I,I,I,I,I,I,I,I,I,I,I,I,I,I,I,I,O,I,O,O,O,O,O,O,O,O,O,O,O,O] rfl rfl (any_of HT_.out (by kernel_rfl)) (fun _ _ _ h => h) (Or.inl ⟨by rfl, ?_⟩) ?_ ?_
 rotate_left
 ·intro w'
  go_simp
  with_reducible rfl
 rotate_left
 ·simp only [Act.put, sq1, sq2, sq3, i64_w]
  rfl
 refine pure_ (i := 41) (N := some 105) (v := ?_) (a' := ?_) #[I,I,I,I,I,I,I,I,I,I,I,I,I,I,I,I,I,I,I,I,I,I,I,I,I,I,I,I,I,I,I,I,I,I,I,I,O,I,O,O,O,I,O,O,O,O,O,O,O,O] rfl rfl (any_of HT_.out (by kernel_rfl)) (fun _ _ _ h => h) (Or.inl ⟨by rfl, ?_⟩) ?_ ?_
 rotate_left
 ·intro w'
  go_simp
  with_reducible rfl
 rotate_left
 ·simp only [Act.put, sq1, sq2, sq3, i64_w]
  rfl
 refine take_ (i := 36) (N := some 100) (v := ?_) (a' := ?_) #[I,I,I,I,I,I,I,I,I,I,I,I,I,I,I,I,I,I,I,I,I,I,I,I,I,I,I,I,I,I,I,I,I,I,I,I,I,I,O,O,O,I,O,O,O,O,O,O,O,O] rfl rfl (take_ofW HT_.out HW_.out (by kernel_rfl)) (fun _ _ _ h => h) (Or.inl ⟨by rfl, ?_⟩) hS ?_ ?_
 rotate_left
 ·rintro w' ⟨s3, s4, s5, x0, x1, x2, y0, y1⟩
  obtain ⟨r30, r31, r32⟩ := cells3 s3
  obtain ⟨r40, r41, r42⟩ := cells3 s4
  obtain ⟨r50, r51, r52⟩ := cells3 s5
  go_simp
  with_reducible rfl
 rotate_left
 ·simp only [Act.put, sq1, sq2, sq3, i64_w]
  rfl
 refine take_ (i := 38) (N := some 102) (v := ?_) (a' := ?_) #[I,I,I,I,I,I,I,I,I,I,I,I,I,I,I,I,I,I,I,I,I,I,I,I,I,I,I,I,I,I,I,I,I,I,I,I,I,I,I,O,O,I,O,O,O,O,O,O,O,O] rfl rfl (take_ofW HT_.out HW_.out (by kernel_rfl)) (fun _ _ _ h => h) (Or.inl ⟨by rfl, ?_⟩) hS ?_ ?_
 rotate_left
 ·rintro w' ⟨s3, s4, s5, x0, x1, x2, y0, y1⟩
  obtain ⟨r30, r31, r32⟩ := cells3 s3
  obtain ⟨r40, r41, r42⟩ := cells3 s4
  obtain ⟨r50, r51, r52⟩ := cells3 s5
  go_simp
  with_reducible rfl
 rotate_left
 ·simp only [Act.put, sq1, sq2, sq3, i64_w]
  rfl
 refine pure_ (i := 39) (N := some 103) (v := ?_) (a' := ?_) #[I,I,I,I,I,I,I,I,I,I,I,I,I,I,I,I,I,I,I,I,I,I,I,I,I,I,I,I,I,I,I,I,I,I,I,I,I,I,I,I,O,I,O,O,O,O,O,O,O,O] rfl rfl (any_of HT_.out (by kernel_rfl)) (fun _ _ _ h => h) (Or.inl ⟨by rfl, ?_⟩) ?_ ?_
 rotate_left
 ·intro w'
  go_simp
  with_reducible rfl
 rotate_left
 ·simp only [Act.put, sq1, sq2, sq3, i64_w]
  rfl
 refine take_ (i := 40) (N := some 104) (v := ?_) (a' := ?_) #[I,I,I,I,I,I,I,I,I,I,I,I,I,I,I,I,I,I,I,I,I,I,I,I,I,I,I,I,I,I,I,I,I,I,I,I,I,I,I,I,I,I,O,O,O,O,O,O,O,O] rfl rfl (take_ofW HT_.out HW_.out (by kernel_rfl)) (fun _ _ _ h => h) (Or.inl ⟨by rfl, ?_⟩) hS ?_ ?_
 rotate_left
 ·rintro w' ⟨s3, s4, s5, x0, x1, x2, y0, y1⟩
  obtain ⟨r30, r31, r32⟩ := cells3 s3
  obtain ⟨r40, r41, r42⟩ := cells3 s4
  obtain ⟨r50, r51, r52⟩ := cells3 s5
  go_simp
  with_reducible rfl
 rotate_left
 ·simp only [Act.put, sq1, sq2, sq3, i64_w]
  rfl
 refine pure_ (i := 42) (N := some 106) (v := ?_) (a' := ?_) #[I,I,I,I,I,I,I,I,I,I,I,I,I,I,I,I,I,I,I,I,I,I,I,I,I,I,I,I,I,I,I,I,I,I,I,I,I,I,I,I,I,I,I,O,O,O,O,O,O,O] rfl rfl (any_of HT_.out (by kernel_rfl)) (fun _ _ _ h => h) (Or.inl ⟨by rfl, ?_⟩) ?_ ?_
 rotate_left
 ·intro w'
  go_simp
  with_reducible rfl
 rotate_left
 ·simp only [Act.put, sq1, sq2, sq3, i64_w]
  rfl
 refine pure_ (i := 43) (N := some 107) (v := ?_) (a' := ?_) #[I,I,I,I,I,I,I,I,I,I,I,I,I,I,I,I,I,I,I,I,I,I,I,I,I,I,I,I,I,I,I,I,I,I,I,I,I,I,I,I,I,I,I,I,O,O,O,O,O,O] rfl rfl (any_of HT_.out (by kernel_rfl)) (fun _ _ _ h => h) (Or.inl ⟨by rfl, ?_⟩) ?_ ?_
 rotate_left
 ·intro w'
  go_simp
  with_reducible rfl
 rotate_left
 ·simp only [Act.put, sq1, sq2, sq3, i64_w]
  rfl
 refine pure_ (i := 44) (N := some 108) (v := ?_) (a' := ?_) #[I,I,I,I,I,I,I,I,I,I,I,I,I,I,I,I,I,I,I,I,I,I,I,I,I,I,I,I,I,I,I,I,I,I,I,I,I,I,I,I,I,I,I,I,I,O,O,O,O,O] rfl rfl (any_of HT_.out (by kernel_rfl)) (fun _ _ _ h => h) (Or.inl ⟨by rfl, ?_⟩) ?_ ?_
 rotate_left
 ·intro w'
  go_simp
  with_reducible rfl
 rotate_left
 ·simp only [Act.put, sq1, sq2, sq3, i64_w]
  rfl
 refine take_ (i := 45) (N := some 109) (v := ?_) (a' := ?_) #[I,I,I,I,I,I,I,I,I,I,I,I,I,I,I,I,I,I,I,I,I,I,I,I,I,I,I,I,I,I,I,I,I,I,I,I,I,I,I,I,I,I,I,I,I,I,O,O,O,O] rfl rfl (take_ofW HT_.out HW_.out (by kernel_rfl)) (fun _ _ _ h => h) (Or.inl ⟨by rfl, ?_⟩) hS ?_ ?_
 rotate_left
 ·rintro w' ⟨s3, s4, s5, x0, x1, x2, y0, y1⟩
  obtain ⟨r30, r31, r32⟩ := cells3 s3
  obtain ⟨r40, r41, r42⟩ := cells3 s4
  obtain ⟨r50, r51, r52⟩ := cells3 s5
  go_simp
  with_reducible rfl
 rotate_left
 ·simp only [Act.put, sq1, sq2, sq3, i64_w]
  rfl
 refine one_ (i := 46) (N := some 110) #[I,I,I,I,I,I,I,I,I,I,I,I,I,I,I,I,I,I,I,I,I,I,I,I,I,I,I,I,I,I,I,I,I,I,I,I,I,I,I,I,I,I,I,I,I,I,I,O,O,O] rfl rfl (one_of HT_.out (by kernel_rfl)) (by decide) (fun K hK => ?_)
 refine goes_ Try.func20 (by kernel_rfl) rfl #[.agg #[.slice (some ad6) a.length cmT, .slice (some ad7) b.length cmL, .slice AmC c.length cmC]] (by rfl) rfl rfl ar ?_
 with_reducible refine (impl_Faults.calls kf1 _ _ a _ _ b _ _ c Z3 _ (Kd.R_reads' hM.oT).2.2 (Kd.R_reads' hM.oT).2.1 (Kd.R_reads' hM.oL).2.2 (Kd.R_reads' hM.oL).2.1 (Kd.R_reads' hM.oC).2.2 (Kd.R_reads' hM.oC).2.1 f3.out).mono ?_
 rintro e wf ⟨u0, rfl, o0, kf⟩
 refine ⟨_, rfl, ?_⟩
 replace hbel := below_step hbel kf
 replace hB := hB.below kf
 replace k3 := blk_below k3 kf
 replace k4 := blk_below k4 kf
 replace hM := hM.below kf
 replace k5 := blk_below k5 kf
 obtain ⟨ad9, e9, hx0, hx1, hx2⟩ := at_T50 (Kd.R_reads' hM.oT).2.2 (T.length : Int) (of_eq_true p696) (of_eq_true q696)
 obtain rfl : ad6 = ad9 := (by injection e9)
 clear e9
 rw [Int.toNat_natCast] at hx0 hx1 hx2
 obtain ⟨ad9, e9, hy0⟩ := Kd.at_int (Kd.R_reads' hM.oL).2.2 t0 (of_eq_true p0) (of_eq_true p0')
 obtain rfl : ad7 = ad9 := (by injection e9)
 clear e9
 obtain ⟨ad9, e9, hy1⟩ := Kd.at_int (Kd.R_reads' hM.oL).2.2 t1 (of_eq_true p1) (of_eq_true p1')
 obtain rfl : ad7 = ad9 := (by injection e9)
 clear e9
 have hS2 := And.intro k3 (And.intro k4 (And.intro k5 (And.intro hx0 (And.intro hx1 (And.intro hx2 (And.intro hy0 hy1))))))
 clear hx0 hx1 hx2 hy0 hy1
 obtain ⟨AK, cK, eK⟩ := Kd.R_slice o0
 subst eK
 clear o0 kf
 replace hS := hS2
 clear hS2
 refine hK.out _ _ hS (fun _ => ?_)
 clear hK K
 refine norm_ (a' := ?_) ?_ ?_
 rotate_left
 ·show Act.put _ (some 110) _ = _
  simp only [Act.put, sq1, sq2, sq3, i64_w]
  rfl
 refine pure_ (i := 47) (N := some 111) (v := ?_) (a' := ?_) #[I,I,I,I,I,I,I,I,I,I,I,I,I,I,I,I,I,I,I,I,I,I,I,I,I,I,I,I,I,I,I,I,I,I,I,I,I,I,I,I,I,I,I,I,I,I,I,I,O,O] rfl rfl (any_of HT_.out (by kernel_rfl)) (fun _ _ _ h => h) (Or.inl ⟨by rfl, ?_⟩) ?_ ?_
 rotate_left
 ·intro w'
  go_simp
  with_reducible rfl
 rotate_left
 ·simp only [Act.put, sq1, sq2, sq3, i64_w]
  rfl
 refine pure_ (i := 48) (N := some 112) (v := ?_) (a' := ?_) #[I,I,I,I,I,I,I,I,I,I,I,I,I,I,I,I,I,I,I,I,I,I,I,I,I,I,I,I,I,I,I,I,I,I,I,I,I,I,I,I,I,I,I,I,I,I,I,I,I,O] rfl rfl (any_of HT_.out (by kernel_rfl)) (fun _ _ _ h => h) (Or.inl ⟨by rfl, ?_⟩) ?_ ?_
 rotate_left
 ·intro w'
  go_simp
  with_reducible rfl
 rotate_left
 ·simp only [Act.put, sq1, sq2, sq3, i64_w]
  rfl
 refine pure_ (i := 49) (N := some 113) (v := ?_) (a' := ?_) #[I,I,I,I,I,I,I,I,I,I,I,I,I,I,I,I,I,I,I,I,I,I,I,I,I,I,I,I,I,I,I,I,I,I,I,I,I,I,I,I,I,I,I,I,I,I,I,I,I,I] rfl rfl (any_of HT_.out (by kernel_rfl)) (fun _ _ _ h => h) (Or.inl ⟨by rfl, ?_⟩) ?_ ?_
 rotate_left
 ·intro w'
  go_simp
  with_reducible rfl
 rotate_left
 ·simp only [Act.put, sq1, sq2, sq3, i64_w]
  rfl
 refine done_ (done_of HT_.out (by kernel_rfl)) ?_
 clear hS
 obtain ⟨q30, q31, q32⟩ := cells3 k3
 obtain ⟨q40, q41, q42⟩ := cells3 k4
 obtain ⟨q50, q51, q52⟩ := cells3 k5
 go_upto_region 17 with (first
  | (go_at_call 28; (with_reducible refine (impl_Restart.calls kr _ _ a _ _ b _ _ c 1 T5 L5 C5 true _ (Kd.R_reads' hM.oT).2.2 (Kd.R_reads' hM.oT).2.1 (Kd.R_reads' hM.oL).2.2 (Kd.R_reads' hM.oL).2.1 (Kd.R_reads' hM.oC).2.2 (Kd.R_reads' hM.oC).2.1 r5.out).mono ?_); rintro e wa ⟨u0, u1, u2, rfl, o0, o1, o2, kf⟩; replace hbel := below_step hbel kf; replace hB := hB.below kf; replace k3 := blk_below k3 kf; replace k4 := blk_below k4 kf; replace hM := hM.below kf; replace k5 := blk_below k5 kf; clear kf; clear q30 q31 q32 q40 q41 q42 q50 q51 q52; have hV := B3.of o0 o1 o2; clear o0 o1 o2; obtain ⟨AxT, cxT, exT⟩ := Kd.R_slice hV.oT; subst exT; obtain ⟨AxL, cxL, exL⟩ := Kd.R_slice hV.oL; subst exL; obtain ⟨AxC, cxC, exC⟩ := Kd.R_slice hV.oC; subst exC; obtain ⟨q30, q31, q32⟩ := cells3 k3; obtain ⟨q40, q41, q42⟩ := cells3 k4; obtain ⟨q50, q51, q52⟩ := cells3 k5)
  | ((with_reducible refine gate_dst (N := 12) rfl ?_); (try (refine gate_guard (by rfl) ?_; dsimp only)); refine box_event ?hg (N := 12) ?hd (cs := #[.slice none 0 0, .slice none 0 0, .slice none 0 0]) (t := 29) ?hr ?_; (case hd | hg => rfl); (case hr => first | (go_simp; done) | (go_simp; rfl)); intro g12 hg wb hbox kf; have ge12 : w.heap.size ≤ g12 := by { rw [hg]; exact below_size hbel }; have n3_12 : g3 ≠ g12 := by { rw [hg]; exact Nat.ne_of_lt (blk_lt k3) }; have n4_12 : g4 ≠ g12 := by { rw [hg]; exact Nat.ne_of_lt (blk_lt k4) }; have n5_12 : g5 ≠ g12 := by { rw [hg]; exact Nat.ne_of_lt (blk_lt k5) }; replace hbel := below_step hbel kf; replace hB := hB.below kf; replace k3 := blk_below k3 kf; replace k4 := blk_below k4 kf; replace hM := hM.below kf; replace k5 := blk_below k5 kf; replace hV := hV.below kf; clear hg kf; obtain ⟨b0, b1, b2⟩ := cells3 hbox; have z0 := blk_frozen hbox 0; have z1 := blk_frozen hbox 1; have z2 := blk_frozen hbox 2))
 have k12 := put3 hbox (.slice AxT T5.length cxT) (.slice AxL L5.length cxL) (.slice AxC C5.length cxC)
 replace hbel := bel_set3 hbel ge12 (.slice AxT T5.length cxT) (.slice AxL L5.length cxL) (.slice AxC C5.length cxC)
 replace hB := hB.set3 hbox (.slice AxT T5.length cxT) (.slice AxL L5.length cxL) (.slice AxC C5.length cxC)
 replace k3 := far3 k3 n3_12 (.slice AxT T5.length cxT) (.slice AxL L5.length cxL) (.slice AxC C5.length cxC)
 replace k4 := far3 k4 n4_12 (.slice AxT T5.length cxT) (.slice AxL L5.length cxL) (.slice AxC C5.length cxC)
 replace hM := hM.set3 hbox (.slice AxT T5.length cxT) (.slice AxL L5.length cxL) (.slice AxC C5.length cxC)
 replace k5 := far3 k5 n5_12 (.slice AxT T5.length cxT) (.slice AxL L5.length cxL) (.slice AxC C5.length cxC)
 replace hV := hV.set3 hbox (.slice AxT T5.length cxT) (.slice AxL L5.length cxL) (.slice AxC C5.length cxC)
 generalize (((wb.setCell ⟨g12, 0, none⟩ (.slice AxT T5.length cxT)).setCell ⟨g12, 1, none⟩ (.slice AxL L5.length cxL)).setCell ⟨g12, 2, none⟩ (.slice AxC C5.length cxC)) = W4 at k12 hbel hB k3 k4 hM k5 hV ⊢
 clear hbox b0 b1 b2 z0 z1 z2 q30 q31 q32 q40 q41 q42 q50 q51 q52
 obtain ⟨q30, q31, q32⟩ := cells3 k3
 obtain ⟨q40, q41, q42⟩ := cells3 k4
 obtain ⟨q50, q51, q52⟩ := cells3 k5
 obtain ⟨q120, q121, q122⟩ := cells3 k12
 go_wp2_with (first
  | (go_at_call 26; (with_reducible refine (laws_sameInts.calls ks5 _ _ L5 _ _ b true _ (Kd.R_reads' hV.oL).2.2 (Kd.R_reads' hV.oL).2.1 (Kd.R_reads' hM.oL).2.2 (Kd.R_reads' hM.oL).2.1 s5).mono ?_); rintro e wa ⟨rfl, hz⟩; have kf := below_drawn hz; clear hz; replace hbel := below_step hbel kf; replace hB := hB.below kf; replace k3 := blk_below k3 kf; replace k4 := blk_below k4 kf; replace hM := hM.below kf; replace k5 := blk_below k5 kf; replace hV := hV.below kf; replace k12 := blk_below k12 kf; clear kf; clear q30 q31 q32 q40 q41 q42 q50 q51 q52 q120 q121 q122; obtain ⟨q30, q31, q32⟩ := cells3 k3; obtain ⟨q40, q41, q42⟩ := cells3 k4; obtain ⟨q50, q51, q52⟩ := cells3 k5; obtain ⟨q120, q121, q122⟩ := cells3 k12))
 go_ret
 exact ⟨rfl, hbel⟩
end Go.Proofs.Ytngnkfpciloamaa.MFnBooked
