/- What the code of the law FnBooked answers. -/
import Derived.Test.YtngnkfpciloamaaShortFnBooked
import Derived.Test.YtngnkfpciloamaaMFnBookedx13
import Derived.Test.YtngnkfpciloamaaMFnBookedx17
import Derived.Test.YtngnkfpciloamaaMFnBookedx19
namespace Go.Proofs.Ytngnkfpciloamaa.MFnBooked
open Go Go.RowKit Go.Proofs.YtngnkfpciloamaaW.PrintWords Go.Proofs.YtngnkfpciloamaaW.PrintLast Go.Proofs.YtngnkfpciloamaaW.PrintMore
attribute [local go_sem] max2_int min2_int max_two min_two max_three min_three max_four min_four
set_option linter.unusedVariables false
set_option linter.unusedSimpArgs false
structure Sy (b : List Int) (i : Int) (T : List S50) (L C : List Int) : Prop where
 hb : b.length ≤ 1048576
 i0 : 0 ≤ i
 i1 : i ≤ 1048576
 t : T.length ≤ 31
 l0 : 0 < L.length
 l : L.length ≤ 30
 c : C.length ≤ 31
theorem Facts.pick (F : Facts) (b : List Int) (i h : Int) (hb : b.length ≤ 1048576) (h0 : 0 ≤ i) (h1 : i ≤ 1048576) (l : List Int) (hl : 0 < l.length) : ∃ r i' h', spec_l1PickInt.f b i h l = some (r, i', h') ∧ 0 ≤ i' ∧ i' ≤ 1048576 := by
 obtain ⟨v, i1, h1', e1, a, c, _, p1, q1⟩ := F.below b i h l.length hb h0 h1
 refine ⟨rd l v, i1, h1', Option.bind_eq_some_iff.mpr ⟨(v, i1, h1'), e1, ?_⟩, p1, q1⟩
 show (if 0 ≤ v then (if v < (l.length : Int) then some (rd l v, i1, h1') else none) else none) = _
 rw [if_pos a, if_pos (c (by omega))]
theorem Dr.appendC {w0 w W W' : World} {g gr g5 : Nat} {b : List Int} {i h : Int} {vT vL vC v1 : Value} {T : List S50} {L C C' : List Int} (d : Dr w0 w W g gr g5 b i h vT vL vC T L C) (ho : Kd.R (Kd.int .i64) 3 W' w.heap.size (fun k => some k ≠ vL.ownBlock) v1 C') (hB : Below w.heap.size W W') (hG : W.grownBy W' vC.ownBlock) :
  W'.heap[g5]? = some (.cells #[vT, vL, vC] 29 (0, 0)) ∧ Dr w0 w (W'.setCell ⟨g5, 2, none⟩ v1) g gr g5 b i h vT vL v1 T L C' := by
 have B := blk_grown d.hb hG (Kd.R_ne d.bk.oC d.hb (by decide))
 have oT := Kd.R_over' d.bk.oT (Kd.R_typed d.bk.oC) (by decide) hG
 have oL := Kd.R_grown d.bk.oL hG (fun k hk e => d.bk.ne k hk e)
 have a' := d.a.grown hB hG (d.a.cur.own_ne d.bk.oC (by decide)) (Kd.R_ne d.bk.oC d.a.hr (by decide))
 have ng : g ≠ g5 := a'.cur.ne_blk B (by decide)
 have k' : Bk W' w.heap.size vT vL v1 T L C' := ⟨oT, oL, R_selfI ho, fun k hk e => ho.1 k e.symm hk⟩
 exact ⟨B, a'.far (p := ⟨g5, 2, none⟩) d.ge ng d.ne v1, blk_put B 2 v1 rfl, k'.set B v1, d.ge, d.ne⟩
def spec_l18DrawAny.T6 : Bool × List (List Nat × List Nat) := (true, [([], []), ([0], [0]), ([], []), ([2], [2]), ([3], [3]), ([], []), ([5, 3], [5]), ([], []), ([7, 6], [7]), ([8], [8]), ([4, 6, 9], [4, 6, 9]), ([10], [10]), ([1, 11, 8], [1, 11]), ([0, 1, 2, 3, 4, 5, 6, 7, 8, 9, 10, 11, 12], []), ([13, 12, 12, 0, 1, 2, 3, 4, 5, 6, 7, 8, 9, 10, 11, 12], [12, 13])])
def spec_l18DrawAny.B6 : List Nat := [0, 1, 0, 4, 12, 0, 44, 0, 236, 492, 1020, 2044, 4095, 8191, 16383]
theorem spec_l18DrawAny.tab6 : rtab .any (opsOf Try.f51 6) = spec_l18DrawAny.T6 := by kernel_rfl
theorem spec_l18DrawAny.bits6 : waitsOk spec_l18DrawAny.T6.2 spec_l18DrawAny.B6 = true := by kernel_rfl
def spec_l18DrawAny.T8 : Bool × List (List Nat × List Nat) := (true, [([], []), ([0], [0]), ([], []), ([2], [2]), ([3], [3]), ([4], [4]), ([], []), ([6], [6]), ([5, 7], [5, 7]), ([1, 8, 7], [1, 8]), ([0, 1, 2, 3, 4, 5, 6, 7, 8, 9], []), ([10, 9, 9, 0, 1, 2, 3, 4, 5, 6, 7, 8, 9], [9, 10])])
def spec_l18DrawAny.B8 : List Nat := [0, 1, 0, 4, 12, 28, 0, 64, 252, 511, 1023, 2047]
theorem spec_l18DrawAny.tab8 : rtab .any (opsOf Try.f51 8) = spec_l18DrawAny.T8 := by kernel_rfl
theorem spec_l18DrawAny.bits8 : waitsOk spec_l18DrawAny.T8.2 spec_l18DrawAny.B8 = true := by kernel_rfl
set_option maxHeartbeats 1000000 in
set_option maxRecDepth 100000 in
theorem spec_l18DrawAny.drawn (F : Facts) (g : Nat) (b : List Int) (ia ha : Int) (A1 : Option Addr) (c1 : Nat) (l1 : List Int) (w0 w : World) (hI : IsS87 w0 w g b ia ha) (hB : Below w0.heap.size w0 w) (hr1 : Kd.C (Kd.int .u8) w0 A1 l1.length l1) (hc1 : l1.length ≤ c1) (hb : b.length ≤ 1048576) (h0 : 0 ≤ ia) (h1 : ia ≤ 1048576) :
  Calls Try.prog 51 #[.pointer (some ⟨g, 0, none⟩), .slice A1 l1.length c1] w fun e w' => ∃ (vT vL vC : Value) (T : List S50) (L C : List Int) (i' h' : Int), e = .returned (.agg #[vT, vL, vC]) ∧ Bk w' w.heap.size vT vL vC T L C ∧ Sy b i' T L C ∧ IsS87 w0 w' g b i' h' ∧ Below w0.heap.size w0 w' ∧ KeepBut w w' g none := by
 have hu29 := Try.underlying29
 have hu50 := Try.underlying50
 go_enter Try.func51, Try.ntmps51
 go_upto_region 2 with (first
  | ((with_reducible refine gate_dst (N := 4) rfl ?_); (try (refine gate_guard (by rfl) ?_; dsimp only)); refine box_event ?hg (N := 4) ?hd (cs := #[.slice none 0 0, .slice none 0 0, .slice none 0 0]) (t := 29) ?hr ?_; (case hd | hg => rfl); (case hr => first | (go_simp; done) | (go_simp; rfl)); intro gr hg wb hbox kf; have hA := Da.start hI hB hg hbox kf; clear hg hbox kf)
  | (go_at_call 64; (with_reducible refine (spec_l18Draw.drawn F g b ia ha _ _ l1 w0 _ hA.cur hA.bel hr1 hc1 hb h0 h1).mono ?_); rintro e wd ⟨u0, u1, u2, T, L, C, i1, s1, rfl, hN0, hS, hi, hb_, hk⟩; have hN := hN0.lower hA.kep.1; replace hA := hA.cursor hi hb_ hk; clear hN0 hi hb_ hk; obtain ⟨AT, cT, eT⟩ := Kd.R_slice hN.oT; subst eT; obtain ⟨AL, cL, eL⟩ := Kd.R_slice hN.oL; subst eL; obtain ⟨AC, cC, eC⟩ := Kd.R_slice hN.oC; subst eC)
  | ((with_reducible refine gate_dst (N := 5) rfl ?_); (try (refine gate_guard (by rfl) ?_; dsimp only)); refine box_event ?hg (N := 5) ?hd (cs := #[.slice none 0 0, .slice none 0 0, .slice none 0 0]) (t := 29) ?hr ?_; (case hd | hg => rfl); (case hr => first | (go_simp; done) | (go_simp; rfl)); intro g5 hg wb hbox kf; have hge5 : w.heap.size ≤ g5 := by { rw [hg]; exact hA.kep.1 }; have n5 : gr ≠ g5 := by { rw [hg]; exact Nat.ne_of_lt (blk_lt hA.hr) }; replace hA := hA.below kf; replace hN := hN.below kf; clear hg kf; obtain ⟨q0, q1, q2⟩ := cells3 hbox; have z0 := blk_frozen hbox 0; have z1 := blk_frozen hbox 1; have z2 := blk_frozen hbox 2))
 have hD := hA.put hbox hge5 n5 hN
 generalize (((wb.setCell ⟨g5, 0, none⟩ (.slice AT T.length cT)).setCell ⟨g5, 1, none⟩ (.slice AL L.length cL)).setCell ⟨g5, 2, none⟩ (.slice AC C.length cC)) = W1 at hD ⊢
 clear hA hN hbox q0 q1 q2 z0 z1 z2 hge5 n5 hI hB h0 h1
 have LT := mk0 hS.t
 have LC := mk0 hS.c
 obtain ⟨v2, i2, s2, B2, y1, y2, _, y3, y4⟩ := F.below b i1 s1 25 hS.hb hS.i0 hS.i1
 replace B2 := mk0 B2
 have hl0 := hS.l0
 have ht := hS.t
 have hl := hS.l
 have hc := hS.c
 go_upto_region 3 with (first
  | (go_at_call 65; (with_reducible refine (spec_l1Below.calls g b i1 s1 25 v2 i2 s2 w0 _ hD.a.cur hD.a.bel B2.out).mono ?_); rintro e wa ⟨rfl, hi, hb_, hk⟩; replace hD := hD.cursor hi hb_ hk; clear hi hb_ hk))
 clear B2
 by_cases c0 : v2 = 0
 ·have c0b : (v2 == 0) = true := beq_iff_eq.mpr c0
  clear c0
  obtain ⟨Y, hY⟩ : ∃ Y : List Int, Y = [-2, 30, 31] := ⟨_, rfl⟩
  obtain ⟨v3, i3, s3, B3, p3, p4⟩ := F.pick b i2 s2 hb y3 y4 Y (by rw [hY]; simp)
  replace hY := mk0 hY
  replace B3 := mk0 B3
  have hSy : Sy b i3 T (L.set 0 v3) C := ⟨hb, p3, p4, by omega, by simpa using hl0, by simpa using hl, by omega⟩
  have p1t : ((0 : Int) < (L.length : Int)) = True := eq_true (by omega)
  have p2t : (0 < L.length) = True := eq_true hl0
  clear y1 y2 y3 y4 p3 p4
  go_wp2
  refine start_ (n := 7) (S := fun w' => w'.heap[g5]? = some (.cells #[.slice AT T.length cT, .slice AL L.length cL, .slice AC C.length cC] 29 (0, 0))) (ds := [6]) #[O,O,O,O,O,O,O] (by kernel_rfl) rfl rfl (blk_drew hD.hb) (fun hS_ => ?_)
  clear hS_
  replace hD := hD.below (below_drew1 (Below.refl _ _))
  generalize World.drew _ = Wd at hD ⊢
  refine pure_ (i := 0) (N := some 13) (v := ?_) (a' := ?_) #[I,O,O,O,O,O,O] rfl rfl (by kernel_rfl) (fun _ _ _ h => h) (Or.inl ⟨by rfl, ?_⟩) ?_ ?_
  rotate_left
  ·intro w'
   go_simp
   with_reducible rfl
  rotate_left
  ·simp only [Act.put, sq1, sq2, sq3, i64_w]
   rfl
  refine pure_ (i := 2) (N := some 15) (v := ?_) (a' := ?_) #[I,O,I,O,O,O,O] rfl rfl (by kernel_rfl) (fun _ _ _ h => h) (Or.inl ⟨by rfl, ?_⟩) ?_ ?_
  rotate_left
  ·intro w'
   go_simp
   with_reducible rfl
  rotate_left
  ·simp only [Act.put, sq1, sq2, sq3, i64_w]
   rfl
  refine take_ (i := 1) (N := some 14) (v := ?_) (a' := ?_) #[I,I,I,O,O,O,O] rfl rfl (by kernel_rfl) (fun _ _ _ h => h) (Or.inl ⟨by rfl, ?_⟩) hD.hb ?_ ?_
  rotate_left
  ·intro w' hS'
   obtain ⟨s0, s1, s2⟩ := cells3 hS'
   go_simp
   with_reducible rfl
  rotate_left
  ·simp only [Act.put, sq1, sq2, sq3, i64_w]
   rfl
  refine one_ (i := 3) (N := some 16) #[I,I,I,I,O,O,O] rfl rfl (by kernel_rfl) (by decide) (fun K hK => ?_)
  refine Kd.R_lit_step (Kd.int .i64) _ 3 ?hg (N := 16) ?hd (xs := ([(-2), 30, 31] : List Int)) (inner := [.int .i64 (-2), .int .i64 30, .int .i64 31]) (ok := fun _ => True) (okp := fun _ => True) ?hr ?hp (fun _ hk => hk) trivial (Below.refl _ _) (Nat.le_refl _) (by simp) ?_; (case hd | hg => rfl); (case hr => first | (go_simp; done) | (go_simp; rfl)); (case hp => exact (Reps.one (show Kd.M (Kd.int .i64) _ _ _ (-2) [.int .i64 (-2)] from rfl) (Reps.one (show Kd.M (Kd.int .i64) _ _ _ 30 [.int .i64 30] from rfl) (Reps.one (show Kd.M (Kd.int .i64) _ _ _ 31 [.int .i64 31] from rfl) (Reps.none _ _)))))
  intro vY wy oY kf hg_ hnew_
  clear hg_ hnew_
  (first | rw [← hY.out] at oY | (simp only [Int.reduceToNat] at oY; rw [← hY.out] at oY))
  replace hD := hD.below kf
  clear kf
  obtain ⟨AY, cY, eY⟩ := Kd.R_slice oY
  subst eY
  refine hK.out _ _ hD.hb (fun _ => ?_)
  clear hK K
  refine norm_ (a' := ?_) ?_ ?_
  rotate_left
  ·show Act.put _ (some 16) _ = _
   simp only [Act.put, sq1, sq2, sq3, i64_w]
   rfl
  refine one_ (i := 4) (N := some 17) #[I,I,I,I,I,O,O] rfl rfl (by kernel_rfl) (by decide) (fun K hK => ?_)
  refine goes_ Try.func59 (by kernel_rfl) rfl #[.pointer (some ⟨g, 0, none⟩), .slice AY Y.length cY] (by rfl) rfl rfl ar ?_
  with_reducible refine (spec_l1PickInt.calls g b i2 s2 _ _ Y v3 i3 s3 w0 _ hD.a.cur hD.a.bel (Kd.R_reads' oY).2.2 (Kd.R_reads' oY).2.1 (blk_of (hD.a.cur.own_ne oY (by decide))) B3.out).mono ?_
  rintro e wc ⟨rfl, hi, hb_, hk⟩
  refine ⟨_, rfl, ?_⟩
  replace hD := hD.cursor hi hb_ hk
  clear hi hb_ hk oY
  obtain ⟨go, co, eo, _, _, _⟩ := Kd.R_form hD.bk.oL hl0
  injection eo with ea en ec
  subst ea
  subst ec
  clear en
  obtain ⟨x0, f0⟩ := Kd.R_celln 0 hD.bk.oL 0 (by omega) (by omega)
  simp only [Int.toNat_zero] at x0 f0
  refine hK.out _ _ hD.hb (fun _ => ?_)
  clear hK K
  refine norm_ (a' := ?_) ?_ ?_
  rotate_left
  ·show Act.put _ (some 17) _ = _
   simp only [Act.put, sq1, sq2, sq3, i64_w]
   rfl
  refine pure_ (i := 5) (N := some 18) (v := ?_) (a' := ?_) #[I,I,I,I,I,I,O] rfl rfl (by kernel_rfl) (fun _ _ _ h => h) (Or.inl ⟨by rfl, ?_⟩) ?_ ?_
  rotate_left
  ·intro w'
   go_simp
   with_reducible rfl
  rotate_left
  ·simp only [Act.put, sq1, sq2, sq3, i64_w]
   rfl
  refine last_ (i := 6) (N := none) #[I,I,I,I,I,I,I] rfl rfl (by kernel_rfl) (by decide) (fun K hK => ?_)
  refine skip_ (w1 := ?_) (by rfl) rfl ?_ ?_
  rotate_left
  ·go_simp
   rfl
  refine hK.out _ _ ?_
  clear hK K
  refine done_ (by kernel_rfl) ?_
  replace hD := hD.line 0 v3
  simp only [Int.toNat_zero] at hD
  generalize (wc.setCell ⟨go, 0, none⟩ (.int .i64 v3)) = W9 at hD ⊢
  clear x0 f0
  obtain ⟨r0, r1, r2⟩ := cells3 hD.a.hr
  have z0 := blk_frozen hD.a.hr 0
  have z1 := blk_frozen hD.a.hr 1
  have z2 := blk_frozen hD.a.hr 2
  obtain ⟨q0, q1, q2⟩ := cells3 hD.hb
  go_wp2
  obtain ⟨hR, hbk, hcur, hbel, hkep⟩ := hD.fin
  refine bodyPost_ret (results_cell_row rfl _ _ gr 29 #[.slice AT T.length cT, .slice (some ⟨go, 0, none⟩) L.length cL, .slice AC C.length cC] (0, 0) _ rfl hR Try.underlying29 rfl (by kernel_rfl)) rfl ?_
  exact ⟨_, _, _, T, (L.set 0 v3), C, _, _, rfl, hbk, hSy, hcur, hbel, hkep⟩
 have c0b : (v2 == 0) = false := beq_eq_false_iff_ne.mpr c0
 by_cases c1_ : v2 = 1
 ·have c1b : (v2 == 1) = true := beq_iff_eq.mpr c1_
  clear c1_
  obtain ⟨x1, i3, s3, B3, _, _, _, p3, p4⟩ := F.below b i2 s2 15 hb y3 y4
  obtain ⟨x2, i4, s4, B4, _, _, _, p5, p6⟩ := F.below b i3 s3 13 hb p3 p4
  obtain ⟨x3, i5, s5, B5, _, _, _, p7, p8⟩ := F.below b i4 s4 8 hb p5 p6
  obtain ⟨Y, hY⟩ : ∃ Y : List S50, Y = T ++ [(⟨wrap64 (x1 - 1), x2, wrap64 (x3 - 2)⟩ : S50)] := ⟨_, rfl⟩
  have hSy : Sy b i5 Y L C := ⟨hb, p7, p8, by rw [hY]; simp; omega, hl0, hl, by omega⟩
  replace hY := mk0 hY
  replace B3 := mk0 B3
  replace B4 := mk0 B4
  replace B5 := mk0 B5
  clear y1 y2 y3 y4 p3 p4 p5 p6 p7 p8
  go_wp2
  refine start_ (n := 15) (S := fun w' => w'.heap[g5]? = some (.cells #[.slice AT T.length cT, .slice AL L.length cL, .slice AC C.length cC] 29 (0, 0))) (ds := [14]) #[O,O,O,O,O,O,O,O,O,O,O,O,O,O,O] (by kernel_rfl) rfl rfl (blk_drew hD.hb) (fun hS_ => ?_)
  refine with_tabW spec_l18DrawAny.tab6 spec_l18DrawAny.bits6 (fun HT_ HW_ => ?_)
  clear hS_
  replace hD := hD.below (below_drew1 (Below.refl _ _))
  generalize World.drew _ = Wd at hD ⊢
  refine pure_ (i := 0) (N := some 21) (v := ?_) (a' := ?_) #[I,O,O,O,O,O,O,O,O,O,O,O,O,O,O] rfl rfl (any_of HT_.out (by kernel_rfl)) (fun _ _ _ h => h) (Or.inl ⟨by rfl, ?_⟩) ?_ ?_
  rotate_left
  ·intro w'
   go_simp
   with_reducible rfl
  rotate_left
  ·simp only [Act.put, sq1, sq2, sq3, i64_w]
   rfl
  refine pure_ (i := 2) (N := some 23) (v := ?_) (a' := ?_) #[I,O,I,O,O,O,O,O,O,O,O,O,O,O,O] rfl rfl (any_of HT_.out (by kernel_rfl)) (fun _ _ _ h => h) (Or.inl ⟨by rfl, ?_⟩) ?_ ?_
  rotate_left
  ·intro w'
   go_simp
   with_reducible rfl
  rotate_left
  ·simp only [Act.put, sq1, sq2, sq3, i64_w]
   rfl
  refine pure_ (i := 5) (N := some 26) (v := ?_) (a' := ?_) #[I,O,I,O,O,I,O,O,O,O,O,O,O,O,O] rfl rfl (any_of HT_.out (by kernel_rfl)) (fun _ _ _ h => h) (Or.inl ⟨by rfl, ?_⟩) ?_ ?_
  rotate_left
  ·intro w'
   go_simp
   with_reducible rfl
  rotate_left
  ·simp only [Act.put, sq1, sq2, sq3, i64_w]
   rfl
  refine pure_ (i := 7) (N := some 28) (v := ?_) (a' := ?_) #[I,O,I,O,O,I,O,I,O,O,O,O,O,O,O] rfl rfl (any_of HT_.out (by kernel_rfl)) (fun _ _ _ h => h) (Or.inl ⟨by rfl, ?_⟩) ?_ ?_
  rotate_left
  ·intro w'
   go_simp
   with_reducible rfl
  rotate_left
  ·simp only [Act.put, sq1, sq2, sq3, i64_w]
   rfl
  refine take_ (i := 1) (N := some 22) (v := ?_) (a' := ?_) #[I,I,I,O,O,I,O,I,O,O,O,O,O,O,O] rfl rfl (take_ofW HT_.out HW_.out (by kernel_rfl)) (fun _ _ _ h => h) (Or.inl ⟨by rfl, ?_⟩) hD.hb ?_ ?_
  rotate_left
  ·intro w' hS'
   obtain ⟨s0, s1, s2⟩ := cells3 hS'
   go_simp
   with_reducible rfl
  rotate_left
  ·simp only [Act.put, sq1, sq2, sq3, i64_w]
   rfl
  refine one_ (i := 3) (N := some 24) #[I,I,I,I,O,I,O,I,O,O,O,O,O,O,O] rfl rfl (one_of HT_.out (by kernel_rfl)) (by decide) (fun K hK => ?_)
  refine goes_ Try.func65 (by kernel_rfl) rfl #[.pointer (some ⟨g, 0, none⟩), .int .i64 15] (by rfl) rfl rfl ar ?_
  with_reducible refine (spec_l1Below.calls g b i2 s2 15 x1 i3 s3 w0 _ hD.a.cur hD.a.bel B3.out).mono ?_
  rintro e wc ⟨rfl, hi, hb_, hk⟩
  refine ⟨_, rfl, ?_⟩
  replace hD := hD.cursor hi hb_ hk
  clear hi hb_ hk
  refine hK.out _ _ hD.hb (fun _ => ?_)
  clear hK K
  refine norm_ (a' := ?_) ?_ ?_
  rotate_left
  ·show Act.put _ (some 24) _ = _
   simp only [Act.put, sq1, sq2, sq3, i64_w]
   rfl
  refine pure_ (i := 4) (N := some 25) (v := ?_) (a' := ?_) #[I,I,I,I,I,I,O,I,O,O,O,O,O,O,O] rfl rfl (any_of HT_.out (by kernel_rfl)) (fun _ _ _ h => h) (Or.inl ⟨by rfl, ?_⟩) ?_ ?_
  rotate_left
  ·intro w'
   go_simp
   with_reducible rfl
  rotate_left
  ·simp only [Act.put, sq1, sq2, sq3, i64_w]
   rfl
  refine one_ (i := 6) (N := some 27) #[I,I,I,I,I,I,I,I,O,O,O,O,O,O,O] rfl rfl (one_of HT_.out (by kernel_rfl)) (by decide) (fun K hK => ?_)
  refine goes_ Try.func65 (by kernel_rfl) rfl #[.pointer (some ⟨g, 0, none⟩), .int .i64 13] (by rfl) rfl rfl ar ?_
  with_reducible refine (spec_l1Below.calls g b i3 s3 13 x2 i4 s4 w0 _ hD.a.cur hD.a.bel B4.out).mono ?_
  rintro e wc ⟨rfl, hi, hb_, hk⟩
  refine ⟨_, rfl, ?_⟩
  replace hD := hD.cursor hi hb_ hk
  clear hi hb_ hk
  refine hK.out _ _ hD.hb (fun _ => ?_)
  clear hK K
  refine norm_ (a' := ?_) ?_ ?_
  rotate_left
  ·show Act.put _ (some 27) _ = _
   simp only [Act.put, sq1, sq2, sq3, i64_w]
   rfl
  refine one_ (i := 8) (N := some 29) #[I,I,I,I,I,I,I,I,I,O,O,O,O,O,O] rfl rfl (one_of HT_.out (by kernel_rfl)) (by decide) (fun K hK => ?_)
  refine goes_ Try.func65 (by kernel_rfl) rfl #[.pointer (some ⟨g, 0, none⟩), .int .i64 8] (by rfl) rfl rfl ar ?_
  with_reducible refine (spec_l1Below.calls g b i4 s4 8 x3 i5 s5 w0 _ hD.a.cur hD.a.bel B5.out).mono ?_
  rintro e wc ⟨rfl, hi, hb_, hk⟩
  refine ⟨_, rfl, ?_⟩
  replace hD := hD.cursor hi hb_ hk
  clear hi hb_ hk
  refine hK.out _ _ hD.hb (fun _ => ?_)
  clear hK K
  refine norm_ (a' := ?_) ?_ ?_
  rotate_left
  ·show Act.put _ (some 29) _ = _
   simp only [Act.put, sq1, sq2, sq3, i64_w]
   rfl
  refine pure_ (i := 9) (N := some 30) (v := ?_) (a' := ?_) #[I,I,I,I,I,I,I,I,I,I,O,O,O,O,O] rfl rfl (any_of HT_.out (by kernel_rfl)) (fun _ _ _ h => h) (Or.inl ⟨by rfl, ?_⟩) ?_ ?_
  rotate_left
  ·intro w'
   go_simp
   with_reducible rfl
  rotate_left
  ·simp only [Act.put, sq1, sq2, sq3, i64_w]
   rfl
  refine pure_ (i := 10) (N := some 31) (v := ?_) (a' := ?_) #[I,I,I,I,I,I,I,I,I,I,I,O,O,O,O] rfl rfl (any_of HT_.out (by kernel_rfl)) (fun _ _ _ h => h) (Or.inl ⟨by rfl, ?_⟩) ?_ ?_
  rotate_left
  ·intro w'
   go_simp
   with_reducible rfl
  rotate_left
  ·simp only [Act.put, sq1, sq2, sq3, i64_w]
   rfl
  refine one_ (i := 11) (N := some 32) #[I,I,I,I,I,I,I,I,I,I,I,I,O,O,O] rfl rfl (one_of HT_.out (by kernel_rfl)) (by decide) (fun K hK => ?_)
  refine value_ (w1 := ?_) (v := ?_) (by rfl) rfl ?_ ?_
  rotate_left 2
  ·go_simp
   constructor
   ·rfl
   ·rfl
  refine hK.out _ _ (blk_alloc hD.hb _) (fun _ => ?_)
  clear hK K
  refine norm_ (a' := ?_) ?_ ?_
  rotate_left
  ·show Act.put _ (some 32) _ = _
   simp only [Act.put, sq1, sq2, sq3, i64_w]
   rfl
  refine one_ (i := 12) (N := some 33) #[I,I,I,I,I,I,I,I,I,I,I,I,I,O,O] rfl rfl (one_of HT_.out (by kernel_rfl)) (by decide) (fun K hK => ?_)
  refine Kd.R_append_step k50 w.heap.size (by rfl) (.tmp 22) (.tmp 32) 27 50 (.agg #[(.int .i64 0), (.int .i64 0), (.int .i64 0)]) 24 rfl Try.underlying27 info50 rfl (by decide) (by omega) (.slice AT T.length cT) T (⟨wrap64 (x1 - 1), x2, wrap64 (x3 - 2)⟩ : S50) [.int .i64 (wrap64 (x1 - 1)), .int .i64 x2, .int .i64 (wrap64 (x3 - 2))] (fun _ => True) (fun _ => False) rfl rfl ?aP (fun _ hk => hk.elim) ?aF ?aO (Below.refl _ _) ?aS ?aL ?_
  (case aP => exact k50_mkM _ _ _ (⟨wrap64 (x1 - 1), x2, wrap64 (x3 - 2)⟩ : S50))
  (case aF => exact (fun _ _ => trivial))
  (case aO => exact Kd.R_mono hD.bk.oT (fun _ _ => trivial))
  (case aS => exact hD.a.kep.1)
  (case aL => have := LT.out; omega)
  intro vN wd ho hb_ hg_ hat
  rw [← hY.out] at ho
  obtain ⟨AY, cY, eY⟩ := Kd.R_slice ho
  subst eY
  obtain ⟨hB5, hD'⟩ := hD.append ho hb_ hg_
  clear ho hb_ hg_ hat
  refine hK.out _ _ hB5 (fun _ => ?_)
  clear hK K
  refine norm_ (a' := ?_) ?_ ?_
  rotate_left
  ·show Act.put _ (some 33) _ = _
   simp only [Act.put, sq1, sq2, sq3, i64_w]
   rfl
  refine pure_ (i := 13) (N := some 34) (v := ?_) (a' := ?_) #[I,I,I,I,I,I,I,I,I,I,I,I,I,I,O] rfl rfl (any_of HT_.out (by kernel_rfl)) (fun _ _ _ h => h) (Or.inl ⟨by rfl, ?_⟩) ?_ ?_
  rotate_left
  ·intro w'
   go_simp
   with_reducible rfl
  rotate_left
  ·simp only [Act.put, sq1, sq2, sq3, i64_w]
   rfl
  refine last_ (i := 14) (N := none) #[I,I,I,I,I,I,I,I,I,I,I,I,I,I,I] rfl rfl (one_of HT_.out (by kernel_rfl)) (by decide) (fun K hK => ?_)
  obtain ⟨q0, q1, q2⟩ := cells3 hB5
  have z0 := blk_frozen hB5 0
  refine skip_ (w1 := ?_) (by rfl) rfl ?_ ?_
  rotate_left
  ·go_simp
   rfl
  refine hK.out _ _ ?_
  clear hK K
  refine done_ (done_of HT_.out (by kernel_rfl)) ?_
  replace hD := hD'
  clear hD'
  generalize (wd.setCell ⟨g5, 0, none⟩ (.slice AY Y.length cY)) = W9 at hD ⊢
  obtain ⟨r0, r1, r2⟩ := cells3 hD.a.hr
  have z0 := blk_frozen hD.a.hr 0
  have z1 := blk_frozen hD.a.hr 1
  have z2 := blk_frozen hD.a.hr 2
  obtain ⟨q0, q1, q2⟩ := cells3 hD.hb
  go_wp2
  obtain ⟨hR, hbk, hcur, hbel, hkep⟩ := hD.fin
  refine bodyPost_ret (results_cell_row rfl _ _ gr 29 #[.slice AY Y.length cY, .slice AL L.length cL, .slice AC C.length cC] (0, 0) _ rfl hR Try.underlying29 rfl (by kernel_rfl)) rfl ?_
  exact ⟨_, _, _, Y, L, C, _, _, rfl, hbk, hSy, hcur, hbel, hkep⟩
 have c1b : (v2 == 1) = false := beq_eq_false_iff_ne.mpr c1_
 by_cases c2_ : v2 = 2
 ·have c2b : (v2 == 2) = true := beq_iff_eq.mpr c2_
  clear c2_
  obtain ⟨v3, i3, s3, B3, p1, p2, _, p3, p4⟩ := F.below b i2 s2 2 hb y3 y4
  have p2' := p2 (by omega)
  have e1 : wrap64 (30 - (C.length : Int)) = 30 - (C.length : Int) := wrap_small (by omega) (by omega)
  have e2 : wrap64 ((wrap64 (30 - (C.length : Int))) + v3) = 30 - (C.length : Int) + v3 := by rw [e1]; exact wrap_small (by omega) (by omega)
  have hE0 : 0 ≤ wrap64 ((wrap64 (30 - (C.length : Int))) + v3) := by rw [e2]; omega
  have LC : Aside0 (C.length + (wrap64 ((wrap64 (30 - (C.length : Int))) + v3)).toNat ≤ 31) := ⟨by rw [e2]; omega⟩
  obtain ⟨Y, hY⟩ : ∃ Y : List Int, Y = C ++ List.replicate (wrap64 ((wrap64 (30 - (C.length : Int))) + v3)).toNat 0 := ⟨_, rfl⟩
  have hSy : Sy b i3 T L Y := ⟨hb, p3, p4, by omega, hl0, hl, by rw [hY]; simpa using LC.out⟩
  have hE1 := eq_true hE0
  replace hE0 := mk0 hE0
  replace hY := mk0 hY
  replace B3 := mk0 B3
  clear y1 y2 y3 y4 p1 p2 p2' p3 p4 e1 e2
  go_wp2
  refine start_ (n := 12) (S := fun w' => w'.heap[g5]? = some (.cells #[.slice AT T.length cT, .slice AL L.length cL, .slice AC C.length cC] 29 (0, 0))) (ds := [11]) #[O,O,O,O,O,O,O,O,O,O,O,O] (by kernel_rfl) rfl rfl (blk_drew hD.hb) (fun hS_ => ?_)
  refine with_tabW spec_l18DrawAny.tab8 spec_l18DrawAny.bits8 (fun HT_ HW_ => ?_)
  clear hS_
  replace hD := hD.below (below_drew1 (Below.refl _ _))
  generalize World.drew _ = Wd at hD ⊢
  refine pure_ (i := 0) (N := some 37) (v := ?_) (a' := ?_) #[I,O,O,O,O,O,O,O,O,O,O,O] rfl rfl (any_of HT_.out (by kernel_rfl)) (fun _ _ _ h => h) (Or.inl ⟨by rfl, ?_⟩) ?_ ?_
  rotate_left
  ·intro w'
   go_simp
   with_reducible rfl
  rotate_left
  ·simp only [Act.put, sq1, sq2, sq3, i64_w]
   rfl
  refine pure_ (i := 2) (N := some 39) (v := ?_) (a' := ?_) #[I,O,I,O,O,O,O,O,O,O,O,O] rfl rfl (any_of HT_.out (by kernel_rfl)) (fun _ _ _ h => h) (Or.inl ⟨by rfl, ?_⟩) ?_ ?_
  rotate_left
  ·intro w'
   go_simp
   with_reducible rfl
  rotate_left
  ·simp only [Act.put, sq1, sq2, sq3, i64_w]
   rfl
  refine pure_ (i := 6) (N := some 43) (v := ?_) (a' := ?_) #[I,O,I,O,O,O,I,O,O,O,O,O] rfl rfl (any_of HT_.out (by kernel_rfl)) (fun _ _ _ h => h) (Or.inl ⟨by rfl, ?_⟩) ?_ ?_
  rotate_left
  ·intro w'
   go_simp
   with_reducible rfl
  rotate_left
  ·simp only [Act.put, sq1, sq2, sq3, i64_w]
   rfl
  refine take_ (i := 1) (N := some 38) (v := ?_) (a' := ?_) #[I,I,I,O,O,O,I,O,O,O,O,O] rfl rfl (take_ofW HT_.out HW_.out (by kernel_rfl)) (fun _ _ _ h => h) (Or.inl ⟨by rfl, ?_⟩) hD.hb ?_ ?_
  rotate_left
  ·intro w' hS'
   obtain ⟨s0, s1, s2⟩ := cells3 hS'
   go_simp
   with_reducible rfl
  rotate_left
  ·simp only [Act.put, sq1, sq2, sq3, i64_w]
   rfl
  refine take_ (i := 3) (N := some 40) (v := ?_) (a' := ?_) #[I,I,I,I,O,O,I,O,O,O,O,O] rfl rfl (take_ofW HT_.out HW_.out (by kernel_rfl)) (fun _ _ _ h => h) (Or.inl ⟨by rfl, ?_⟩) hD.hb ?_ ?_
  rotate_left
  ·intro w' hS'
   obtain ⟨s0, s1, s2⟩ := cells3 hS'
   go_simp
   with_reducible rfl
  rotate_left
  ·simp only [Act.put, sq1, sq2, sq3, i64_w]
   rfl
  refine pure_ (i := 4) (N := some 41) (v := ?_) (a' := ?_) #[I,I,I,I,I,O,I,O,O,O,O,O] rfl rfl (any_of HT_.out (by kernel_rfl)) (fun _ _ _ h => h) (Or.inl ⟨by rfl, ?_⟩) ?_ ?_
  rotate_left
  ·intro w'
   go_simp
   with_reducible rfl
  rotate_left
  ·simp only [Act.put, sq1, sq2, sq3, i64_w]
   rfl
  refine pure_ (i := 5) (N := some 42) (v := ?_) (a' := ?_) #[I,I,I,I,I,I,I,O,O,O,O,O] rfl rfl (any_of HT_.out (by kernel_rfl)) (fun _ _ _ h => h) (Or.inl ⟨by rfl, ?_⟩) ?_ ?_
  rotate_left
  ·intro w'
   go_simp
   with_reducible rfl
  rotate_left
  ·simp only [Act.put, sq1, sq2, sq3, i64_w]
   rfl
  refine one_ (i := 7) (N := some 44) #[I,I,I,I,I,I,I,I,O,O,O,O] rfl rfl (one_of HT_.out (by kernel_rfl)) (by decide) (fun K hK => ?_)
  refine goes_ Try.func65 (by kernel_rfl) rfl #[.pointer (some ⟨g, 0, none⟩), .int .i64 2] (by rfl) rfl rfl ar ?_
  with_reducible refine (spec_l1Below.calls g b i2 s2 2 v3 i3 s3 w0 _ hD.a.cur hD.a.bel B3.out).mono ?_
  rintro e wc ⟨rfl, hi, hb_, hk⟩
  refine ⟨_, rfl, ?_⟩
  replace hD := hD.cursor hi hb_ hk
  clear hi hb_ hk
  refine hK.out _ _ hD.hb (fun _ => ?_)
  clear hK K
  refine norm_ (a' := ?_) ?_ ?_
  rotate_left
  ·show Act.put _ (some 44) _ = _
   simp only [Act.put, sq1, sq2, sq3, i64_w]
   rfl
  refine pure_ (i := 8) (N := some 45) (v := ?_) (a' := ?_) #[I,I,I,I,I,I,I,I,I,O,O,O] rfl rfl (any_of HT_.out (by kernel_rfl)) (fun _ _ _ h => h) (Or.inl ⟨by rfl, ?_⟩) ?_ ?_
  rotate_left
  ·intro w'
   go_simp
   with_reducible rfl
  rotate_left
  ·simp only [Act.put, sq1, sq2, sq3, i64_w]
   rfl
  refine one_ (i := 9) (N := some 46) #[I,I,I,I,I,I,I,I,I,I,O,O] rfl rfl (one_of HT_.out (by kernel_rfl)) (by decide) (fun K hK => ?_)
  refine Kd.R_append_zeros_step (Kd.int .i64) w.heap.size (by rfl) (.tmp 38) (.tmp 45) 23 3 3 (.int .i64 0) 8 rfl Try.underlying23 Try.underlying3 info3 rfl (by decide) (by omega) (.slice AC C.length cC) C 0 (wrap64 ((wrap64 (30 - (C.length : Int))) + v3)) (fun k_ => some k_ ≠ (.slice AL L.length cL : Value).ownBlock) rfl rfl rfl ?aF ?aO hE0.out (Below.refl _ _) ?aS ?aL ?_
  (case aF => exact (fun k_ hk => Kd.fresh' (Kd.R_lt hD.bk.oL) k_ hk))
  (case aO => exact Kd.R_mono hD.bk.oC (fun k_ hk e_ => hD.bk.ne k_ e_ hk))
  (case aS => exact hD.a.kep.1)
  (case aL => have := LC.out; omega)
  intro vN wd ho hb_ hg_ hat
  rw [← hY.out] at ho
  obtain ⟨AY, cY, eY⟩ := Kd.R_slice ho
  subst eY
  obtain ⟨hB5, hD'⟩ := hD.appendC ho hb_ hg_
  clear ho hb_ hg_ hat
  refine hK.out _ _ hB5 (fun _ => ?_)
  clear hK K
  refine norm_ (a' := ?_) ?_ ?_
  rotate_left
  ·show Act.put _ (some 46) _ = _
   simp only [Act.put, sq1, sq2, sq3, i64_w]
   rfl
  refine pure_ (i := 10) (N := some 47) (v := ?_) (a' := ?_) #[I,I,I,I,I,I,I,I,I,I,I,O] rfl rfl (any_of HT_.out (by kernel_rfl)) (fun _ _ _ h => h) (Or.inl ⟨by rfl, ?_⟩) ?_ ?_
  rotate_left
  ·intro w'
   go_simp
   with_reducible rfl
  rotate_left
  ·simp only [Act.put, sq1, sq2, sq3, i64_w]
   rfl
  refine last_ (i := 11) (N := none) #[I,I,I,I,I,I,I,I,I,I,I,I] rfl rfl (one_of HT_.out (by kernel_rfl)) (by decide) (fun K hK => ?_)
  obtain ⟨q0, q1, q2⟩ := cells3 hB5
  have z0 := blk_frozen hB5 2
  refine skip_ (w1 := ?_) (by rfl) rfl ?_ ?_
  rotate_left
  ·go_simp
   rfl
  refine hK.out _ _ ?_
  clear hK K
  refine done_ (done_of HT_.out (by kernel_rfl)) ?_
  replace hD := hD'
  clear hD'
  generalize (wd.setCell ⟨g5, 2, none⟩ (.slice AY Y.length cY)) = W9 at hD ⊢
  obtain ⟨r0, r1, r2⟩ := cells3 hD.a.hr
  have z0 := blk_frozen hD.a.hr 0
  have z1 := blk_frozen hD.a.hr 1
  have z2 := blk_frozen hD.a.hr 2
  obtain ⟨q0, q1, q2⟩ := cells3 hD.hb
  go_wp2
  obtain ⟨hR, hbk, hcur, hbel, hkep⟩ := hD.fin
  refine bodyPost_ret (results_cell_row rfl _ _ gr 29 #[.slice AT T.length cT, .slice AL L.length cL, .slice AY Y.length cY] (0, 0) _ rfl hR Try.underlying29 rfl (by kernel_rfl)) rfl ?_
  exact ⟨_, _, _, T, L, Y, _, _, rfl, hbk, hSy, hcur, hbel, hkep⟩
 have c2b : (v2 == 2) = false := beq_eq_false_iff_ne.mpr c2_
 by_cases c3_ : v2 = 3
 ·have c3b : (v2 == 3) = true := beq_iff_eq.mpr c3_
  clear c3_
  have hSy : Sy b i2 T L C := ⟨hb, y3, y4, by omega, hl0, hl, by omega⟩
  clear y1 y2 y3 y4
  go_wp2
  go_loopg [] (31 - T.length) (fun gk W => ∃ (i h : Int) (vT : Value) (T : List S50), Aside0 (gk = 31 - T.length) ∧ Aside0 (Dr w0 w W g gr g5 b i h vT (.slice AL L.length cL) (.slice AC C.length cC) T L C) ∧ Aside0 (Sy b i T L C))
  case atStart => exact ⟨i2, s2, _, T, ⟨rfl⟩, ⟨hD⟩, ⟨hSy⟩⟩
  case round =>
   clear hD hSy hS LT ht
   obtain ⟨i, h, vT, T, hx, hD0, hS0⟩ := hrel
   have hD := hD0.out
   have hS := hS0.out
   clear hD0 hS0
   obtain ⟨AT, cT, eT⟩ := Kd.R_slice hD.bk.oT
   subst eT
   have LT := mk0 hS.t
   obtain ⟨v1, i1, s1, B1, y1, y2, _, y3, y4⟩ := F.below b i h 2 hb hS.i0 hS.i1
   replace y2 := y2 (by omega)
   have hw : wrap64 (30 + v1) = 30 + v1 := wrap_small (by omega) (by omega)
   replace B1 := mk0 B1
   by_cases c : (T.length : Int) < wrap64 (30 + v1)
   ·have cb : decide ((T.length : Int) < wrap64 (30 + v1)) = true := decide_eq_true c
    obtain ⟨g', hg'⟩ : ∃ g', gk = g' + 1 := ⟨gk - 1, by have := hx.out; omega⟩
    have hlt : T.length ≤ 30 := by omega
    obtain ⟨Y, hY⟩ : ∃ Y : List S50, Y = T ++ [(⟨0, 0, 0⟩ : S50)] := ⟨_, rfl⟩
    have hyl : Y.length = T.length + 1 := by rw [hY]; simp
    have hSy : Sy b i1 Y L C := ⟨hb, y3, y4, by omega, hl0, hl, hS.c⟩
    have hgy : g' = 31 - Y.length := by have := hx.out; omega
    replace hY := mk0 hY
    replace hgy := mk0 hgy
    replace hg' := mk0 hg'
    clear c hw y1 y2 y3 y4 hlt hyl
    go_wp2
    refine start_ (n := 7) (S := fun w' => w'.heap[g5]? = some (.cells #[.slice AT T.length cT, .slice AL L.length cL, .slice AC C.length cC] 29 (0, 0))) (ds := []) #[O,O,O,O,O,O,O] (by kernel_rfl) rfl rfl (blk_drew hD.hb) (fun hS_ => ?_)
    clear hS_
    replace hD := hD.below (below_drew1 (Below.refl _ _))
    generalize World.drew _ = Wd at hD ⊢
    refine pure_ (i := 0) (N := some 50) (v := ?_) (a' := ?_) #[I,O,O,O,O,O,O] rfl rfl (by kernel_rfl) (fun _ _ _ h => h) (Or.inl ⟨by rfl, ?_⟩) ?_ ?_
    rotate_left
    ·intro w'
     go_simp
     with_reducible rfl
    rotate_left
    ·simp only [Act.put, sq1, sq2, sq3, i64_w]
     rfl
    refine pure_ (i := 3) (N := some 53) (v := ?_) (a' := ?_) #[I,O,O,I,O,O,O] rfl rfl (by kernel_rfl) (fun _ _ _ h => h) (Or.inl ⟨by rfl, ?_⟩) ?_ ?_
    rotate_left
    ·intro w'
     go_simp
     with_reducible rfl
    rotate_left
    ·simp only [Act.put, sq1, sq2, sq3, i64_w]
     rfl
    refine take_ (i := 1) (N := some 51) (v := ?_) (a' := ?_) #[I,I,O,I,O,O,O] rfl rfl (by kernel_rfl) (fun _ _ _ h => h) (Or.inl ⟨by rfl, ?_⟩) hD.hb ?_ ?_
    rotate_left
    ·intro w' hS'
     obtain ⟨s0, s1, s2⟩ := cells3 hS'
     go_simp
     with_reducible rfl
    rotate_left
    ·simp only [Act.put, sq1, sq2, sq3, i64_w]
     rfl
    refine pure_ (i := 2) (N := some 52) (v := ?_) (a' := ?_) #[I,I,I,I,O,O,O] rfl rfl (by kernel_rfl) (fun _ _ _ h => h) (Or.inl ⟨by rfl, ?_⟩) ?_ ?_
    rotate_left
    ·intro w'
     go_simp
     with_reducible rfl
    rotate_left
    ·simp only [Act.put, sq1, sq2, sq3, i64_w]
     rfl
    refine one_ (i := 4) (N := some 54) #[I,I,I,I,I,O,O] rfl rfl (by kernel_rfl) (by decide) (fun K hK => ?_)
    refine goes_ Try.func65 (by kernel_rfl) rfl #[.pointer (some ⟨g, 0, none⟩), .int .i64 2] (by rfl) rfl rfl ar ?_
    with_reducible refine (spec_l1Below.calls g b i h 2 v1 i1 s1 w0 _ hD.a.cur hD.a.bel B1.out).mono ?_
    rintro e wc ⟨rfl, hi, hb_, hk⟩
    refine ⟨_, rfl, ?_⟩
    replace hD := hD.cursor hi hb_ hk
    clear hi hb_ hk
    refine hK.out _ _ hD.hb (fun _ => ?_)
    clear hK K
    refine norm_ (a' := ?_) ?_ ?_
    rotate_left
    ·show Act.put _ (some 54) _ = _
     simp only [Act.put, sq1, sq2, sq3, i64_w]
     rfl
    refine pure_ (i := 5) (N := some 55) (v := ?_) (a' := ?_) #[I,I,I,I,I,I,O] rfl rfl (by kernel_rfl) (fun _ _ _ h => h) (Or.inl ⟨by rfl, ?_⟩) ?_ ?_
    rotate_left
    ·intro w'
     go_simp
     with_reducible rfl
    rotate_left
    ·simp only [Act.put, sq1, sq2, sq3, i64_w]
     rfl
    refine pure_ (i := 6) (N := some 56) (v := ?_) (a' := ?_) #[I,I,I,I,I,I,I] rfl rfl (by kernel_rfl) (fun _ _ _ h => h) (Or.inl ⟨by rfl, ?_⟩) ?_ ?_
    rotate_left
    ·intro w'
     go_simp
     with_reducible rfl
    rotate_left
    ·simp only [Act.put, sq1, sq2, sq3, i64_w]
     rfl
    refine done_ (by kernel_rfl) ?_
    obtain ⟨q0, q1, q2⟩ := cells3 hD.hb
    go_wp2_with (first
     | ((with_reducible refine gate_builtin (b := .append) (xs := #[.tmp 58, .tmp 60]) rfl ?_); (try (refine gate_guard (by rfl) ?_; dsimp only)); at_builtin; refine Kd.R_append k50 w.heap.size rfl (.tmp 58) (.tmp 60) 27 50 (.agg #[(.int .i64 0), (.int .i64 0), (.int .i64 0)]) 24 rfl Try.underlying27 info50 rfl (by decide) (by omega) (.slice AT T.length cT) T (⟨0, 0, 0⟩ : S50) [.int .i64 0, .int .i64 0, .int .i64 0] (fun _ => True) (fun _ => False) rfl rfl ?aP (fun _ hk => hk.elim) ?aF ?aO (Below.refl _ _) ?aS ?aL ?_; (case aP => exact k50_mkM _ _ _ (⟨0, 0, 0⟩ : S50)); (case aF => exact fun _ _ => trivial); (case aO => exact Kd.R_mono hD.bk.oT (fun _ _ => trivial)); (case aS => exact hD.a.kep.1); (case aL => have := LT.out; omega); intro vN wd ho hb_ hg_ hat; rw [← hY.out] at ho; obtain ⟨AY, cY, eY⟩ := Kd.R_slice ho; subst eY; obtain ⟨hB5, hD'⟩ := hD.append ho hb_ hg_; obtain ⟨q0, q1, q2⟩ := cells3 hB5; have z0 := blk_frozen hB5 0; clear ho hb_ hg_ hat))
    go_roundg g'
    case measure => have := hg'.out; omega
    case rel => exact ⟨i1, s1, _, Y, ⟨hgy.out⟩, ⟨hD'⟩, ⟨hSy⟩⟩
   ·have cb : decide ((T.length : Int) < wrap64 (30 + v1)) = false := decide_eq_false c
    have hSy : Sy b i1 T L C := ⟨hb, y3, y4, hS.t, hl0, hl, hS.c⟩
    clear c hw y1 y2 y3 y4
    go_wp2
    refine start_ (n := 7) (S := fun w' => w'.heap[g5]? = some (.cells #[.slice AT T.length cT, .slice AL L.length cL, .slice AC C.length cC] 29 (0, 0))) (ds := []) #[O,O,O,O,O,O,O] (by kernel_rfl) rfl rfl (blk_drew hD.hb) (fun hS_ => ?_)
    clear hS_
    replace hD := hD.below (below_drew1 (Below.refl _ _))
    generalize World.drew _ = Wd at hD ⊢
    refine pure_ (i := 0) (N := some 50) (v := ?_) (a' := ?_) #[I,O,O,O,O,O,O] rfl rfl (by kernel_rfl) (fun _ _ _ h => h) (Or.inl ⟨by rfl, ?_⟩) ?_ ?_
    rotate_left
    ·intro w'
     go_simp
     with_reducible rfl
    rotate_left
    ·simp only [Act.put, sq1, sq2, sq3, i64_w]
     rfl
    refine pure_ (i := 3) (N := some 53) (v := ?_) (a' := ?_) #[I,O,O,I,O,O,O] rfl rfl (by kernel_rfl) (fun _ _ _ h => h) (Or.inl ⟨by rfl, ?_⟩) ?_ ?_
    rotate_left
    ·intro w'
     go_simp
     with_reducible rfl
    rotate_left
    ·simp only [Act.put, sq1, sq2, sq3, i64_w]
     rfl
    refine take_ (i := 1) (N := some 51) (v := ?_) (a' := ?_) #[I,I,O,I,O,O,O] rfl rfl (by kernel_rfl) (fun _ _ _ h => h) (Or.inl ⟨by rfl, ?_⟩) hD.hb ?_ ?_
    rotate_left
    ·intro w' hS'
     obtain ⟨s0, s1, s2⟩ := cells3 hS'
     go_simp
     with_reducible rfl
    rotate_left
    ·simp only [Act.put, sq1, sq2, sq3, i64_w]
     rfl
    refine pure_ (i := 2) (N := some 52) (v := ?_) (a' := ?_) #[I,I,I,I,O,O,O] rfl rfl (by kernel_rfl) (fun _ _ _ h => h) (Or.inl ⟨by rfl, ?_⟩) ?_ ?_
    rotate_left
    ·intro w'
     go_simp
     with_reducible rfl
    rotate_left
    ·simp only [Act.put, sq1, sq2, sq3, i64_w]
     rfl
    refine one_ (i := 4) (N := some 54) #[I,I,I,I,I,O,O] rfl rfl (by kernel_rfl) (by decide) (fun K hK => ?_)
    refine goes_ Try.func65 (by kernel_rfl) rfl #[.pointer (some ⟨g, 0, none⟩), .int .i64 2] (by rfl) rfl rfl ar ?_
    with_reducible refine (spec_l1Below.calls g b i h 2 v1 i1 s1 w0 _ hD.a.cur hD.a.bel B1.out).mono ?_
    rintro e wc ⟨rfl, hi, hb_, hk⟩
    refine ⟨_, rfl, ?_⟩
    replace hD := hD.cursor hi hb_ hk
    clear hi hb_ hk
    refine hK.out _ _ hD.hb (fun _ => ?_)
    clear hK K
    refine norm_ (a' := ?_) ?_ ?_
    rotate_left
    ·show Act.put _ (some 54) _ = _
     simp only [Act.put, sq1, sq2, sq3, i64_w]
     rfl
    refine pure_ (i := 5) (N := some 55) (v := ?_) (a' := ?_) #[I,I,I,I,I,I,O] rfl rfl (by kernel_rfl) (fun _ _ _ h => h) (Or.inl ⟨by rfl, ?_⟩) ?_ ?_
    rotate_left
    ·intro w'
     go_simp
     with_reducible rfl
    rotate_left
    ·simp only [Act.put, sq1, sq2, sq3, i64_w]
     rfl
    refine pure_ (i := 6) (N := some 56) (v := ?_) (a' := ?_) #[I,I,I,I,I,I,I] rfl rfl (by kernel_rfl) (fun _ _ _ h => h) (Or.inl ⟨by rfl, ?_⟩) ?_ ?_
    rotate_left
    ·intro w'
     go_simp
     with_reducible rfl
    rotate_left
    ·simp only [Act.put, sq1, sq2, sq3, i64_w]
     rfl
    refine done_ (by kernel_rfl) ?_
    obtain ⟨r0, r1, r2⟩ := cells3 hD.a.hr
    have z0 := blk_frozen hD.a.hr 0
    have z1 := blk_frozen hD.a.hr 1
    have z2 := blk_frozen hD.a.hr 2
    obtain ⟨q0, q1, q2⟩ := cells3 hD.hb
    go_wp2
    obtain ⟨hR, hbk, hcur, hbel, hkep⟩ := hD.fin
    refine bodyPost_ret (results_cell_row rfl _ _ gr 29 #[.slice AT T.length cT, .slice AL L.length cL, .slice AC C.length cC] (0, 0) _ rfl hR Try.underlying29 rfl (by kernel_rfl)) rfl ?_
    exact ⟨_, _, _, T, L, C, _, _, rfl, hbk, hSy, hcur, hbel, hkep⟩
 have c3b : (v2 == 3) = false := beq_eq_false_iff_ne.mpr c3_
 have hSy : Sy b i2 T L C := ⟨hb, y3, y4, by omega, hl0, hl, by omega⟩
 clear y1 y2 y3 y4
 obtain ⟨r0, r1, r2⟩ := cells3 hD.a.hr
 have z0 := blk_frozen hD.a.hr 0
 have z1 := blk_frozen hD.a.hr 1
 have z2 := blk_frozen hD.a.hr 2
 obtain ⟨q0, q1, q2⟩ := cells3 hD.hb
 go_wp2
 obtain ⟨hR, hbk, hcur, hbel, hkep⟩ := hD.fin
 refine bodyPost_ret (results_cell_row rfl _ _ gr 29 #[.slice AT T.length cT, .slice AL L.length cL, .slice AC C.length cC] (0, 0) _ rfl hR Try.underlying29 rfl (by kernel_rfl)) rfl ?_
 exact ⟨_, _, _, T, L, C, _, _, rfl, hbk, hSy, hcur, hbel, hkep⟩
set_option maxHeartbeats 2000000 in
set_option maxRecDepth 100000 in
theorem spec_DrawAdd18.drawn (F : Facts) (FM : ∀ (T : List S50) (L C : List Int), T.length ≤ 31 → L.length ≤ 31 → C.length ≤ 31 → ∃ k T1 L1 C1 G, spec_MendBook.f k T L C = some (T1, L1, C1, G) ∧ T1.length ≤ 31 ∧ L1.length ≤ 31 ∧ C1.length ≤ 31) (k : Nat) (ha : Int) (A1 : Option Addr) (c1 : Nat) (l1 : List Int) (w : World) (hr1 : Kd.C (Kd.int .u8) w A1 l1.length l1) (hc1 : l1.length ≤ c1) (hb : l1.length ≤ 1048576) (hN : spec_l1New.f k l1 = some (l1, 0, ha)) :
  Calls Try.prog 30 #[.slice A1 l1.length c1] w fun e w' => ∃ (vT vL vC : Value) (T : List S50) (L C : List Int) (t0 t1 t2 : Int), e = .returned (.tuple #[.agg #[vT, vL, vC], .agg #[.int .i64 t0, .int .i64 t1, .int .i64 t2]]) ∧ Bk w' w.heap.size vT vL vC T L C ∧ (T.length ≤ 31 ∧ L.length ≤ 31 ∧ C.length ≤ 31) ∧ Below w.heap.size w w' := by
 have hu29 := Try.underlying29
 have hu50 := Try.underlying50
 replace hN := mk0 hN
 go_enter Try.func30, Try.ntmps30
 go_upto_region 3 with (first
  | ((with_reducible refine gate_dst (N := 2) rfl ?_); refine box_event ?hg (N := 2) ?hd (cs := #[.slice none 0 0, .slice none 0 0, .slice none 0 0]) (t := 29) ?hr ?_; (case hd | hg => rfl); (case hr => first | (go_simp; done) | (go_simp; rfl)); intro g2 hg w1 hr2 kf; have ge2 : w.heap.size ≤ g2 := Nat.le_of_eq hg.symm; clear hg)
  | ((with_reducible refine gate_dst (N := 3) rfl ?_); refine box_event ?hg (N := 3) ?hd (cs := #[.int .i64 0, .int .i64 0, .int .i64 0]) (t := 50) ?hr ?_; (case hd | hg => rfl); (case hr => first | (go_simp; done) | (go_simp; rfl)); intro g3 hg w1b h3 kf3; have ge3 : w.heap.size ≤ g3 := by { rw [hg]; exact kf.size }; have n23 : g2 ≠ g3 := by { rw [hg]; exact Nat.ne_of_lt (blk_lt hr2) }; replace hr2 := blk_below hr2 kf3; replace kf := below_step kf kf3; clear hg kf3)
  | (go_at_call 52; (with_reducible refine (spec_l1New.calls k _ _ l1 l1 0 ha w _ kf hr1 hc1 hN.out).mono ?_); rintro e w2 ⟨g, rfl, hI, hB, k2⟩; replace hr2 := blk_below hr2 k2; replace h3 := blk_below h3 k2; clear k2 kf; have ng : g ≠ g2 := hI.ne_blk hr2 (by decide); have ng3 : g ≠ g3 := hI.ne_blk h3 (by decide); have hA : Da w w w2 g g2 l1 0 ha := ⟨hI, hB, KeepBut.of_below hB g none, hr2, ge2, Nat.le_refl _⟩; clear hI hB hr2)
  | (go_at_call 51; (with_reducible refine (spec_l18DrawAny.drawn F g l1 0 ha _ _ l1 w _ hA.cur hA.bel hr1 hc1 hb (by omega) (by omega)).mono ?_); rintro e w3 ⟨vT, vL, vC, T, L, C, i1, s1, rfl, hk0, hS, hI', hB', hK⟩; have h3k := fun (j : Nat) (hj : bkOwn vT vL vC j) => (Nat.lt_of_lt_of_le (blk_lt h3) (hk0.ge hj)); have hN1 := hk0.lower hA.kep.1; replace h3 := hK.blk h3 (Ne.symm ng3) (by simp); replace hA := hA.cursor hI' hB' hK; clear hk0 hK hI' hB'; obtain ⟨AT, cT, eT⟩ := Kd.R_slice hN1.oT; subst eT; obtain ⟨AL, cL, eL⟩ := Kd.R_slice hN1.oL; subst eL; obtain ⟨AC, cC, eC⟩ := Kd.R_slice hN1.oC; subst eC)
  | ((with_reducible refine gate_dst (N := 5) rfl ?_); (try (refine gate_guard (by rfl) ?_; dsimp only)); refine box_event ?hg (N := 5) ?hd (cs := #[.slice none 0 0, .slice none 0 0, .slice none 0 0]) (t := 29) ?hr ?_; (case hd | hg => rfl); (case hr => first | (go_simp; done) | (go_simp; rfl)); intro g5 hg wb hbox kf; have hge5 : w.heap.size ≤ g5 := by { rw [hg]; exact hA.kep.1 }; have n5 : g2 ≠ g5 := by { rw [hg]; exact Nat.ne_of_lt (blk_lt hA.hr) }; have n35 : g3 ≠ g5 := by { rw [hg]; exact Nat.ne_of_lt (blk_lt h3) }; replace hA := hA.below kf; replace hN1 := hN1.below kf; replace h3 := blk_below h3 kf; clear hg kf; obtain ⟨q0, q1, q2⟩ := cells3 hbox; have z0 := blk_frozen hbox 0; have z1 := blk_frozen hbox 1; have z2 := blk_frozen hbox 2))
 have hD := hA.put hbox hge5 n5 hN1
 replace h3 := far3 h3 n35 (.slice AT T.length cT) (.slice AL L.length cL) (.slice AC C.length cC)
 generalize (((wb.setCell ⟨g5, 0, none⟩ (.slice AT T.length cT)).setCell ⟨g5, 1, none⟩ (.slice AL L.length cL)).setCell ⟨g5, 2, none⟩ (.slice AC C.length cC)) = W1 at hD h3 ⊢
 clear hA hN1 hbox q0 q1 q2 z0 z1 z2 hge5
 have n32 : g3 ≠ g2 := Ne.symm n23
 have n53 : g5 ≠ g3 := Ne.symm n35
 obtain ⟨r, i2, s2, B2, y3, y4⟩ := F.once l1 i1 s1 hb hS.i0 hS.i1 2
 replace B2 := mk0 B2
 obtain ⟨q0, q1, q2⟩ := cells3 hD.hb
 obtain ⟨km, T1, L1, C1, G, B3, lT, lL, lC⟩ := FM T L C hS.t (Nat.le_trans hS.l (by omega)) hS.c
 replace B3 := mk0 B3
 have hSz : Aside0 (T.length ≤ 31 ∧ L.length ≤ 31 ∧ C.length ≤ 31) := ⟨hS.t, Nat.le_trans hS.l (by omega), hS.c⟩
 have hk3 : ∀ j, bkOwn (.slice AT T.length cT) (.slice AL L.length cL) (.slice AC C.length cC) j → j ≠ g3 := fun j hj => Ne.symm (Nat.ne_of_lt (h3k j hj))
 clear hS h3k
 cases r
 case true =>
  go_upto_region 5 with (first
   | (go_at_call 57; (with_reducible refine (spec_l1Once.calls g l1 i1 s1 2 true i2 s2 w _ hD.a.cur hD.a.bel B2.out).mono ?_); rintro e wa ⟨rfl, hi, hb_, hk⟩; replace h3 := hk.blk h3 (Ne.symm ng3) (by simp); replace hD := hD.cursor hi hb_ hk; clear hi hb_ hk; (try clear q0 q1 q2); obtain ⟨q0, q1, q2⟩ := cells3 hD.hb)
   | (go_at_call 10; (with_reducible refine (spec_MendBook.calls km _ _ T _ _ L _ _ C T1 L1 C1 G _ (Kd.R_reads' hD.bk.oT).2.2 (Kd.R_reads' hD.bk.oT).2.1 (Kd.R_reads' hD.bk.oL).2.2 (Kd.R_reads' hD.bk.oL).2.1 (Kd.R_reads' hD.bk.oC).2.2 (Kd.R_reads' hD.bk.oC).2.1 B3.out).mono ?_); rintro e wm ⟨u0, u1, u2, u3, rfl, o0, o1, o2, o3, kf⟩; have hQ0 := Bk.of o0 (Kd.R_mono o1 (fun _ h_ => h_.1)) (Kd.R_mono o2 (fun _ h_ => h_.1)); have hk4 : ∀ j, bkOwn u0 u1 u2 j → j ≠ g3 := (fun j hj => Ne.symm (Nat.ne_of_lt (Nat.lt_of_lt_of_le (blk_lt h3) (hQ0.ge hj)))); have hQ := hQ0.lower hD.a.kep.1; replace hD := hD.below kf; replace h3 := blk_below h3 kf; clear kf o0 o1 o2 o3 hQ0 q0 q1 q2; obtain ⟨A2T, c2T, eT⟩ := Kd.R_slice hQ.oT; subst eT; obtain ⟨A2L, c2L, eL⟩ := Kd.R_slice hQ.oL; subst eL; obtain ⟨A2C, c2C, eC⟩ := Kd.R_slice hQ.oC; subst eC; obtain ⟨q0, q1, q2⟩ := cells3 hD.hb; have z0 := blk_frozen hD.hb 0; have z1 := blk_frozen hD.hb 1; have z2 := blk_frozen hD.hb 2))
  replace hD := hD.put hQ
  replace h3 := far3 h3 n35 (.slice A2T T1.length c2T) (.slice A2L L1.length c2L) (.slice A2C C1.length c2C)
  generalize (((wm.setCell ⟨g5, 0, none⟩ (.slice A2T T1.length c2T)).setCell ⟨g5, 1, none⟩ (.slice A2L L1.length c2L)).setCell ⟨g5, 2, none⟩ (.slice A2C C1.length c2C)) = W2 at hD h3 ⊢
  clear q0 q1 q2 z0 z1 z2 hQ hk3 hSz
  have hSz : Aside0 (T1.length ≤ 31 ∧ L1.length ≤ 31 ∧ C1.length ≤ 31) := ⟨lT, lL, lC⟩
  have hk3 := hk4
  clear hk4
  obtain ⟨q0, q1, q2⟩ := cells3 hD.hb
  clear B3
  obtain ⟨t0, t1, t2, i3, s3, B4, y5, y6⟩ := F.talk l1 i2 s2 hb y3 y4 T1 L1 C1
  replace B4 := mk0 B4
  go_upto_region 6 with (first
   | (go_at_call 58; (with_reducible refine (spec_l18DrawTalk.calls g l1 i2 s2 _ _ T1 _ _ L1 _ _ C1 t0 t1 t2 i3 s3 w _ hD.a.cur hD.a.bel (fun W_ hk => (Kd.R_reads' (R_cur hD.a.cur hD.bk.oT (by decide) hk)).2.2) (Kd.R_reads' hD.bk.oT).2.1 (Kd.R_reads' hD.bk.oL).2.2 (Kd.R_reads' hD.bk.oL).2.1 (blk_of (hD.a.cur.own_ne hD.bk.oL (by decide))) (Kd.R_reads' hD.bk.oC).2.2 (Kd.R_reads' hD.bk.oC).2.1 (blk_of (hD.a.cur.own_ne hD.bk.oC (by decide))) B4.out).mono ?_); rintro e wa ⟨rfl, hi, hb_, hk⟩; replace h3 := hk.blk h3 (Ne.symm ng3) (by simp); replace hD := hD.cursor hi hb_ hk; clear hi hb_ hk q0 q1 q2)
   | ((with_reducible refine gate_dst (N := 6) rfl ?_); (try (refine gate_guard (by rfl) ?_; dsimp only)); refine box_event ?hg (N := 6) ?hd (cs := #[.int .i64 0, .int .i64 0, .int .i64 0]) (t := 50) ?hr ?_; (case hd | hg => rfl); (case hr => first | (go_simp; done) | (go_simp; rfl)); intro g6 hg wb hbox kf; have hge6 : w.heap.size ≤ g6 := by { rw [hg]; exact hD.a.kep.1 }; have hl6 : ∀ j, bkOwn (.slice A2T T1.length c2T) (.slice A2L L1.length c2L) (.slice A2C C1.length c2C) j → j ≠ g6 := by { rw [hg]; exact fun j hj => Nat.ne_of_lt (hD.bk.lt hj) }; have n6 : g ≠ g6 := by { rw [hg]; exact Nat.ne_of_lt hD.a.cur.lt }; have n26 : g2 ≠ g6 := by { rw [hg]; exact Nat.ne_of_lt (blk_lt hD.a.hr) }; have n56 : g5 ≠ g6 := by { rw [hg]; exact Nat.ne_of_lt (blk_lt hD.hb) }; have n36 : g3 ≠ g6 := by { rw [hg]; exact Nat.ne_of_lt (blk_lt h3) }; replace hD := hD.below kf; replace h3 := blk_below h3 kf; clear hg kf; obtain ⟨q0, q1, q2⟩ := cells3 hbox; have z0 := blk_frozen hbox 0; have z1 := blk_frozen hbox 1; have z2 := blk_frozen hbox 2))
  have hT := put3 hbox (.int .i64 t0) (.int .i64 t1) (.int .i64 t2)
  replace hD := hD.far3 hge6 n6 n26 n56 hl6 (.int .i64 t0) (.int .i64 t1) (.int .i64 t2)
  replace h3 := far3 h3 n36 (.int .i64 t0) (.int .i64 t1) (.int .i64 t2)
  generalize (((wb.setCell ⟨g6, 0, none⟩ (.int .i64 t0)).setCell ⟨g6, 1, none⟩ (.int .i64 t1)).setCell ⟨g6, 2, none⟩ (.int .i64 t2)) = W3 at hD h3 hT ⊢
  have n62 : g6 ≠ g2 := Ne.symm n26
  have n63 : g6 ≠ g3 := Ne.symm n36
  clear hbox q0 q1 q2 z0 z1 z2 B4
  obtain ⟨r, i4, s4, B5, y7, y8⟩ := F.once l1 i3 s3 hb y5 y6 20
  replace B5 := mk0 B5
  obtain ⟨q0, q1, q2⟩ := cells3 hD.hb
  cases r
  ·go_wp2_with (first
    | (go_at_call 57; (with_reducible refine (spec_l1Once.calls g l1 i3 s3 20 false i4 s4 w _ hD.a.cur hD.a.bel B5.out).mono ?_); rintro e wa ⟨rfl, hi, hb_, hk⟩; replace h3 := hk.blk h3 (Ne.symm ng3) (by simp); replace hT := hk.blk hT (Ne.symm n6) (by simp); replace hD := hD.cursor hi hb_ hk; clear hi hb_ hk; (try clear q0 q1 q2); obtain ⟨q0, q1, q2⟩ := cells3 hD.hb))
   refine start_ (n := 4) (S := fun w' => w'.heap[g5]? = some (.cells #[.slice A2T T1.length c2T, .slice A2L L1.length c2L, .slice A2C C1.length c2C] 29 (0, 0)) ∧ w'.heap[g6]? = some (.cells #[.int .i64 t0, .int .i64 t1, .int .i64 t2] 50 (0, 0))) (ds := []) #[O,O,O,O] (by kernel_rfl) rfl rfl ⟨blk_drew hD.hb, blk_drew hT⟩ (fun hS_ => ?_)
   clear hS_
   replace hD := hD.below (below_drew1 (Below.refl _ _))
   replace h3 := blk_drew h3
   replace hT := blk_drew hT
   generalize World.drew _ = Wd at hD h3 hT ⊢
   refine take_ (i := 0) (N := some 31) (v := ?_) (a' := ?_) #[I,O,O,O] rfl rfl (by kernel_rfl) (fun _ _ _ h => h) (Or.inl ⟨by rfl, ?_⟩) ⟨hD.hb, hT⟩ ?_ ?_
   rotate_left
   ·rintro w' ⟨hS', hS6'⟩
    obtain ⟨s0, s1, s2⟩ := cells3 hS'
    obtain ⟨s3, s4, s5⟩ := cells3 hS6'
    go_simp
    with_reducible rfl
   rotate_left
   ·simp only [Act.put, sq1, sq2, sq3, i64_w]
    rfl
   refine take_ (i := 1) (N := some 32) (v := ?_) (a' := ?_) #[I,I,O,O] rfl rfl (by kernel_rfl) (fun _ _ _ h => h) (Or.inl ⟨by rfl, ?_⟩) ⟨hD.hb, hT⟩ ?_ ?_
   rotate_left
   ·rintro w' ⟨hS', hS6'⟩
    obtain ⟨s0, s1, s2⟩ := cells3 hS'
    obtain ⟨s3, s4, s5⟩ := cells3 hS6'
    go_simp
    with_reducible rfl
   rotate_left
   ·simp only [Act.put, sq1, sq2, sq3, i64_w]
    rfl
   refine one_ (i := 2) (N := none) #[I,I,I,O] rfl rfl (by kernel_rfl) (by decide) (fun K hK => ?_)
   obtain ⟨r0, r1, r2⟩ := cells3 hD.a.hr
   have z0 := blk_frozen hD.a.hr 0
   have z1 := blk_frozen hD.a.hr 1
   have z2 := blk_frozen hD.a.hr 2
   refine skip_ (w1 := ?_) (by rfl) rfl ?_ ?_
   rotate_left
   ·go_simp
    rfl
   obtain ⟨hR, hbk, hcur, hbel, hkep⟩ := hD.fin
   have hb5 := far3 hD.hb (Ne.symm hD.ne) (.slice A2T T1.length c2T) (.slice A2L L1.length c2L) (.slice A2C C1.length c2C)
   have ge2 := hD.a.ge
   replace hT := far3 hT n62 (.slice A2T T1.length c2T) (.slice A2L L1.length c2L) (.slice A2C C1.length c2C)
   replace h3 := far3 h3 n32 (.slice A2T T1.length c2T) (.slice A2L L1.length c2L) (.slice A2C C1.length c2C)
   generalize (((Wd.setCell ⟨g2, 0, none⟩ (.slice A2T T1.length c2T)).setCell ⟨g2, 1, none⟩ (.slice A2L L1.length c2L)).setCell ⟨g2, 2, none⟩ (.slice A2C C1.length c2C)) = We at hR hbk hbel hb5 hT h3 ⊢
   refine hK.out _ _ ⟨hb5, hT⟩ (fun _ => ?_)
   clear hK K r0 r1 r2 z0 z1 z2 hD hcur hkep
   refine one_ (i := 3) (N := none) #[I,I,I,I] rfl rfl (by kernel_rfl) (by decide) (fun K hK => ?_)
   obtain ⟨r0, r1, r2⟩ := cells3 h3
   have z0 := blk_frozen h3 0
   have z1 := blk_frozen h3 1
   have z2 := blk_frozen h3 2
   refine skip_ (w1 := ?_) (by rfl) rfl ?_ ?_
   rotate_left
   ·go_simp
    rfl
   have hb5 := far3 hb5 n53 (.int .i64 t0) (.int .i64 t1) (.int .i64 t2)
   have hT := far3 hT n63 (.int .i64 t0) (.int .i64 t1) (.int .i64 t2)
   have hR := far3 hR n23 (.int .i64 t0) (.int .i64 t1) (.int .i64 t2)
   have h3 := put3 h3 (.int .i64 t0) (.int .i64 t1) (.int .i64 t2)
   refine hK.out _ _ ⟨hb5, hT⟩ (fun _ => ?_)
   clear hK K
   refine done_ (by kernel_rfl) ?_
   go_wp2
   refine bodyPost_ret (results_cc rfl _ _ g2 g3 29 50 #[.slice A2T T1.length c2T, .slice A2L L1.length c2L, .slice A2C C1.length c2C] #[.int .i64 t0, .int .i64 t1, .int .i64 t2] (0, 0) (0, 0) _ _ rfl hR Try.underlying29 rfl (by kernel_rfl) rfl h3 Try.underlying50 rfl (by kernel_rfl)) rfl ?_
   exact ⟨_, _, _, T1, L1, C1, _, _, _, rfl, (((hbk.far (p := ⟨g3, 0, none⟩) hk3 _).far (p := ⟨g3, 1, none⟩) hk3 _).far (p := ⟨g3, 2, none⟩) hk3 _), hSz.out, ((hbel.setCell (p := ⟨g3, 0, none⟩) ge3 _).setCell (p := ⟨g3, 1, none⟩) ge3 _).setCell (p := ⟨g3, 2, none⟩) ge3 _⟩
  ·obtain ⟨Y, hY⟩ : ∃ Y : List Int, Y = [-1, (L1.length : Int)] := ⟨_, rfl⟩
   obtain ⟨v5, i5, s5, B6, y9, y10⟩ := F.pick l1 i4 s4 hb y7 y8 Y (by rw [hY]; simp)
   replace hY := mk0 hY
   replace B6 := mk0 B6
   go_upto_region 8 with (first
    | (go_at_call 57; (with_reducible refine (spec_l1Once.calls g l1 i3 s3 20 true i4 s4 w _ hD.a.cur hD.a.bel B5.out).mono ?_); rintro e wa ⟨rfl, hi, hb_, hk⟩; replace h3 := hk.blk h3 (Ne.symm ng3) (by simp); replace hT := hk.blk hT (Ne.symm n6) (by simp); replace hD := hD.cursor hi hb_ hk; clear hi hb_ hk; (try clear q0 q1 q2); obtain ⟨q0, q1, q2⟩ := cells3 hD.hb)
    | ((with_reducible refine gate_dst (N := 28) rfl ?_); (try (refine gate_guard (by rfl) ?_; dsimp only)); refine Kd.R_lit (Kd.int .i64) _ 3 ?hg (N := 28) ?hd (xs := ([(-1), (L1.length : Int)] : List Int)) (inner := [.int .i64 (-1), .int .i64 (L1.length : Int)]) (ok := fun _ => True) (okp := fun _ => True) ?hr ?hp (fun _ hk => hk) trivial (Below.refl _ _) (Nat.le_refl _) (by simp) ?_; (case hd | hg => rfl); (case hr => first | (go_simp; done) | (go_simp; rfl)); (case hp => exact (Reps.one (show Kd.M (Kd.int .i64) _ _ _ (-1) [.int .i64 (-1)] from rfl) (Reps.one (show Kd.M (Kd.int .i64) _ _ _ (L1.length : Int) [.int .i64 (L1.length : Int)] from rfl) (Reps.none _ _)))); intro vY wy oY kf hg_ hnew_; clear hg_ hnew_; (first | rw [← hY.out] at oY | (simp only [Int.reduceToNat] at oY; rw [← hY.out] at oY)); replace hD := hD.below kf; replace h3 := blk_below h3 kf; replace hT := blk_below hT kf; clear kf q0 q1 q2; obtain ⟨q0, q1, q2⟩ := cells3 hD.hb; obtain ⟨AY, cY, eY⟩ := Kd.R_slice oY; subst eY)
    | (go_at_call 59; (with_reducible refine (spec_l1PickInt.calls g l1 i4 s4 _ _ Y v5 i5 s5 w _ hD.a.cur hD.a.bel (Kd.R_reads' oY).2.2 (Kd.R_reads' oY).2.1 (blk_of (hD.a.cur.own_ne oY (by decide))) B6.out).mono ?_); rintro e wp ⟨rfl, hi, hb_, hk⟩; replace h3 := hk.blk h3 (Ne.symm ng3) (by simp); replace hT := hk.blk hT (Ne.symm n6) (by simp); replace hD := hD.cursor hi hb_ hk; clear hi hb_ hk oY q0 q1 q2; obtain ⟨q0, q1, q2⟩ := cells3 hD.hb; obtain ⟨p0, p1, p2⟩ := cells3 hT; have z0 := blk_frozen hT 0))
   replace hD := hD.far (p := ⟨g6, 0, none⟩) hge6 n6 n26 n56 hl6 (.int .i64 v5)
   replace h3 := blk_far h3 n36 (p := ⟨g6, 0, none⟩) (.int .i64 v5)
   replace hT := blk_put hT 0 (.int .i64 v5) (cs' := #[.int .i64 v5, .int .i64 t1, .int .i64 t2]) rfl
   generalize (wp.setCell ⟨g6, 0, none⟩ (.int .i64 v5)) = W5 at hD h3 hT ⊢
   clear q0 q1 q2 p0 p1 p2 z0
   go_wp2
   refine start_ (n := 4) (S := fun w' => w'.heap[g5]? = some (.cells #[.slice A2T T1.length c2T, .slice A2L L1.length c2L, .slice A2C C1.length c2C] 29 (0, 0)) ∧ w'.heap[g6]? = some (.cells #[.int .i64 v5, .int .i64 t1, .int .i64 t2] 50 (0, 0))) (ds := []) #[O,O,O,O] (by kernel_rfl) rfl rfl ⟨blk_drew hD.hb, blk_drew hT⟩ (fun hS_ => ?_)
   clear hS_
   replace hD := hD.below (below_drew1 (Below.refl _ _))
   replace h3 := blk_drew h3
   replace hT := blk_drew hT
   generalize World.drew _ = Wd at hD h3 hT ⊢
   refine take_ (i := 0) (N := some 31) (v := ?_) (a' := ?_) #[I,O,O,O] rfl rfl (by kernel_rfl) (fun _ _ _ h => h) (Or.inl ⟨by rfl, ?_⟩) ⟨hD.hb, hT⟩ ?_ ?_
   rotate_left
   ·rintro w' ⟨hS', hS6'⟩
    obtain ⟨s0, s1, s2⟩ := cells3 hS'
    obtain ⟨s3, s4, s5⟩ := cells3 hS6'
    go_simp
    with_reducible rfl
   rotate_left
   ·simp only [Act.put, sq1, sq2, sq3, i64_w]
    rfl
   refine take_ (i := 1) (N := some 32) (v := ?_) (a' := ?_) #[I,I,O,O] rfl rfl (by kernel_rfl) (fun _ _ _ h => h) (Or.inl ⟨by rfl, ?_⟩) ⟨hD.hb, hT⟩ ?_ ?_
   rotate_left
   ·rintro w' ⟨hS', hS6'⟩
    obtain ⟨s0, s1, s2⟩ := cells3 hS'
    obtain ⟨s3, s4, s5⟩ := cells3 hS6'
    go_simp
    with_reducible rfl
   rotate_left
   ·simp only [Act.put, sq1, sq2, sq3, i64_w]
    rfl
   refine one_ (i := 2) (N := none) #[I,I,I,O] rfl rfl (by kernel_rfl) (by decide) (fun K hK => ?_)
   obtain ⟨r0, r1, r2⟩ := cells3 hD.a.hr
   have z0 := blk_frozen hD.a.hr 0
   have z1 := blk_frozen hD.a.hr 1
   have z2 := blk_frozen hD.a.hr 2
   refine skip_ (w1 := ?_) (by rfl) rfl ?_ ?_
   rotate_left
   ·go_simp
    rfl
   obtain ⟨hR, hbk, hcur, hbel, hkep⟩ := hD.fin
   have hb5 := far3 hD.hb (Ne.symm hD.ne) (.slice A2T T1.length c2T) (.slice A2L L1.length c2L) (.slice A2C C1.length c2C)
   have ge2 := hD.a.ge
   replace hT := far3 hT n62 (.slice A2T T1.length c2T) (.slice A2L L1.length c2L) (.slice A2C C1.length c2C)
   replace h3 := far3 h3 n32 (.slice A2T T1.length c2T) (.slice A2L L1.length c2L) (.slice A2C C1.length c2C)
   generalize (((Wd.setCell ⟨g2, 0, none⟩ (.slice A2T T1.length c2T)).setCell ⟨g2, 1, none⟩ (.slice A2L L1.length c2L)).setCell ⟨g2, 2, none⟩ (.slice A2C C1.length c2C)) = We at hR hbk hbel hb5 hT h3 ⊢
   refine hK.out _ _ ⟨hb5, hT⟩ (fun _ => ?_)
   clear hK K r0 r1 r2 z0 z1 z2 hD hcur hkep
   refine one_ (i := 3) (N := none) #[I,I,I,I] rfl rfl (by kernel_rfl) (by decide) (fun K hK => ?_)
   obtain ⟨r0, r1, r2⟩ := cells3 h3
   have z0 := blk_frozen h3 0
   have z1 := blk_frozen h3 1
   have z2 := blk_frozen h3 2
   refine skip_ (w1 := ?_) (by rfl) rfl ?_ ?_
   rotate_left
   ·go_simp
    rfl
   have hb5 := far3 hb5 n53 (.int .i64 v5) (.int .i64 t1) (.int .i64 t2)
   have hT := far3 hT n63 (.int .i64 v5) (.int .i64 t1) (.int .i64 t2)
   have hR := far3 hR n23 (.int .i64 v5) (.int .i64 t1) (.int .i64 t2)
   have h3 := put3 h3 (.int .i64 v5) (.int .i64 t1) (.int .i64 t2)
   refine hK.out _ _ ⟨hb5, hT⟩ (fun _ => ?_)
   clear hK K
   refine done_ (by kernel_rfl) ?_
   go_wp2
   refine bodyPost_ret (results_cc rfl _ _ g2 g3 29 50 #[.slice A2T T1.length c2T, .slice A2L L1.length c2L, .slice A2C C1.length c2C] #[.int .i64 v5, .int .i64 t1, .int .i64 t2] (0, 0) (0, 0) _ _ rfl hR Try.underlying29 rfl (by kernel_rfl) rfl h3 Try.underlying50 rfl (by kernel_rfl)) rfl ?_
   exact ⟨_, _, _, T1, L1, C1, _, _, _, rfl, (((hbk.far (p := ⟨g3, 0, none⟩) hk3 _).far (p := ⟨g3, 1, none⟩) hk3 _).far (p := ⟨g3, 2, none⟩) hk3 _), hSz.out, ((hbel.setCell (p := ⟨g3, 0, none⟩) ge3 _).setCell (p := ⟨g3, 1, none⟩) ge3 _).setCell (p := ⟨g3, 2, none⟩) ge3 _⟩
 case false =>
  clear B3 lT lL lC
  go_upto_region 5 with (first
   | (go_at_call 57; (with_reducible refine (spec_l1Once.calls g l1 i1 s1 2 false i2 s2 w _ hD.a.cur hD.a.bel B2.out).mono ?_); rintro e wa ⟨rfl, hi, hb_, hk⟩; replace h3 := hk.blk h3 (Ne.symm ng3) (by simp); replace hD := hD.cursor hi hb_ hk; clear hi hb_ hk; (try clear q0 q1 q2); obtain ⟨q0, q1, q2⟩ := cells3 hD.hb))
  obtain ⟨t0, t1, t2, i3, s3, B4, y5, y6⟩ := F.talk l1 i2 s2 hb y3 y4 T L C
  replace B4 := mk0 B4
  go_upto_region 6 with (first
   | (go_at_call 58; (with_reducible refine (spec_l18DrawTalk.calls g l1 i2 s2 _ _ T _ _ L _ _ C t0 t1 t2 i3 s3 w _ hD.a.cur hD.a.bel (fun W_ hk => (Kd.R_reads' (R_cur hD.a.cur hD.bk.oT (by decide) hk)).2.2) (Kd.R_reads' hD.bk.oT).2.1 (Kd.R_reads' hD.bk.oL).2.2 (Kd.R_reads' hD.bk.oL).2.1 (blk_of (hD.a.cur.own_ne hD.bk.oL (by decide))) (Kd.R_reads' hD.bk.oC).2.2 (Kd.R_reads' hD.bk.oC).2.1 (blk_of (hD.a.cur.own_ne hD.bk.oC (by decide))) B4.out).mono ?_); rintro e wa ⟨rfl, hi, hb_, hk⟩; replace h3 := hk.blk h3 (Ne.symm ng3) (by simp); replace hD := hD.cursor hi hb_ hk; clear hi hb_ hk q0 q1 q2)
   | ((with_reducible refine gate_dst (N := 6) rfl ?_); (try (refine gate_guard (by rfl) ?_; dsimp only)); refine box_event ?hg (N := 6) ?hd (cs := #[.int .i64 0, .int .i64 0, .int .i64 0]) (t := 50) ?hr ?_; (case hd | hg => rfl); (case hr => first | (go_simp; done) | (go_simp; rfl)); intro g6 hg wb hbox kf; have hge6 : w.heap.size ≤ g6 := by { rw [hg]; exact hD.a.kep.1 }; have hl6 : ∀ j, bkOwn (.slice AT T.length cT) (.slice AL L.length cL) (.slice AC C.length cC) j → j ≠ g6 := by { rw [hg]; exact fun j hj => Nat.ne_of_lt (hD.bk.lt hj) }; have n6 : g ≠ g6 := by { rw [hg]; exact Nat.ne_of_lt hD.a.cur.lt }; have n26 : g2 ≠ g6 := by { rw [hg]; exact Nat.ne_of_lt (blk_lt hD.a.hr) }; have n56 : g5 ≠ g6 := by { rw [hg]; exact Nat.ne_of_lt (blk_lt hD.hb) }; have n36 : g3 ≠ g6 := by { rw [hg]; exact Nat.ne_of_lt (blk_lt h3) }; replace hD := hD.below kf; replace h3 := blk_below h3 kf; clear hg kf; obtain ⟨q0, q1, q2⟩ := cells3 hbox; have z0 := blk_frozen hbox 0; have z1 := blk_frozen hbox 1; have z2 := blk_frozen hbox 2))
  have hT := put3 hbox (.int .i64 t0) (.int .i64 t1) (.int .i64 t2)
  replace hD := hD.far3 hge6 n6 n26 n56 hl6 (.int .i64 t0) (.int .i64 t1) (.int .i64 t2)
  replace h3 := far3 h3 n36 (.int .i64 t0) (.int .i64 t1) (.int .i64 t2)
  generalize (((wb.setCell ⟨g6, 0, none⟩ (.int .i64 t0)).setCell ⟨g6, 1, none⟩ (.int .i64 t1)).setCell ⟨g6, 2, none⟩ (.int .i64 t2)) = W3 at hD h3 hT ⊢
  have n62 : g6 ≠ g2 := Ne.symm n26
  have n63 : g6 ≠ g3 := Ne.symm n36
  clear hbox q0 q1 q2 z0 z1 z2 B4
  obtain ⟨r, i4, s4, B5, y7, y8⟩ := F.once l1 i3 s3 hb y5 y6 20
  replace B5 := mk0 B5
  obtain ⟨q0, q1, q2⟩ := cells3 hD.hb
  cases r
  ·go_wp2_with (first
    | (go_at_call 57; (with_reducible refine (spec_l1Once.calls g l1 i3 s3 20 false i4 s4 w _ hD.a.cur hD.a.bel B5.out).mono ?_); rintro e wa ⟨rfl, hi, hb_, hk⟩; replace h3 := hk.blk h3 (Ne.symm ng3) (by simp); replace hT := hk.blk hT (Ne.symm n6) (by simp); replace hD := hD.cursor hi hb_ hk; clear hi hb_ hk; (try clear q0 q1 q2); obtain ⟨q0, q1, q2⟩ := cells3 hD.hb))
   refine start_ (n := 4) (S := fun w' => w'.heap[g5]? = some (.cells #[.slice AT T.length cT, .slice AL L.length cL, .slice AC C.length cC] 29 (0, 0)) ∧ w'.heap[g6]? = some (.cells #[.int .i64 t0, .int .i64 t1, .int .i64 t2] 50 (0, 0))) (ds := []) #[O,O,O,O] (by kernel_rfl) rfl rfl ⟨blk_drew hD.hb, blk_drew hT⟩ (fun hS_ => ?_)
   clear hS_
   replace hD := hD.below (below_drew1 (Below.refl _ _))
   replace h3 := blk_drew h3
   replace hT := blk_drew hT
   generalize World.drew _ = Wd at hD h3 hT ⊢
   refine take_ (i := 0) (N := some 31) (v := ?_) (a' := ?_) #[I,O,O,O] rfl rfl (by kernel_rfl) (fun _ _ _ h => h) (Or.inl ⟨by rfl, ?_⟩) ⟨hD.hb, hT⟩ ?_ ?_
   rotate_left
   ·rintro w' ⟨hS', hS6'⟩
    obtain ⟨s0, s1, s2⟩ := cells3 hS'
    obtain ⟨s3, s4, s5⟩ := cells3 hS6'
    go_simp
    with_reducible rfl
   rotate_left
   ·simp only [Act.put, sq1, sq2, sq3, i64_w]
    rfl
   refine take_ (i := 1) (N := some 32) (v := ?_) (a' := ?_) #[I,I,O,O] rfl rfl (by kernel_rfl) (fun _ _ _ h => h) (Or.inl ⟨by rfl, ?_⟩) ⟨hD.hb, hT⟩ ?_ ?_
   rotate_left
   ·rintro w' ⟨hS', hS6'⟩
    obtain ⟨s0, s1, s2⟩ := cells3 hS'
    obtain ⟨s3, s4, s5⟩ := cells3 hS6'
    go_simp
    with_reducible rfl
   rotate_left
   ·simp only [Act.put, sq1, sq2, sq3, i64_w]
    rfl
   refine one_ (i := 2) (N := none) #[I,I,I,O] rfl rfl (by kernel_rfl) (by decide) (fun K hK => ?_)
   obtain ⟨r0, r1, r2⟩ := cells3 hD.a.hr
   have z0 := blk_frozen hD.a.hr 0
   have z1 := blk_frozen hD.a.hr 1
   have z2 := blk_frozen hD.a.hr 2
   refine skip_ (w1 := ?_) (by rfl) rfl ?_ ?_
   rotate_left
   ·go_simp
    rfl
   obtain ⟨hR, hbk, hcur, hbel, hkep⟩ := hD.fin
   have hb5 := far3 hD.hb (Ne.symm hD.ne) (.slice AT T.length cT) (.slice AL L.length cL) (.slice AC C.length cC)
   have ge2 := hD.a.ge
   replace hT := far3 hT n62 (.slice AT T.length cT) (.slice AL L.length cL) (.slice AC C.length cC)
   replace h3 := far3 h3 n32 (.slice AT T.length cT) (.slice AL L.length cL) (.slice AC C.length cC)
   generalize (((Wd.setCell ⟨g2, 0, none⟩ (.slice AT T.length cT)).setCell ⟨g2, 1, none⟩ (.slice AL L.length cL)).setCell ⟨g2, 2, none⟩ (.slice AC C.length cC)) = We at hR hbk hbel hb5 hT h3 ⊢
   refine hK.out _ _ ⟨hb5, hT⟩ (fun _ => ?_)
   clear hK K r0 r1 r2 z0 z1 z2 hD hcur hkep
   refine one_ (i := 3) (N := none) #[I,I,I,I] rfl rfl (by kernel_rfl) (by decide) (fun K hK => ?_)
   obtain ⟨r0, r1, r2⟩ := cells3 h3
   have z0 := blk_frozen h3 0
   have z1 := blk_frozen h3 1
   have z2 := blk_frozen h3 2
   refine skip_ (w1 := ?_) (by rfl) rfl ?_ ?_
   rotate_left
   ·go_simp
    rfl
   have hb5 := far3 hb5 n53 (.int .i64 t0) (.int .i64 t1) (.int .i64 t2)
   have hT := far3 hT n63 (.int .i64 t0) (.int .i64 t1) (.int .i64 t2)
   have hR := far3 hR n23 (.int .i64 t0) (.int .i64 t1) (.int .i64 t2)
   have h3 := put3 h3 (.int .i64 t0) (.int .i64 t1) (.int .i64 t2)
   refine hK.out _ _ ⟨hb5, hT⟩ (fun _ => ?_)
   clear hK K
   refine done_ (by kernel_rfl) ?_
   go_wp2
   refine bodyPost_ret (results_cc rfl _ _ g2 g3 29 50 #[.slice AT T.length cT, .slice AL L.length cL, .slice AC C.length cC] #[.int .i64 t0, .int .i64 t1, .int .i64 t2] (0, 0) (0, 0) _ _ rfl hR Try.underlying29 rfl (by kernel_rfl) rfl h3 Try.underlying50 rfl (by kernel_rfl)) rfl ?_
   exact ⟨_, _, _, T, L, C, _, _, _, rfl, (((hbk.far (p := ⟨g3, 0, none⟩) hk3 _).far (p := ⟨g3, 1, none⟩) hk3 _).far (p := ⟨g3, 2, none⟩) hk3 _), hSz.out, ((hbel.setCell (p := ⟨g3, 0, none⟩) ge3 _).setCell (p := ⟨g3, 1, none⟩) ge3 _).setCell (p := ⟨g3, 2, none⟩) ge3 _⟩
  ·obtain ⟨Y, hY⟩ : ∃ Y : List Int, Y = [-1, (L.length : Int)] := ⟨_, rfl⟩
   obtain ⟨v5, i5, s5, B6, y9, y10⟩ := F.pick l1 i4 s4 hb y7 y8 Y (by rw [hY]; simp)
   replace hY := mk0 hY
   replace B6 := mk0 B6
   go_upto_region 8 with (first
    | (go_at_call 57; (with_reducible refine (spec_l1Once.calls g l1 i3 s3 20 true i4 s4 w _ hD.a.cur hD.a.bel B5.out).mono ?_); rintro e wa ⟨rfl, hi, hb_, hk⟩; replace h3 := hk.blk h3 (Ne.symm ng3) (by simp); replace hT := hk.blk hT (Ne.symm n6) (by simp); replace hD := hD.cursor hi hb_ hk; clear hi hb_ hk; (try clear q0 q1 q2); obtain ⟨q0, q1, q2⟩ := cells3 hD.hb)
    | ((with_reducible refine gate_dst (N := 28) rfl ?_); (try (refine gate_guard (by rfl) ?_; dsimp only)); refine Kd.R_lit (Kd.int .i64) _ 3 ?hg (N := 28) ?hd (xs := ([(-1), (L.length : Int)] : List Int)) (inner := [.int .i64 (-1), .int .i64 (L.length : Int)]) (ok := fun _ => True) (okp := fun _ => True) ?hr ?hp (fun _ hk => hk) trivial (Below.refl _ _) (Nat.le_refl _) (by simp) ?_; (case hd | hg => rfl); (case hr => first | (go_simp; done) | (go_simp; rfl)); (case hp => exact (Reps.one (show Kd.M (Kd.int .i64) _ _ _ (-1) [.int .i64 (-1)] from rfl) (Reps.one (show Kd.M (Kd.int .i64) _ _ _ (L.length : Int) [.int .i64 (L.length : Int)] from rfl) (Reps.none _ _)))); intro vY wy oY kf hg_ hnew_; clear hg_ hnew_; (first | rw [← hY.out] at oY | (simp only [Int.reduceToNat] at oY; rw [← hY.out] at oY)); replace hD := hD.below kf; replace h3 := blk_below h3 kf; replace hT := blk_below hT kf; clear kf q0 q1 q2; obtain ⟨q0, q1, q2⟩ := cells3 hD.hb; obtain ⟨AY, cY, eY⟩ := Kd.R_slice oY; subst eY)
    | (go_at_call 59; (with_reducible refine (spec_l1PickInt.calls g l1 i4 s4 _ _ Y v5 i5 s5 w _ hD.a.cur hD.a.bel (Kd.R_reads' oY).2.2 (Kd.R_reads' oY).2.1 (blk_of (hD.a.cur.own_ne oY (by decide))) B6.out).mono ?_); rintro e wp ⟨rfl, hi, hb_, hk⟩; replace h3 := hk.blk h3 (Ne.symm ng3) (by simp); replace hT := hk.blk hT (Ne.symm n6) (by simp); replace hD := hD.cursor hi hb_ hk; clear hi hb_ hk oY q0 q1 q2; obtain ⟨q0, q1, q2⟩ := cells3 hD.hb; obtain ⟨p0, p1, p2⟩ := cells3 hT; have z0 := blk_frozen hT 0))
   replace hD := hD.far (p := ⟨g6, 0, none⟩) hge6 n6 n26 n56 hl6 (.int .i64 v5)
   replace h3 := blk_far h3 n36 (p := ⟨g6, 0, none⟩) (.int .i64 v5)
   replace hT := blk_put hT 0 (.int .i64 v5) (cs' := #[.int .i64 v5, .int .i64 t1, .int .i64 t2]) rfl
   generalize (wp.setCell ⟨g6, 0, none⟩ (.int .i64 v5)) = W5 at hD h3 hT ⊢
   clear q0 q1 q2 p0 p1 p2 z0
   go_wp2
   refine start_ (n := 4) (S := fun w' => w'.heap[g5]? = some (.cells #[.slice AT T.length cT, .slice AL L.length cL, .slice AC C.length cC] 29 (0, 0)) ∧ w'.heap[g6]? = some (.cells #[.int .i64 v5, .int .i64 t1, .int .i64 t2] 50 (0, 0))) (ds := []) #[O,O,O,O] (by kernel_rfl) rfl rfl ⟨blk_drew hD.hb, blk_drew hT⟩ (fun hS_ => ?_)
   clear hS_
   replace hD := hD.below (below_drew1 (Below.refl _ _))
   replace h3 := blk_drew h3
   replace hT := blk_drew hT
   generalize World.drew _ = Wd at hD h3 hT ⊢
   refine take_ (i := 0) (N := some 31) (v := ?_) (a' := ?_) #[I,O,O,O] rfl rfl (by kernel_rfl) (fun _ _ _ h => h) (Or.inl ⟨by rfl, ?_⟩) ⟨hD.hb, hT⟩ ?_ ?_
   rotate_left
   ·rintro w' ⟨hS', hS6'⟩
    obtain ⟨s0, s1, s2⟩ := cells3 hS'
    obtain ⟨s3, s4, s5⟩ := cells3 hS6'
    go_simp
    with_reducible rfl
   rotate_left
   ·simp only [Act.put, sq1, sq2, sq3, i64_w]
    rfl
   refine take_ (i := 1) (N := some 32) (v := ?_) (a' := ?_) #[I,I,O,O] rfl rfl (by kernel_rfl) (fun _ _ _ h => h) (Or.inl ⟨by rfl, ?_⟩) ⟨hD.hb, hT⟩ ?_ ?_
   rotate_left
   ·rintro w' ⟨hS', hS6'⟩
    obtain ⟨s0, s1, s2⟩ := cells3 hS'
    obtain ⟨s3, s4, s5⟩ := cells3 hS6'
    go_simp
    with_reducible rfl
   rotate_left
   ·simp only [Act.put, sq1, sq2, sq3, i64_w]
    rfl
   refine one_ (i := 2) (N := none) #[I,I,I,O] rfl rfl (by kernel_rfl) (by decide) (fun K hK => ?_)
   obtain ⟨r0, r1, r2⟩ := cells3 hD.a.hr
   have z0 := blk_frozen hD.a.hr 0
   have z1 := blk_frozen hD.a.hr 1
   have z2 := blk_frozen hD.a.hr 2
   refine skip_ (w1 := ?_) (by rfl) rfl ?_ ?_
   rotate_left
   ·go_simp
    rfl
   obtain ⟨hR, hbk, hcur, hbel, hkep⟩ := hD.fin
   have hb5 := far3 hD.hb (Ne.symm hD.ne) (.slice AT T.length cT) (.slice AL L.length cL) (.slice AC C.length cC)
   have ge2 := hD.a.ge
   replace hT := far3 hT n62 (.slice AT T.length cT) (.slice AL L.length cL) (.slice AC C.length cC)
   replace h3 := far3 h3 n32 (.slice AT T.length cT) (.slice AL L.length cL) (.slice AC C.length cC)
   generalize (((Wd.setCell ⟨g2, 0, none⟩ (.slice AT T.length cT)).setCell ⟨g2, 1, none⟩ (.slice AL L.length cL)).setCell ⟨g2, 2, none⟩ (.slice AC C.length cC)) = We at hR hbk hbel hb5 hT h3 ⊢
   refine hK.out _ _ ⟨hb5, hT⟩ (fun _ => ?_)
   clear hK K r0 r1 r2 z0 z1 z2 hD hcur hkep
   refine one_ (i := 3) (N := none) #[I,I,I,I] rfl rfl (by kernel_rfl) (by decide) (fun K hK => ?_)
   obtain ⟨r0, r1, r2⟩ := cells3 h3
   have z0 := blk_frozen h3 0
   have z1 := blk_frozen h3 1
   have z2 := blk_frozen h3 2
   refine skip_ (w1 := ?_) (by rfl) rfl ?_ ?_
   rotate_left
   ·go_simp
    rfl
   have hb5 := far3 hb5 n53 (.int .i64 v5) (.int .i64 t1) (.int .i64 t2)
   have hT := far3 hT n63 (.int .i64 v5) (.int .i64 t1) (.int .i64 t2)
   have hR := far3 hR n23 (.int .i64 v5) (.int .i64 t1) (.int .i64 t2)
   have h3 := put3 h3 (.int .i64 v5) (.int .i64 t1) (.int .i64 t2)
   refine hK.out _ _ ⟨hb5, hT⟩ (fun _ => ?_)
   clear hK K
   refine done_ (by kernel_rfl) ?_
   go_wp2
   refine bodyPost_ret (results_cc rfl _ _ g2 g3 29 50 #[.slice AT T.length cT, .slice AL L.length cL, .slice AC C.length cC] #[.int .i64 v5, .int .i64 t1, .int .i64 t2] (0, 0) (0, 0) _ _ rfl hR Try.underlying29 rfl (by kernel_rfl) rfl h3 Try.underlying50 rfl (by kernel_rfl)) rfl ?_
   exact ⟨_, _, _, T, L, C, _, _, _, rfl, (((hbk.far (p := ⟨g3, 0, none⟩) hk3 _).far (p := ⟨g3, 1, none⟩) hk3 _).far (p := ⟨g3, 2, none⟩) hk3 _), hSz.out, ((hbel.setCell (p := ⟨g3, 0, none⟩) ge3 _).setCell (p := ⟨g3, 1, none⟩) ge3 _).setCell (p := ⟨g3, 2, none⟩) ge3 _⟩
end Go.Proofs.Ytngnkfpciloamaa.MFnBooked
