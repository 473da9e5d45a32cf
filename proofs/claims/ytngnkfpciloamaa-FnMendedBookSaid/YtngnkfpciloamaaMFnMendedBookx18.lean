/- The law FnMendedBook: whatever book is drawn, the code comes to 'true', if the plain functions answer as they do. -/
import Derived.Test.YtngnkfpciloamaaMFnMendedBookx4
import Derived.Test.YtngnkfpciloamaaMFnMendedBookx6
import Derived.Test.YtngnkfpciloamaaMFnMendedBookx9
import Derived.Test.YtngnkfpciloamaaMFnMendedBookx10
import Derived.Test.YtngnkfpciloamaaMFnMendedBookx16
import Derived.Test.YtngnkfpciloamaaMFnMendedBookx17
namespace Go.Proofs.Ytngnkfpciloamaa.MFnMendedBook
open Go Go.RowKit Go.Proofs.YtngnkfpciloamaaW.PrintWords Go.Proofs.YtngnkfpciloamaaW.PrintLast Go.Proofs.YtngnkfpciloamaaW.PrintMore
attribute [local go_sem] max2_int min2_int max_two min_two max_three min_three max_four min_four
set_option linter.unusedVariables false
set_option linter.unusedSimpArgs false
theorem R_any {α : Type} {kd : Kd α} {e base : Nat} {ok : Nat → Prop} {W : World} {v : Value} {xs : List α} (h : Kd.R kd e W base ok v xs) : Kd.R kd e W 0 (fun _ => True) v xs := Kd.R_lower (Kd.R_mono h (fun _ _ => trivial)) (Nat.zero_le _)
theorem R_set3 {α : Type} {kd : Kd α} {e base g : Nat} {ok : Nat → Prop} {W : World} {v : Value} {xs : List α} {a b c : Value} (h : Kd.R kd e W base ok v xs) (hb : W.heap[g]? = some (.cells #[a, b, c] 29 (0, 0))) (ht : ∀ q, q ∈ e :: kd.E → q ≠ 29) (x y z : Value) : Kd.R kd e (((W.setCell ⟨g, 0, none⟩ x).setCell ⟨g, 1, none⟩ y).setCell ⟨g, 2, none⟩ z) base ok v xs := by
 have P1 := blk_put hb 0 x (cs' := #[x, b, c]) rfl
 have P2 := blk_put P1 1 y (cs' := #[x, y, c]) rfl
 exact R_set (R_set (R_set h hb ht 0 x) P1 ht 1 y) P2 ht 2 z
/-- A book that is only read. -/
structure B3 (W : World) (vT vL vC : Value) (T : List S50) (L C : List Int) : Prop where
 oT : Kd.R k50 50 W 0 (fun _ => True) vT T
 oL : Kd.R (Kd.int .i64) 3 W 0 (fun _ => True) vL L
 oC : Kd.R (Kd.int .i64) 3 W 0 (fun _ => True) vC C
theorem B3.of {W : World} {vT vL vC : Value} {T : List S50} {L C : List Int} {b1 b2 b3 : Nat} {k1 k2 k3 : Nat → Prop} (hT : Kd.R k50 50 W b1 k1 vT T) (hL : Kd.R (Kd.int .i64) 3 W b2 k2 vL L) (hC : Kd.R (Kd.int .i64) 3 W b3 k3 vC C) : B3 W vT vL vC T L C := ⟨R_any hT, R_any hL, R_any hC⟩
theorem B3.below {W W' : World} {vT vL vC : Value} {T : List S50} {L C : List Int} (h : B3 W vT vL vC T L C) (hB : Below W.heap.size W W') : B3 W' vT vL vC T L C := ⟨Kd.R_below h.oT hB, Kd.R_below h.oL hB, Kd.R_below h.oC hB⟩
theorem B3.set3 {W : World} {g : Nat} {vT vL vC a b c : Value} {T : List S50} {L C : List Int} (h : B3 W vT vL vC T L C) (hb : W.heap[g]? = some (.cells #[a, b, c] 29 (0, 0))) (x y z : Value) : B3 (((W.setCell ⟨g, 0, none⟩ x).setCell ⟨g, 1, none⟩ y).setCell ⟨g, 2, none⟩ z) vT vL vC T L C :=
 ⟨R_set3 h.oT hb (by decide) x y z, R_set3 h.oL hb (by decide) x y z, R_set3 h.oC hb (by decide) x y z⟩
theorem bel_set3 {w W : World} {g : Nat} (h : Below w.heap.size w W) (hg : w.heap.size ≤ g) (x y z : Value) : Below w.heap.size w (((W.setCell ⟨g, 0, none⟩ x).setCell ⟨g, 1, none⟩ y).setCell ⟨g, 2, none⟩ z) :=
 ((h.setCell (p := ⟨g, 0, none⟩) hg x).setCell (p := ⟨g, 1, none⟩) hg y).setCell (p := ⟨g, 2, none⟩) hg z
/-- What the plain functions answer at a book that is in order. -/
structure Mg (T : List S50) (L C : List Int) (T1 : List S50) (L1 C1 G : List Int) (Fs : List S69) : Prop where
 f3 : ∃ k Z, impl_Faults.f k T1 L1 C1 = some Z ∧ Z.length = 0
 f4 : ∃ k Z, spec_Faults.f k T1 L1 C1 = some Z ∧ Z.length = 0
 n1 : T1.length + G.length = T.length
 n2 : L1.length = L.length
 f5 : Fs.length = 0 → G.length = 0
 m4 : ∃ k T3 L3 C3 G3, impl_MendBook.f k T1 L1 C1 = some (T3, L3, C3, G3) ∧ G3.length = 0 ∧ (∃ k, laws_sameInts.f k L3 L1 = some true) ∧ (∃ k, laws_sameInts.f k C3 C1 = some true)
 r2 : ∃ k T4 L4 C4, impl_Restart.f k T L C 2 = some (T4, L4, C4, true) ∧ (∃ k, laws_sameInts.f k L4 L1 = some true)
 r3 : ∃ k T5 L5 C5, impl_Restart.f k T L C 3 = some (T5, L5, C5, true) ∧ T5.length = 0 ∧ L5.length = L.length
/-- What the plain functions answer at a book. -/
structure Mf (T : List S50) (L C : List Int) : Prop where
 all : ∃ T1 L1 C1 G Fs ok, (∃ k, impl_MendBook.f k T L C = some (T1, L1, C1, G)) ∧ (∃ k T2 L2 C2 G2, spec_MendBook.f k T L C = some (T2, L2, C2, G2) ∧ ∃ k, laws_sameInts.f k G G2 = some true) ∧ (∃ k, impl_Faults.f k T L C = some Fs) ∧ (∃ k Fs2, spec_Faults.f k T L C = some Fs2 ∧ Fs2.length = Fs.length) ∧ (∃ k, spec_BookOk.f k T L C = some ok) ∧
  (ok = false → T1.length = 0 ∧ Fs.length = 1) ∧ (ok = true → Mg T L C T1 L1 C1 G Fs)
/-- And at the book of one line. -/
def Ms : Prop := ∃ k Ts Ls Cs Gs, impl_MendBook.f k ([] : List S50) [5] ([] : List Int) = some (Ts, Ls, Cs, Gs) ∧ Gs.length = 0 ∧ ∃ k, laws_sameInts.f k Ls [-1] = some true
set_option maxHeartbeats 2000000 in
set_option maxRecDepth 100000 in
theorem laws_FnMendedBook.yes (F : Facts) (HM : ∀ T L C, T.length ≤ 31 → L.length ≤ 30 → C.length ≤ 31 → Mf T L C) (HS : Ms) (kn : Nat) (ha : Int) (A0 : Option Addr) (c0 : Nat) (l0 : List Int) (w : World) (hr0 : Kd.C (Kd.int .u8) w A0 l0.length l0) (hc0 : l0.length ≤ c0) (hN : spec_l1New.f kn l0 = some (l0, 0, ha)) :
  Calls Try.prog 5 #[.slice A0 l0.length c0] w fun e w' => e = .returned (.bool true) ∧ Below w.heap.size w w' := by
 have hu29 := Try.underlying29
 have hu50 := Try.underlying50
 have hN := Aside0.mk hN
 have hbel : Below w.heap.size w w := Below.refl _ _
 go_enter Try.func5, Try.ntmps5
 by_cases hbig : (l0.length : Int) > 1048576
 ·have cb : decide ((l0.length : Int) > 1048576) = true := decide_eq_true hbig
  go_wp2_with (first
   | (go_at_call 24; (with_reducible refine (laws_big.calls _ _ l0 true _ hr0 hc0 (by unfold laws_big.f; rw [cb])).mono ?_); rintro e wa ⟨rfl, hz⟩; have kf := below_drawn hz; clear hz))
  go_ret
  exact ⟨rfl, kf⟩
 have cb : decide ((l0.length : Int) > 1048576) = false := decide_eq_false hbig
 have hlen : l0.length ≤ 1048576 := by omega
 clear hbig
 go_upto_region 4 with (first
  | (go_at_call 24; (with_reducible refine (laws_big.calls _ _ l0 false _ hr0 hc0 (by unfold laws_big.f; rw [cb])).mono ?_); rintro e wa ⟨rfl, hz⟩; have kf := below_drawn hz; clear hz; replace hbel := below_step hbel kf; clear kf)
  | (go_at_call 25; (with_reducible refine (spec_DrawMendBook.drawn F kn ha _ _ l0 _ (Kd.C_below hr0 hbel) hc0 hlen hN.out).mono ?_); rintro e wa ⟨u0, u1, u2, T, L, C, rfl, hk0, hS, kf⟩; replace hbel := below_step hbel kf; clear kf; have hB := B3.of hk0.oT hk0.oL hk0.oC; clear hk0; obtain ⟨AbT, cbT, ebT⟩ := Kd.R_slice hB.oT; subst ebT; obtain ⟨AbL, cbL, ebL⟩ := Kd.R_slice hB.oL; subst ebL; obtain ⟨AbC, cbC, ebC⟩ := Kd.R_slice hB.oC; subst ebC)
  | ((with_reducible refine gate_dst (N := 3) rfl ?_); (try (refine gate_guard (by rfl) ?_; dsimp only)); refine box_event ?hg (N := 3) ?hd (cs := #[.slice none 0 0, .slice none 0 0, .slice none 0 0]) (t := 29) ?hr ?_; (case hd => rfl); (case hg => rfl); (case hr => first | (go_simp; done) | (go_simp; rfl)); intro g3 hg wb hbox kf; have ge3 : w.heap.size ≤ g3 := by { rw [hg]; exact below_size hbel }; replace hbel := below_step hbel kf; replace hB := hB.below kf; clear hg kf; obtain ⟨b0, b1, b2⟩ := cells3 hbox; have z0 := blk_frozen hbox 0; have z1 := blk_frozen hbox 1; have z2 := blk_frozen hbox 2))
 have k3 := put3 hbox (.slice AbT T.length cbT) (.slice AbL L.length cbL) (.slice AbC C.length cbC)
 replace hbel := bel_set3 hbel ge3 (.slice AbT T.length cbT) (.slice AbL L.length cbL) (.slice AbC C.length cbC)
 replace hB := hB.set3 hbox (.slice AbT T.length cbT) (.slice AbL L.length cbL) (.slice AbC C.length cbC)
 generalize (((wb.setCell ⟨g3, 0, none⟩ (.slice AbT T.length cbT)).setCell ⟨g3, 1, none⟩ (.slice AbL L.length cbL)).setCell ⟨g3, 2, none⟩ (.slice AbC C.length cbC)) = W1 at k3 hbel hB ⊢
 clear hbox b0 b1 b2 z0 z1 z2 
 obtain ⟨q30, q31, q32⟩ := cells3 k3
 obtain ⟨T1, L1, C1, G, Fs, ok, ⟨km1, m1⟩, ⟨km2, T2, L2, C2, G2, m2, ks1, s1⟩, ⟨kf1, f1⟩, ⟨kf2, Fs2, f2, lf⟩, ⟨kb, bo⟩, hno, hyes⟩ := (HM T L C hS.1 hS.2.1 hS.2.2).all
 have m1 := Aside0.mk m1
 have m2 := Aside0.mk m2
 have f1 := Aside0.mk f1
 have f2 := Aside0.mk f2
 have s1 := Aside0.mk s1
 have bo := Aside0.mk bo
 have hSt := hS.1
 clear HM hS
 go_upto_region 5 with (first
  | (go_at_call 12; (with_reducible refine (impl_MendBook.calls km1 _ _ T _ _ L _ _ C T1 L1 C1 G _ (Kd.R_reads' hB.oT).2.2 (Kd.R_reads' hB.oT).2.1 (Kd.R_reads' hB.oL).2.2 (Kd.R_reads' hB.oL).2.1 (Kd.R_reads' hB.oC).2.2 (Kd.R_reads' hB.oC).2.1 m1.out).mono ?_); rintro e wa ⟨u0, u1, u2, u3, rfl, o0, o1, o2, o3, kf⟩; replace hbel := below_step hbel kf; replace hB := hB.below kf; replace k3 := blk_below k3 kf; clear kf; clear q30 q31 q32; have hM := B3.of o0 o1 o2; have oG := R_any o3; clear o0 o1 o2 o3; obtain ⟨AmT, cmT, emT⟩ := Kd.R_slice hM.oT; subst emT; obtain ⟨AmL, cmL, emL⟩ := Kd.R_slice hM.oL; subst emL; obtain ⟨AmC, cmC, emC⟩ := Kd.R_slice hM.oC; subst emC; obtain ⟨AG, cG, eG⟩ := Kd.R_slice oG; subst eG; obtain ⟨q30, q31, q32⟩ := cells3 k3)
  | ((with_reducible refine gate_dst (N := 4) rfl ?_); (try (refine gate_guard (by rfl) ?_; dsimp only)); refine box_event ?hg (N := 4) ?hd (cs := #[.slice none 0 0, .slice none 0 0, .slice none 0 0]) (t := 29) ?hr ?_; (case hd => rfl); (case hg => rfl); (case hr => first | (go_simp; done) | (go_simp; rfl)); intro g4 hg wb hbox kf; have ge4 : w.heap.size ≤ g4 := by { rw [hg]; exact below_size hbel }; have n3_4 : g3 ≠ g4 := by { rw [hg]; exact Nat.ne_of_lt (blk_lt k3) }; replace hbel := below_step hbel kf; replace hB := hB.below kf; replace k3 := blk_below k3 kf; replace hM := hM.below kf; replace oG := Kd.R_below oG kf; clear hg kf; obtain ⟨b0, b1, b2⟩ := cells3 hbox; have z0 := blk_frozen hbox 0; have z1 := blk_frozen hbox 1; have z2 := blk_frozen hbox 2))
 have k4 := put3 hbox (.slice AmT T1.length cmT) (.slice AmL L1.length cmL) (.slice AmC C1.length cmC)
 replace hbel := bel_set3 hbel ge4 (.slice AmT T1.length cmT) (.slice AmL L1.length cmL) (.slice AmC C1.length cmC)
 replace hB := hB.set3 hbox (.slice AmT T1.length cmT) (.slice AmL L1.length cmL) (.slice AmC C1.length cmC)
 replace k3 := far3 k3 n3_4 (.slice AmT T1.length cmT) (.slice AmL L1.length cmL) (.slice AmC C1.length cmC)
 replace hM := hM.set3 hbox (.slice AmT T1.length cmT) (.slice AmL L1.length cmL) (.slice AmC C1.length cmC)
 replace oG := R_set3 oG hbox (by decide) (.slice AmT T1.length cmT) (.slice AmL L1.length cmL) (.slice AmC C1.length cmC)
 generalize (((wb.setCell ⟨g4, 0, none⟩ (.slice AmT T1.length cmT)).setCell ⟨g4, 1, none⟩ (.slice AmL L1.length cmL)).setCell ⟨g4, 2, none⟩ (.slice AmC C1.length cmC)) = W2 at k4 hbel hB k3 hM oG ⊢
 clear hbox b0 b1 b2 z0 z1 z2 q30 q31 q32
 obtain ⟨q30, q31, q32⟩ := cells3 k3
 obtain ⟨q40, q41, q42⟩ := cells3 k4
 go_upto_region 6 with (first
  | (go_at_call 10; (with_reducible refine (spec_MendBook.calls km2 _ _ T _ _ L _ _ C T2 L2 C2 G2 _ (Kd.R_reads' hB.oT).2.2 (Kd.R_reads' hB.oT).2.1 (Kd.R_reads' hB.oL).2.2 (Kd.R_reads' hB.oL).2.1 (Kd.R_reads' hB.oC).2.2 (Kd.R_reads' hB.oC).2.1 m2.out).mono ?_); rintro e wa ⟨u0, u1, u2, u3, rfl, o0, o1, o2, o3, kf⟩; replace hbel := below_step hbel kf; replace hB := hB.below kf; replace k3 := blk_below k3 kf; replace hM := hM.below kf; replace oG := Kd.R_below oG kf; replace k4 := blk_below k4 kf; clear kf; clear q30 q31 q32 q40 q41 q42; have hQ := B3.of o0 o1 o2; have oH := R_any o3; clear o0 o1 o2 o3; obtain ⟨AqT, cqT, eqT⟩ := Kd.R_slice hQ.oT; subst eqT; obtain ⟨AqL, cqL, eqL⟩ := Kd.R_slice hQ.oL; subst eqL; obtain ⟨AqC, cqC, eqC⟩ := Kd.R_slice hQ.oC; subst eqC; obtain ⟨AH, cH, eH⟩ := Kd.R_slice oH; subst eH; obtain ⟨q30, q31, q32⟩ := cells3 k3; obtain ⟨q40, q41, q42⟩ := cells3 k4)
  | ((with_reducible refine gate_dst (N := 6) rfl ?_); (try (refine gate_guard (by rfl) ?_; dsimp only)); refine box_event ?hg (N := 6) ?hd (cs := #[.slice none 0 0, .slice none 0 0, .slice none 0 0]) (t := 29) ?hr ?_; (case hd => rfl); (case hg => rfl); (case hr => first | (go_simp; done) | (go_simp; rfl)); intro g6 hg wb hbox kf; have ge6 : w.heap.size ≤ g6 := by { rw [hg]; exact below_size hbel }; have n3_6 : g3 ≠ g6 := by { rw [hg]; exact Nat.ne_of_lt (blk_lt k3) }; have n4_6 : g4 ≠ g6 := by { rw [hg]; exact Nat.ne_of_lt (blk_lt k4) }; replace hbel := below_step hbel kf; replace hB := hB.below kf; replace k3 := blk_below k3 kf; replace hM := hM.below kf; replace oG := Kd.R_below oG kf; replace k4 := blk_below k4 kf; replace oH := Kd.R_below oH kf; clear hg kf; obtain ⟨b0, b1, b2⟩ := cells3 hbox; have z0 := blk_frozen hbox 0; have z1 := blk_frozen hbox 1; have z2 := blk_frozen hbox 2))
 have k6 := put3 hbox (.slice AqT T2.length cqT) (.slice AqL L2.length cqL) (.slice AqC C2.length cqC)
 replace hbel := bel_set3 hbel ge6 (.slice AqT T2.length cqT) (.slice AqL L2.length cqL) (.slice AqC C2.length cqC)
 replace hB := hB.set3 hbox (.slice AqT T2.length cqT) (.slice AqL L2.length cqL) (.slice AqC C2.length cqC)
 replace k3 := far3 k3 n3_6 (.slice AqT T2.length cqT) (.slice AqL L2.length cqL) (.slice AqC C2.length cqC)
 replace hM := hM.set3 hbox (.slice AqT T2.length cqT) (.slice AqL L2.length cqL) (.slice AqC C2.length cqC)
 replace oG := R_set3 oG hbox (by decide) (.slice AqT T2.length cqT) (.slice AqL L2.length cqL) (.slice AqC C2.length cqC)
 replace k4 := far3 k4 n4_6 (.slice AqT T2.length cqT) (.slice AqL L2.length cqL) (.slice AqC C2.length cqC)
 replace oH := R_set3 oH hbox (by decide) (.slice AqT T2.length cqT) (.slice AqL L2.length cqL) (.slice AqC C2.length cqC)
 generalize (((wb.setCell ⟨g6, 0, none⟩ (.slice AqT T2.length cqT)).setCell ⟨g6, 1, none⟩ (.slice AqL L2.length cqL)).setCell ⟨g6, 2, none⟩ (.slice AqC C2.length cqC)) = W3 at k6 hbel hB k3 hM oG k4 oH ⊢
 clear hbox b0 b1 b2 z0 z1 z2 q30 q31 q32 q40 q41 q42
 obtain ⟨q30, q31, q32⟩ := cells3 k3
 obtain ⟨q40, q41, q42⟩ := cells3 k4
 obtain ⟨q60, q61, q62⟩ := cells3 k6
 clear k6 q60 q61 q62 hQ m2
 have cF : ((Fs.length : Int) != (Fs2.length : Int)) = false := bne_eq_false_iff_eq.mpr (by omega)
 go_upto_region 7 with (first
  | (go_at_call 20; (with_reducible refine (impl_Faults.calls kf1 _ _ T _ _ L _ _ C Fs _ (Kd.R_reads' hB.oT).2.2 (Kd.R_reads' hB.oT).2.1 (Kd.R_reads' hB.oL).2.2 (Kd.R_reads' hB.oL).2.1 (Kd.R_reads' hB.oC).2.2 (Kd.R_reads' hB.oC).2.1 f1.out).mono ?_); rintro e wa ⟨u0, rfl, o0, kf⟩; replace hbel := below_step hbel kf; replace hB := hB.below kf; replace k3 := blk_below k3 kf; replace hM := hM.below kf; replace oG := Kd.R_below oG kf; replace k4 := blk_below k4 kf; replace oH := Kd.R_below oH kf; clear kf; clear q30 q31 q32 q40 q41 q42; have oF := R_any o0; clear o0; obtain ⟨AF, cF_, eF⟩ := Kd.R_slice oF; subst eF; obtain ⟨q30, q31, q32⟩ := cells3 k3; obtain ⟨q40, q41, q42⟩ := cells3 k4))
 go_upto_region 9 with (first
  | (go_at_call 26; (with_reducible refine (laws_sameInts.calls ks1 _ _ G _ _ G2 true _ (Kd.R_reads' oG).2.2 (Kd.R_reads' oG).2.1 (Kd.R_reads' oH).2.2 (Kd.R_reads' oH).2.1 s1.out).mono ?_); rintro e wa ⟨rfl, hz⟩; have kf := below_drawn hz; clear hz; replace hbel := below_step hbel kf; replace hB := hB.below kf; replace k3 := blk_below k3 kf; replace hM := hM.below kf; replace oG := Kd.R_below oG kf; replace k4 := blk_below k4 kf; replace oH := Kd.R_below oH kf; replace oF := Kd.R_below oF kf; clear kf; clear q30 q31 q32 q40 q41 q42; obtain ⟨q30, q31, q32⟩ := cells3 k3; obtain ⟨q40, q41, q42⟩ := cells3 k4)
  | (go_at_call 19; (with_reducible refine (spec_Faults.calls kf2 _ _ T _ _ L _ _ C Fs2 _ (Kd.R_reads' hB.oT).2.2 (Kd.R_reads' hB.oT).2.1 (Kd.R_reads' hB.oL).2.2 (Kd.R_reads' hB.oL).2.1 (Kd.R_reads' hB.oC).2.2 (Kd.R_reads' hB.oC).2.1 f2.out).mono ?_); rintro e wa ⟨u0, rfl, o0, kf⟩; replace hbel := below_step hbel kf; replace hB := hB.below kf; replace k3 := blk_below k3 kf; replace hM := hM.below kf; replace oG := Kd.R_below oG kf; replace k4 := blk_below k4 kf; replace oH := Kd.R_below oH kf; replace oF := Kd.R_below oF kf; clear kf; clear q30 q31 q32 q40 q41 q42; obtain ⟨AK, cK, eK⟩ := Kd.R_slice o0; subst eK; clear o0; obtain ⟨q30, q31, q32⟩ := cells3 k3; obtain ⟨q40, q41, q42⟩ := cells3 k4))
 have hlT := Aside0.mk hSt
 have lfA := Aside0.mk lf
 clear oH s1 cF f1 lf hSt
 obtain ⟨ks, Ts, Ls, Cs, Gs, ms, lGs, ks2, ss⟩ := HS
 obtain ⟨Y, hY⟩ : ∃ Y : List Int, Y = [5] := ⟨_, rfl⟩
 obtain ⟨Z, hZ⟩ : ∃ Z : List Int, Z = [-1] := ⟨_, rfl⟩
 rw [← hY] at ms
 rw [← hZ] at ss
 replace hY := Aside0.mk hY
 replace hZ := Aside0.mk hZ
 have cGs : ((Gs.length : Int) != 0) = false := bne_eq_false_iff_eq.mpr (by omega)
 have nT : Kd.C k50 w none ([] : List S50).length [] := ⟨rfl, by decide, fun h => absurd h (by decide)⟩
 go_upto_region 10 with (first
  | ((with_reducible refine gate_dst (N := 46) rfl ?_); (try (refine gate_guard (by rfl) ?_; dsimp only)); refine Kd.R_lit (Kd.int .i64) _ 3 ?hg (N := 46) ?hd (xs := ([5] : List Int)) (inner := [.int .i64 5]) (ok := fun _ => True) (okp := fun _ => True) ?hr ?hp (fun _ hk => hk) trivial (Below.refl _ _) (Nat.le_refl _) (by simp) ?_; (case hd => rfl); (case hg => rfl); (case hr => first | (go_simp; done) | (go_simp; rfl)); (case hp => exact (Reps.one (show Kd.M (Kd.int .i64) _ _ _ 5 [.int .i64 5] from rfl) (Reps.none _ _))); intro vY wy oY0 kf hg_ hnew_; clear hg_ hnew_; (first | rw [← hY.out] at oY0 | (simp only [Int.reduceToNat] at oY0; rw [← hY.out] at oY0)); replace hbel := below_step hbel kf; replace hB := hB.below kf; replace k3 := blk_below k3 kf; replace hM := hM.below kf; replace oG := Kd.R_below oG kf; replace k4 := blk_below k4 kf; replace oF := Kd.R_below oF kf; clear kf; clear q30 q31 q32 q40 q41 q42; have oY := R_any oY0; clear oY0; obtain ⟨AY, cY, eY⟩ := Kd.R_slice oY; subst eY; obtain ⟨q30, q31, q32⟩ := cells3 k3; obtain ⟨q40, q41, q42⟩ := cells3 k4)
  | (go_at_call 12; refine (impl_MendBook.calls ks none 0 ([] : List S50) _ _ Y none 0 ([] : List Int) Ts Ls Cs Gs _ ⟨rfl, by decide, fun h => absurd h (by decide)⟩ (Nat.le_refl _) (Kd.R_reads' oY).2.2 (Kd.R_reads' oY).2.1 ⟨rfl, by decide, fun h => absurd h (by decide)⟩ (Nat.le_refl _) ms).mono ?_; rintro e wa ⟨u0, u1, u2, u3, rfl, o0, o1, o2, o3, kf⟩; replace hbel := below_step hbel kf; replace hB := hB.below kf; replace k3 := blk_below k3 kf; replace hM := hM.below kf; replace oG := Kd.R_below oG kf; replace k4 := blk_below k4 kf; replace oF := Kd.R_below oF kf; clear kf; clear q30 q31 q32 q40 q41 q42 oY; have hQ := B3.of o0 o1 o2; have oS := R_any o3; clear o0 o1 o2 o3; obtain ⟨AsT, csT, esT⟩ := Kd.R_slice hQ.oT; subst esT; obtain ⟨AsL, csL, esL⟩ := Kd.R_slice hQ.oL; subst esL; obtain ⟨AsC, csC, esC⟩ := Kd.R_slice hQ.oC; subst esC; obtain ⟨AS, cS, eS⟩ := Kd.R_slice oS; subst eS; obtain ⟨q30, q31, q32⟩ := cells3 k3; obtain ⟨q40, q41, q42⟩ := cells3 k4)
  | ((with_reducible refine gate_dst (N := 9) rfl ?_); (try (refine gate_guard (by rfl) ?_; dsimp only)); refine box_event ?hg (N := 9) ?hd (cs := #[.slice none 0 0, .slice none 0 0, .slice none 0 0]) (t := 29) ?hr ?_; (case hd => rfl); (case hg => rfl); (case hr => first | (go_simp; done) | (go_simp; rfl)); intro g9 hg wb hbox kf; have ge9 : w.heap.size ≤ g9 := by { rw [hg]; exact below_size hbel }; have n3_9 : g3 ≠ g9 := by { rw [hg]; exact Nat.ne_of_lt (blk_lt k3) }; have n4_9 : g4 ≠ g9 := by { rw [hg]; exact Nat.ne_of_lt (blk_lt k4) }; replace hbel := below_step hbel kf; replace hB := hB.below kf; replace k3 := blk_below k3 kf; replace hM := hM.below kf; replace oG := Kd.R_below oG kf; replace k4 := blk_below k4 kf; replace oF := Kd.R_below oF kf; replace hQ := hQ.below kf; clear hg kf; obtain ⟨b0, b1, b2⟩ := cells3 hbox; have z0 := blk_frozen hbox 0; have z1 := blk_frozen hbox 1; have z2 := blk_frozen hbox 2))
 have k9 := put3 hbox (.slice AsT Ts.length csT) (.slice AsL Ls.length csL) (.slice AsC Cs.length csC)
 replace hbel := bel_set3 hbel ge9 (.slice AsT Ts.length csT) (.slice AsL Ls.length csL) (.slice AsC Cs.length csC)
 replace hB := hB.set3 hbox (.slice AsT Ts.length csT) (.slice AsL Ls.length csL) (.slice AsC Cs.length csC)
 replace k3 := far3 k3 n3_9 (.slice AsT Ts.length csT) (.slice AsL Ls.length csL) (.slice AsC Cs.length csC)
 replace hM := hM.set3 hbox (.slice AsT Ts.length csT) (.slice AsL Ls.length csL) (.slice AsC Cs.length csC)
 replace oG := R_set3 oG hbox (by decide) (.slice AsT Ts.length csT) (.slice AsL Ls.length csL) (.slice AsC Cs.length csC)
 replace k4 := far3 k4 n4_9 (.slice AsT Ts.length csT) (.slice AsL Ls.length csL) (.slice AsC Cs.length csC)
 replace oF := R_set3 oF hbox (by decide) (.slice AsT Ts.length csT) (.slice AsL Ls.length csL) (.slice AsC Cs.length csC)
 replace hQ := hQ.set3 hbox (.slice AsT Ts.length csT) (.slice AsL Ls.length csL) (.slice AsC Cs.length csC)
 generalize (((wb.setCell ⟨g9, 0, none⟩ (.slice AsT Ts.length csT)).setCell ⟨g9, 1, none⟩ (.slice AsL Ls.length csL)).setCell ⟨g9, 2, none⟩ (.slice AsC Cs.length csC)) = W4 at k9 hbel hB k3 hM oG k4 oF hQ ⊢
 clear hbox b0 b1 b2 z0 z1 z2 q30 q31 q32 q40 q41 q42
 obtain ⟨q30, q31, q32⟩ := cells3 k3
 obtain ⟨q40, q41, q42⟩ := cells3 k4
 obtain ⟨q90, q91, q92⟩ := cells3 k9
 go_upto_region 12 with (first
  | ((with_reducible refine gate_dst (N := 57) rfl ?_); (try (refine gate_guard (by rfl) ?_; dsimp only)); refine Kd.R_lit (Kd.int .i64) _ 3 ?hg (N := 57) ?hd (xs := ([(-1)] : List Int)) (inner := [.int .i64 (-1)]) (ok := fun _ => True) (okp := fun _ => True) ?hr ?hp (fun _ hk => hk) trivial (Below.refl _ _) (Nat.le_refl _) (by simp) ?_; (case hd => rfl); (case hg => rfl); (case hr => first | (go_simp; done) | (go_simp; rfl)); (case hp => exact (Reps.one (show Kd.M (Kd.int .i64) _ _ _ (-1) [.int .i64 (-1)] from rfl) (Reps.none _ _))); intro vY wy oY0 kf hg_ hnew_; clear hg_ hnew_; (first | rw [← hZ.out] at oY0 | (simp only [Int.reduceToNat] at oY0; rw [← hZ.out] at oY0)); replace hbel := below_step hbel kf; replace hB := hB.below kf; replace k3 := blk_below k3 kf; replace hM := hM.below kf; replace oG := Kd.R_below oG kf; replace k4 := blk_below k4 kf; replace oF := Kd.R_below oF kf; replace hQ := hQ.below kf; replace k9 := blk_below k9 kf; clear kf; clear q30 q31 q32 q40 q41 q42 q90 q91 q92; have oZ := R_any oY0; clear oY0; obtain ⟨AZ, cZ, eZ⟩ := Kd.R_slice oZ; subst eZ; obtain ⟨q30, q31, q32⟩ := cells3 k3; obtain ⟨q40, q41, q42⟩ := cells3 k4; obtain ⟨q90, q91, q92⟩ := cells3 k9)
  | (go_at_call 26; (with_reducible refine (laws_sameInts.calls ks2 _ _ Ls _ _ Z true _ (Kd.R_reads' hQ.oL).2.2 (Kd.R_reads' hQ.oL).2.1 (Kd.R_reads' oZ).2.2 (Kd.R_reads' oZ).2.1 ss).mono ?_); rintro e wa ⟨rfl, hz⟩; have kf := below_drawn hz; clear hz; replace hbel := below_step hbel kf; replace hB := hB.below kf; replace k3 := blk_below k3 kf; replace hM := hM.below kf; replace oG := Kd.R_below oG kf; replace k4 := blk_below k4 kf; replace oF := Kd.R_below oF kf; replace hQ := hQ.below kf; replace k9 := blk_below k9 kf; clear kf; clear q30 q31 q32 q40 q41 q42 q90 q91 q92; obtain ⟨q30, q31, q32⟩ := cells3 k3; obtain ⟨q40, q41, q42⟩ := cells3 k4; obtain ⟨q90, q91, q92⟩ := cells3 k9))
 clear k9 q90 q91 q92 hQ cGs ss ms
 cases ok
 ·have hq := hno rfl
  have c1 : ((T1.length : Int) == 0) = true := beq_iff_eq.mpr (by omega)
  have c2 : ((Fs.length : Int) == 1) = true := beq_iff_eq.mpr (by omega)
  clear hq hno hyes
  go_wp2_with (first
   | (go_at_call 27; (with_reducible refine (spec_BookOk.calls kb _ _ T _ _ L _ _ C false _ (Kd.R_reads' hB.oT).2.2 (Kd.R_reads' hB.oT).2.1 (Kd.R_reads' hB.oL).2.2 (Kd.R_reads' hB.oL).2.1 (Kd.R_reads' hB.oC).2.2 (Kd.R_reads' hB.oC).2.1 bo.out).mono ?_); rintro e wa ⟨rfl, kf⟩; replace hbel := below_step hbel kf; replace hB := hB.below kf; replace k3 := blk_below k3 kf; replace hM := hM.below kf; replace oG := Kd.R_below oG kf; replace k4 := blk_below k4 kf; replace oF := Kd.R_below oF kf; clear kf; clear q30 q31 q32 q40 q41 q42; obtain ⟨q30, q31, q32⟩ := cells3 k3; obtain ⟨q40, q41, q42⟩ := cells3 k4))
  go_ret
  exact ⟨rfl, hbel⟩
 ·obtain ⟨⟨kf3, Z3, f3, z3⟩, ⟨kf4, Z4, f4, z4⟩, n1, n2, f5, ⟨km4, T3, L3, C3, G3, m4, g3l, ⟨ks3, s3⟩, ⟨ks4, s4⟩⟩, ⟨kr2, T4, L4, C4, r2, ks5, s5⟩, ⟨kr3, T5, L5, C5, r3, t5, l5⟩⟩ := hyes rfl
  have c1 : ((Z3.length : Int) != 0) = false := bne_eq_false_iff_eq.mpr (by omega)
  have c2 : ((Z4.length : Int) != 0) = false := bne_eq_false_iff_eq.mpr (by omega)
  have hw : wrap64 ((T1.length : Int) + (G.length : Int)) = (T1.length : Int) + (G.length : Int) := wrap_small (by omega) (by have := hlT.out; omega)
  have c3 : (wrap64 ((T1.length : Int) + (G.length : Int)) != (T.length : Int)) = false := bne_eq_false_iff_eq.mpr (by rw [hw]; omega)
  have c4 : ((L1.length : Int) != (L.length : Int)) = false := bne_eq_false_iff_eq.mpr (by omega)
  have c5 : ((G3.length : Int) == 0) = true := beq_iff_eq.mpr (by omega)
  have c6 : ((T5.length : Int) == 0) = true := beq_iff_eq.mpr (by omega)
  have c7 : ((L5.length : Int) == (L.length : Int)) = true := beq_iff_eq.mpr (by omega)
  replace f5 := Aside0.mk f5
  replace f3 := Aside0.mk f3
  replace f4 := Aside0.mk f4
  replace m4 := Aside0.mk m4
  replace r2 := Aside0.mk r2
  replace r3 := Aside0.mk r3
  clear z3 z4 n1 n2 g3l t5 l5 hw hno hyes
  go_upto_region 16 with (first
   | (go_at_call 27; (with_reducible refine (spec_BookOk.calls kb _ _ T _ _ L _ _ C true _ (Kd.R_reads' hB.oT).2.2 (Kd.R_reads' hB.oT).2.1 (Kd.R_reads' hB.oL).2.2 (Kd.R_reads' hB.oL).2.1 (Kd.R_reads' hB.oC).2.2 (Kd.R_reads' hB.oC).2.1 bo.out).mono ?_); rintro e wa ⟨rfl, kf⟩; replace hbel := below_step hbel kf; replace hB := hB.below kf; replace k3 := blk_below k3 kf; replace hM := hM.below kf; replace oG := Kd.R_below oG kf; replace k4 := blk_below k4 kf; replace oF := Kd.R_below oF kf; clear kf; clear q30 q31 q32 q40 q41 q42; obtain ⟨q30, q31, q32⟩ := cells3 k3; obtain ⟨q40, q41, q42⟩ := cells3 k4)
   | (go_at_call 20; (with_reducible refine (impl_Faults.calls kf3 _ _ T1 _ _ L1 _ _ C1 Z3 _ (Kd.R_reads' hM.oT).2.2 (Kd.R_reads' hM.oT).2.1 (Kd.R_reads' hM.oL).2.2 (Kd.R_reads' hM.oL).2.1 (Kd.R_reads' hM.oC).2.2 (Kd.R_reads' hM.oC).2.1 f3.out).mono ?_); rintro e wa ⟨u0, rfl, o0, kf⟩; replace hbel := below_step hbel kf; replace hB := hB.below kf; replace k3 := blk_below k3 kf; replace hM := hM.below kf; replace oG := Kd.R_below oG kf; replace k4 := blk_below k4 kf; replace oF := Kd.R_below oF kf; clear kf; clear q30 q31 q32 q40 q41 q42; obtain ⟨AK, cK, eK⟩ := Kd.R_slice o0; subst eK; clear o0; obtain ⟨q30, q31, q32⟩ := cells3 k3; obtain ⟨q40, q41, q42⟩ := cells3 k4)
   | (go_at_call 19; (with_reducible refine (spec_Faults.calls kf4 _ _ T1 _ _ L1 _ _ C1 Z4 _ (Kd.R_reads' hM.oT).2.2 (Kd.R_reads' hM.oT).2.1 (Kd.R_reads' hM.oL).2.2 (Kd.R_reads' hM.oL).2.1 (Kd.R_reads' hM.oC).2.2 (Kd.R_reads' hM.oC).2.1 f4.out).mono ?_); rintro e wa ⟨u0, rfl, o0, kf⟩; replace hbel := below_step hbel kf; replace hB := hB.below kf; replace k3 := blk_below k3 kf; replace hM := hM.below kf; replace oG := Kd.R_below oG kf; replace k4 := blk_below k4 kf; replace oF := Kd.R_below oF kf; clear kf; clear q30 q31 q32 q40 q41 q42; obtain ⟨AK, cK, eK⟩ := Kd.R_slice o0; subst eK; clear o0; obtain ⟨q30, q31, q32⟩ := cells3 k3; obtain ⟨q40, q41, q42⟩ := cells3 k4))
  clear c1 c2 c3 c4 f3 f4
  have hcase : (((Fs2.length : Int) == 0) = true ∧ ((G.length : Int) != 0) = false) ∨ ((Fs2.length : Int) == 0) = false := by
   by_cases hz : Fs2.length = 0
   ·exact .inl ⟨beq_iff_eq.mpr (by omega), bne_eq_false_iff_eq.mpr (by have := f5.out (by have := lfA.out; omega); omega)⟩
   ·exact .inr (beq_eq_false_iff_ne.mpr (by omega))
  rcases hcase with ⟨c8, c9⟩ | c8
  ·skip
   go_upto_region 18 with (first
    | (go_at_call 19; (with_reducible refine (spec_Faults.calls kf2 _ _ T _ _ L _ _ C Fs2 _ (Kd.R_reads' hB.oT).2.2 (Kd.R_reads' hB.oT).2.1 (Kd.R_reads' hB.oL).2.2 (Kd.R_reads' hB.oL).2.1 (Kd.R_reads' hB.oC).2.2 (Kd.R_reads' hB.oC).2.1 f2.out).mono ?_); rintro e wa ⟨u0, rfl, o0, kf⟩; replace hbel := below_step hbel kf; replace hB := hB.below kf; replace k3 := blk_below k3 kf; replace hM := hM.below kf; replace oG := Kd.R_below oG kf; replace k4 := blk_below k4 kf; replace oF := Kd.R_below oF kf; clear kf; clear q30 q31 q32 q40 q41 q42; obtain ⟨AK, cK, eK⟩ := Kd.R_slice o0; subst eK; clear o0; obtain ⟨q30, q31, q32⟩ := cells3 k3; obtain ⟨q40, q41, q42⟩ := cells3 k4))
   clear c8 c9
   go_upto_region 19 with (first
    | (go_at_call 12; (with_reducible refine (impl_MendBook.calls km4 _ _ T1 _ _ L1 _ _ C1 T3 L3 C3 G3 _ (Kd.R_reads' hM.oT).2.2 (Kd.R_reads' hM.oT).2.1 (Kd.R_reads' hM.oL).2.2 (Kd.R_reads' hM.oL).2.1 (Kd.R_reads' hM.oC).2.2 (Kd.R_reads' hM.oC).2.1 m4.out).mono ?_); rintro e wa ⟨u0, u1, u2, u3, rfl, o0, o1, o2, o3, kf⟩; replace hbel := below_step hbel kf; replace hB := hB.below kf; replace k3 := blk_below k3 kf; replace hM := hM.below kf; replace oG := Kd.R_below oG kf; replace k4 := blk_below k4 kf; replace oF := Kd.R_below oF kf; clear kf; clear q30 q31 q32 q40 q41 q42; have hQ := B3.of o0 o1 o2; have oY := R_any o3; clear o0 o1 o2 o3; obtain ⟨AtT, ctT, etT⟩ := Kd.R_slice hQ.oT; subst etT; obtain ⟨AtL, ctL, etL⟩ := Kd.R_slice hQ.oL; subst etL; obtain ⟨AtC, ctC, etC⟩ := Kd.R_slice hQ.oC; subst etC; obtain ⟨AY, cY, eY⟩ := Kd.R_slice oY; subst eY; obtain ⟨q30, q31, q32⟩ := cells3 k3; obtain ⟨q40, q41, q42⟩ := cells3 k4)
    | ((with_reducible refine gate_dst (N := 11) rfl ?_); (try (refine gate_guard (by rfl) ?_; dsimp only)); refine box_event ?hg (N := 11) ?hd (cs := #[.slice none 0 0, .slice none 0 0, .slice none 0 0]) (t := 29) ?hr ?_; (case hd => rfl); (case hg => rfl); (case hr => first | (go_simp; done) | (go_simp; rfl)); intro g11 hg wb hbox kf; have ge11 : w.heap.size ≤ g11 := by { rw [hg]; exact below_size hbel }; have n3_11 : g3 ≠ g11 := by { rw [hg]; exact Nat.ne_of_lt (blk_lt k3) }; have n4_11 : g4 ≠ g11 := by { rw [hg]; exact Nat.ne_of_lt (blk_lt k4) }; replace hbel := below_step hbel kf; replace hB := hB.below kf; replace k3 := blk_below k3 kf; replace hM := hM.below kf; replace oG := Kd.R_below oG kf; replace k4 := blk_below k4 kf; replace oF := Kd.R_below oF kf; replace hQ := hQ.below kf; clear hg kf; obtain ⟨b0, b1, b2⟩ := cells3 hbox; have z0 := blk_frozen hbox 0; have z1 := blk_frozen hbox 1; have z2 := blk_frozen hbox 2))
   have k11 := put3 hbox (.slice AtT T3.length ctT) (.slice AtL L3.length ctL) (.slice AtC C3.length ctC)
   replace hbel := bel_set3 hbel ge11 (.slice AtT T3.length ctT) (.slice AtL L3.length ctL) (.slice AtC C3.length ctC)
   replace hB := hB.set3 hbox (.slice AtT T3.length ctT) (.slice AtL L3.length ctL) (.slice AtC C3.length ctC)
   replace k3 := far3 k3 n3_11 (.slice AtT T3.length ctT) (.slice AtL L3.length ctL) (.slice AtC C3.length ctC)
   replace hM := hM.set3 hbox (.slice AtT T3.length ctT) (.slice AtL L3.length ctL) (.slice AtC C3.length ctC)
   replace oG := R_set3 oG hbox (by decide) (.slice AtT T3.length ctT) (.slice AtL L3.length ctL) (.slice AtC C3.length ctC)
   replace k4 := far3 k4 n4_11 (.slice AtT T3.length ctT) (.slice AtL L3.length ctL) (.slice AtC C3.length ctC)
   replace oF := R_set3 oF hbox (by decide) (.slice AtT T3.length ctT) (.slice AtL L3.length ctL) (.slice AtC C3.length ctC)
   replace hQ := hQ.set3 hbox (.slice AtT T3.length ctT) (.slice AtL L3.length ctL) (.slice AtC C3.length ctC)
   generalize (((wb.setCell ⟨g11, 0, none⟩ (.slice AtT T3.length ctT)).setCell ⟨g11, 1, none⟩ (.slice AtL L3.length ctL)).setCell ⟨g11, 2, none⟩ (.slice AtC C3.length ctC)) = W5 at k11 hbel hB k3 hM oG k4 oF hQ ⊢
   clear hbox b0 b1 b2 z0 z1 z2 q30 q31 q32 q40 q41 q42
   obtain ⟨q30, q31, q32⟩ := cells3 k3
   obtain ⟨q40, q41, q42⟩ := cells3 k4
   obtain ⟨q110, q111, q112⟩ := cells3 k11
   clear oY m4
   go_upto_region 20 with (first
    | (go_at_call 28; (with_reducible refine (impl_Restart.calls kr2 _ _ T _ _ L _ _ C 2 T4 L4 C4 true _ (Kd.R_reads' hB.oT).2.2 (Kd.R_reads' hB.oT).2.1 (Kd.R_reads' hB.oL).2.2 (Kd.R_reads' hB.oL).2.1 (Kd.R_reads' hB.oC).2.2 (Kd.R_reads' hB.oC).2.1 r2.out).mono ?_); rintro e wa ⟨u0, u1, u2, rfl, o0, o1, o2, kf⟩; replace hbel := below_step hbel kf; replace hB := hB.below kf; replace k3 := blk_below k3 kf; replace hM := hM.below kf; replace oG := Kd.R_below oG kf; replace k4 := blk_below k4 kf; replace oF := Kd.R_below oF kf; replace hQ := hQ.below kf; replace k11 := blk_below k11 kf; clear kf; clear q30 q31 q32 q40 q41 q42 q110 q111 q112; have hU := B3.of o0 o1 o2; clear o0 o1 o2; obtain ⟨AvT, cvT, evT⟩ := Kd.R_slice hU.oT; subst evT; obtain ⟨AvL, cvL, evL⟩ := Kd.R_slice hU.oL; subst evL; obtain ⟨AvC, cvC, evC⟩ := Kd.R_slice hU.oC; subst evC; obtain ⟨q30, q31, q32⟩ := cells3 k3; obtain ⟨q40, q41, q42⟩ := cells3 k4; obtain ⟨q110, q111, q112⟩ := cells3 k11)
    | ((with_reducible refine gate_dst (N := 13) rfl ?_); (try (refine gate_guard (by rfl) ?_; dsimp only)); refine box_event ?hg (N := 13) ?hd (cs := #[.slice none 0 0, .slice none 0 0, .slice none 0 0]) (t := 29) ?hr ?_; (case hd => rfl); (case hg => rfl); (case hr => first | (go_simp; done) | (go_simp; rfl)); intro g13 hg wb hbox kf; have ge13 : w.heap.size ≤ g13 := by { rw [hg]; exact below_size hbel }; have n3_13 : g3 ≠ g13 := by { rw [hg]; exact Nat.ne_of_lt (blk_lt k3) }; have n4_13 : g4 ≠ g13 := by { rw [hg]; exact Nat.ne_of_lt (blk_lt k4) }; have n11_13 : g11 ≠ g13 := by { rw [hg]; exact Nat.ne_of_lt (blk_lt k11) }; replace hbel := below_step hbel kf; replace hB := hB.below kf; replace k3 := blk_below k3 kf; replace hM := hM.below kf; replace oG := Kd.R_below oG kf; replace k4 := blk_below k4 kf; replace oF := Kd.R_below oF kf; replace hQ := hQ.below kf; replace k11 := blk_below k11 kf; replace hU := hU.below kf; clear hg kf; obtain ⟨b0, b1, b2⟩ := cells3 hbox; have z0 := blk_frozen hbox 0; have z1 := blk_frozen hbox 1; have z2 := blk_frozen hbox 2))
   have k13 := put3 hbox (.slice AvT T4.length cvT) (.slice AvL L4.length cvL) (.slice AvC C4.length cvC)
   replace hbel := bel_set3 hbel ge13 (.slice AvT T4.length cvT) (.slice AvL L4.length cvL) (.slice AvC C4.length cvC)
   replace hB := hB.set3 hbox (.slice AvT T4.length cvT) (.slice AvL L4.length cvL) (.slice AvC C4.length cvC)
   replace k3 := far3 k3 n3_13 (.slice AvT T4.length cvT) (.slice AvL L4.length cvL) (.slice AvC C4.length cvC)
   replace hM := hM.set3 hbox (.slice AvT T4.length cvT) (.slice AvL L4.length cvL) (.slice AvC C4.length cvC)
   replace oG := R_set3 oG hbox (by decide) (.slice AvT T4.length cvT) (.slice AvL L4.length cvL) (.slice AvC C4.length cvC)
   replace k4 := far3 k4 n4_13 (.slice AvT T4.length cvT) (.slice AvL L4.length cvL) (.slice AvC C4.length cvC)
   replace oF := R_set3 oF hbox (by decide) (.slice AvT T4.length cvT) (.slice AvL L4.length cvL) (.slice AvC C4.length cvC)
   replace hQ := hQ.set3 hbox (.slice AvT T4.length cvT) (.slice AvL L4.length cvL) (.slice AvC C4.length cvC)
   replace k11 := far3 k11 n11_13 (.slice AvT T4.length cvT) (.slice AvL L4.length cvL) (.slice AvC C4.length cvC)
   replace hU := hU.set3 hbox (.slice AvT T4.length cvT) (.slice AvL L4.length cvL) (.slice AvC C4.length cvC)
   generalize (((wb.setCell ⟨g13, 0, none⟩ (.slice AvT T4.length cvT)).setCell ⟨g13, 1, none⟩ (.slice AvL L4.length cvL)).setCell ⟨g13, 2, none⟩ (.slice AvC C4.length cvC)) = W6 at k13 hbel hB k3 hM oG k4 oF hQ k11 hU ⊢
   clear hbox b0 b1 b2 z0 z1 z2 q30 q31 q32 q40 q41 q42 q110 q111 q112
   obtain ⟨q30, q31, q32⟩ := cells3 k3
   obtain ⟨q40, q41, q42⟩ := cells3 k4
   obtain ⟨q110, q111, q112⟩ := cells3 k11
   obtain ⟨q130, q131, q132⟩ := cells3 k13
   clear r2
   go_upto_region 21 with (first
    | (go_at_call 28; (with_reducible refine (impl_Restart.calls kr3 _ _ T _ _ L _ _ C 3 T5 L5 C5 true _ (Kd.R_reads' hB.oT).2.2 (Kd.R_reads' hB.oT).2.1 (Kd.R_reads' hB.oL).2.2 (Kd.R_reads' hB.oL).2.1 (Kd.R_reads' hB.oC).2.2 (Kd.R_reads' hB.oC).2.1 r3.out).mono ?_); rintro e wa ⟨u0, u1, u2, rfl, o0, o1, o2, kf⟩; replace hbel := below_step hbel kf; replace hB := hB.below kf; replace k3 := blk_below k3 kf; replace hM := hM.below kf; replace oG := Kd.R_below oG kf; replace k4 := blk_below k4 kf; replace oF := Kd.R_below oF kf; replace hQ := hQ.below kf; replace k11 := blk_below k11 kf; replace hU := hU.below kf; replace k13 := blk_below k13 kf; clear kf; clear q30 q31 q32 q40 q41 q42 q110 q111 q112 q130 q131 q132; have hV := B3.of o0 o1 o2; clear o0 o1 o2; obtain ⟨AxT, cxT, exT⟩ := Kd.R_slice hV.oT; subst exT; obtain ⟨AxL, cxL, exL⟩ := Kd.R_slice hV.oL; subst exL; obtain ⟨AxC, cxC, exC⟩ := Kd.R_slice hV.oC; subst exC; obtain ⟨q30, q31, q32⟩ := cells3 k3; obtain ⟨q40, q41, q42⟩ := cells3 k4; obtain ⟨q110, q111, q112⟩ := cells3 k11; obtain ⟨q130, q131, q132⟩ := cells3 k13)
    | ((with_reducible refine gate_dst (N := 15) rfl ?_); (try (refine gate_guard (by rfl) ?_; dsimp only)); refine box_event ?hg (N := 15) ?hd (cs := #[.slice none 0 0, .slice none 0 0, .slice none 0 0]) (t := 29) ?hr ?_; (case hd => rfl); (case hg => rfl); (case hr => first | (go_simp; done) | (go_simp; rfl)); intro g15 hg wb hbox kf; have ge15 : w.heap.size ≤ g15 := by { rw [hg]; exact below_size hbel }; have n3_15 : g3 ≠ g15 := by { rw [hg]; exact Nat.ne_of_lt (blk_lt k3) }; have n4_15 : g4 ≠ g15 := by { rw [hg]; exact Nat.ne_of_lt (blk_lt k4) }; have n11_15 : g11 ≠ g15 := by { rw [hg]; exact Nat.ne_of_lt (blk_lt k11) }; have n13_15 : g13 ≠ g15 := by { rw [hg]; exact Nat.ne_of_lt (blk_lt k13) }; replace hbel := below_step hbel kf; replace hB := hB.below kf; replace k3 := blk_below k3 kf; replace hM := hM.below kf; replace oG := Kd.R_below oG kf; replace k4 := blk_below k4 kf; replace oF := Kd.R_below oF kf; replace hQ := hQ.below kf; replace k11 := blk_below k11 kf; replace hU := hU.below kf; replace k13 := blk_below k13 kf; replace hV := hV.below kf; clear hg kf; obtain ⟨b0, b1, b2⟩ := cells3 hbox; have z0 := blk_frozen hbox 0; have z1 := blk_frozen hbox 1; have z2 := blk_frozen hbox 2))
   have k15 := put3 hbox (.slice AxT T5.length cxT) (.slice AxL L5.length cxL) (.slice AxC C5.length cxC)
   replace hbel := bel_set3 hbel ge15 (.slice AxT T5.length cxT) (.slice AxL L5.length cxL) (.slice AxC C5.length cxC)
   replace hB := hB.set3 hbox (.slice AxT T5.length cxT) (.slice AxL L5.length cxL) (.slice AxC C5.length cxC)
   replace k3 := far3 k3 n3_15 (.slice AxT T5.length cxT) (.slice AxL L5.length cxL) (.slice AxC C5.length cxC)
   replace hM := hM.set3 hbox (.slice AxT T5.length cxT) (.slice AxL L5.length cxL) (.slice AxC C5.length cxC)
   replace oG := R_set3 oG hbox (by decide) (.slice AxT T5.length cxT) (.slice AxL L5.length cxL) (.slice AxC C5.length cxC)
   replace k4 := far3 k4 n4_15 (.slice AxT T5.length cxT) (.slice AxL L5.length cxL) (.slice AxC C5.length cxC)
   replace oF := R_set3 oF hbox (by decide) (.slice AxT T5.length cxT) (.slice AxL L5.length cxL) (.slice AxC C5.length cxC)
   replace hQ := hQ.set3 hbox (.slice AxT T5.length cxT) (.slice AxL L5.length cxL) (.slice AxC C5.length cxC)
   replace k11 := far3 k11 n11_15 (.slice AxT T5.length cxT) (.slice AxL L5.length cxL) (.slice AxC C5.length cxC)
   replace hU := hU.set3 hbox (.slice AxT T5.length cxT) (.slice AxL L5.length cxL) (.slice AxC C5.length cxC)
   replace k13 := far3 k13 n13_15 (.slice AxT T5.length cxT) (.slice AxL L5.length cxL) (.slice AxC C5.length cxC)
   replace hV := hV.set3 hbox (.slice AxT T5.length cxT) (.slice AxL L5.length cxL) (.slice AxC C5.length cxC)
   generalize (((wb.setCell ⟨g15, 0, none⟩ (.slice AxT T5.length cxT)).setCell ⟨g15, 1, none⟩ (.slice AxL L5.length cxL)).setCell ⟨g15, 2, none⟩ (.slice AxC C5.length cxC)) = W7 at k15 hbel hB k3 hM oG k4 oF hQ k11 hU k13 hV ⊢
   clear hbox b0 b1 b2 z0 z1 z2 q30 q31 q32 q40 q41 q42 q110 q111 q112 q130 q131 q132
   obtain ⟨q30, q31, q32⟩ := cells3 k3
   obtain ⟨q40, q41, q42⟩ := cells3 k4
   obtain ⟨q110, q111, q112⟩ := cells3 k11
   obtain ⟨q130, q131, q132⟩ := cells3 k13
   obtain ⟨q150, q151, q152⟩ := cells3 k15
   clear r3
   go_wp2_with (first
    | (go_at_call 26; (with_reducible refine (laws_sameInts.calls ks3 _ _ L3 _ _ L1 true _ (Kd.R_reads' hQ.oL).2.2 (Kd.R_reads' hQ.oL).2.1 (Kd.R_reads' hM.oL).2.2 (Kd.R_reads' hM.oL).2.1 s3).mono ?_); rintro e wa ⟨rfl, hz⟩; have kf := below_drawn hz; clear hz; replace hbel := below_step hbel kf; replace hB := hB.below kf; replace k3 := blk_below k3 kf; replace hM := hM.below kf; replace oG := Kd.R_below oG kf; replace k4 := blk_below k4 kf; replace oF := Kd.R_below oF kf; replace hQ := hQ.below kf; replace k11 := blk_below k11 kf; replace hU := hU.below kf; replace k13 := blk_below k13 kf; replace hV := hV.below kf; replace k15 := blk_below k15 kf; clear kf; clear q30 q31 q32 q40 q41 q42 q110 q111 q112 q130 q131 q132 q150 q151 q152; obtain ⟨q30, q31, q32⟩ := cells3 k3; obtain ⟨q40, q41, q42⟩ := cells3 k4; obtain ⟨q110, q111, q112⟩ := cells3 k11; obtain ⟨q130, q131, q132⟩ := cells3 k13; obtain ⟨q150, q151, q152⟩ := cells3 k15)
    | (go_at_call 26; (with_reducible refine (laws_sameInts.calls ks4 _ _ C3 _ _ C1 true _ (Kd.R_reads' hQ.oC).2.2 (Kd.R_reads' hQ.oC).2.1 (Kd.R_reads' hM.oC).2.2 (Kd.R_reads' hM.oC).2.1 s4).mono ?_); rintro e wa ⟨rfl, hz⟩; have kf := below_drawn hz; clear hz; replace hbel := below_step hbel kf; replace hB := hB.below kf; replace k3 := blk_below k3 kf; replace hM := hM.below kf; replace oG := Kd.R_below oG kf; replace k4 := blk_below k4 kf; replace oF := Kd.R_below oF kf; replace hQ := hQ.below kf; replace k11 := blk_below k11 kf; replace hU := hU.below kf; replace k13 := blk_below k13 kf; replace hV := hV.below kf; replace k15 := blk_below k15 kf; clear kf; clear q30 q31 q32 q40 q41 q42 q110 q111 q112 q130 q131 q132 q150 q151 q152; obtain ⟨q30, q31, q32⟩ := cells3 k3; obtain ⟨q40, q41, q42⟩ := cells3 k4; obtain ⟨q110, q111, q112⟩ := cells3 k11; obtain ⟨q130, q131, q132⟩ := cells3 k13; obtain ⟨q150, q151, q152⟩ := cells3 k15)
    | (go_at_call 26; (with_reducible refine (laws_sameInts.calls ks5 _ _ L4 _ _ L1 true _ (Kd.R_reads' hU.oL).2.2 (Kd.R_reads' hU.oL).2.1 (Kd.R_reads' hM.oL).2.2 (Kd.R_reads' hM.oL).2.1 s5).mono ?_); rintro e wa ⟨rfl, hz⟩; have kf := below_drawn hz; clear hz; replace hbel := below_step hbel kf; replace hB := hB.below kf; replace k3 := blk_below k3 kf; replace hM := hM.below kf; replace oG := Kd.R_below oG kf; replace k4 := blk_below k4 kf; replace oF := Kd.R_below oF kf; replace hQ := hQ.below kf; replace k11 := blk_below k11 kf; replace hU := hU.below kf; replace k13 := blk_below k13 kf; replace hV := hV.below kf; replace k15 := blk_below k15 kf; clear kf; clear q30 q31 q32 q40 q41 q42 q110 q111 q112 q130 q131 q132 q150 q151 q152; obtain ⟨q30, q31, q32⟩ := cells3 k3; obtain ⟨q40, q41, q42⟩ := cells3 k4; obtain ⟨q110, q111, q112⟩ := cells3 k11; obtain ⟨q130, q131, q132⟩ := cells3 k13; obtain ⟨q150, q151, q152⟩ := cells3 k15))
   go_ret
   exact ⟨rfl, hbel⟩
  ·skip
   go_upto_region 18 with (first
    | (go_at_call 19; (with_reducible refine (spec_Faults.calls kf2 _ _ T _ _ L _ _ C Fs2 _ (Kd.R_reads' hB.oT).2.2 (Kd.R_reads' hB.oT).2.1 (Kd.R_reads' hB.oL).2.2 (Kd.R_reads' hB.oL).2.1 (Kd.R_reads' hB.oC).2.2 (Kd.R_reads' hB.oC).2.1 f2.out).mono ?_); rintro e wa ⟨u0, rfl, o0, kf⟩; replace hbel := below_step hbel kf; replace hB := hB.below kf; replace k3 := blk_below k3 kf; replace hM := hM.below kf; replace oG := Kd.R_below oG kf; replace k4 := blk_below k4 kf; replace oF := Kd.R_below oF kf; clear kf; clear q30 q31 q32 q40 q41 q42; obtain ⟨AK, cK, eK⟩ := Kd.R_slice o0; subst eK; clear o0; obtain ⟨q30, q31, q32⟩ := cells3 k3; obtain ⟨q40, q41, q42⟩ := cells3 k4))
   clear c8
   go_upto_region 19 with (first
    | (go_at_call 12; (with_reducible refine (impl_MendBook.calls km4 _ _ T1 _ _ L1 _ _ C1 T3 L3 C3 G3 _ (Kd.R_reads' hM.oT).2.2 (Kd.R_reads' hM.oT).2.1 (Kd.R_reads' hM.oL).2.2 (Kd.R_reads' hM.oL).2.1 (Kd.R_reads' hM.oC).2.2 (Kd.R_reads' hM.oC).2.1 m4.out).mono ?_); rintro e wa ⟨u0, u1, u2, u3, rfl, o0, o1, o2, o3, kf⟩; replace hbel := below_step hbel kf; replace hB := hB.below kf; replace k3 := blk_below k3 kf; replace hM := hM.below kf; replace oG := Kd.R_below oG kf; replace k4 := blk_below k4 kf; replace oF := Kd.R_below oF kf; clear kf; clear q30 q31 q32 q40 q41 q42; have hQ := B3.of o0 o1 o2; have oY := R_any o3; clear o0 o1 o2 o3; obtain ⟨AtT, ctT, etT⟩ := Kd.R_slice hQ.oT; subst etT; obtain ⟨AtL, ctL, etL⟩ := Kd.R_slice hQ.oL; subst etL; obtain ⟨AtC, ctC, etC⟩ := Kd.R_slice hQ.oC; subst etC; obtain ⟨AY, cY, eY⟩ := Kd.R_slice oY; subst eY; obtain ⟨q30, q31, q32⟩ := cells3 k3; obtain ⟨q40, q41, q42⟩ := cells3 k4)
    | ((with_reducible refine gate_dst (N := 11) rfl ?_); (try (refine gate_guard (by rfl) ?_; dsimp only)); refine box_event ?hg (N := 11) ?hd (cs := #[.slice none 0 0, .slice none 0 0, .slice none 0 0]) (t := 29) ?hr ?_; (case hd => rfl); (case hg => rfl); (case hr => first | (go_simp; done) | (go_simp; rfl)); intro g11 hg wb hbox kf; have ge11 : w.heap.size ≤ g11 := by { rw [hg]; exact below_size hbel }; have n3_11 : g3 ≠ g11 := by { rw [hg]; exact Nat.ne_of_lt (blk_lt k3) }; have n4_11 : g4 ≠ g11 := by { rw [hg]; exact Nat.ne_of_lt (blk_lt k4) }; replace hbel := below_step hbel kf; replace hB := hB.below kf; replace k3 := blk_below k3 kf; replace hM := hM.below kf; replace oG := Kd.R_below oG kf; replace k4 := blk_below k4 kf; replace oF := Kd.R_below oF kf; replace hQ := hQ.below kf; clear hg kf; obtain ⟨b0, b1, b2⟩ := cells3 hbox; have z0 := blk_frozen hbox 0; have z1 := blk_frozen hbox 1; have z2 := blk_frozen hbox 2))
   have k11 := put3 hbox (.slice AtT T3.length ctT) (.slice AtL L3.length ctL) (.slice AtC C3.length ctC)
   replace hbel := bel_set3 hbel ge11 (.slice AtT T3.length ctT) (.slice AtL L3.length ctL) (.slice AtC C3.length ctC)
   replace hB := hB.set3 hbox (.slice AtT T3.length ctT) (.slice AtL L3.length ctL) (.slice AtC C3.length ctC)
   replace k3 := far3 k3 n3_11 (.slice AtT T3.length ctT) (.slice AtL L3.length ctL) (.slice AtC C3.length ctC)
   replace hM := hM.set3 hbox (.slice AtT T3.length ctT) (.slice AtL L3.length ctL) (.slice AtC C3.length ctC)
   replace oG := R_set3 oG hbox (by decide) (.slice AtT T3.length ctT) (.slice AtL L3.length ctL) (.slice AtC C3.length ctC)
   replace k4 := far3 k4 n4_11 (.slice AtT T3.length ctT) (.slice AtL L3.length ctL) (.slice AtC C3.length ctC)
   replace oF := R_set3 oF hbox (by decide) (.slice AtT T3.length ctT) (.slice AtL L3.length ctL) (.slice AtC C3.length ctC)
   replace hQ := hQ.set3 hbox (.slice AtT T3.length ctT) (.slice AtL L3.length ctL) (.slice AtC C3.length ctC)
   generalize (((wb.setCell ⟨g11, 0, none⟩ (.slice AtT T3.length ctT)).setCell ⟨g11, 1, none⟩ (.slice AtL L3.length ctL)).setCell ⟨g11, 2, none⟩ (.slice AtC C3.length ctC)) = W5 at k11 hbel hB k3 hM oG k4 oF hQ ⊢
   clear hbox b0 b1 b2 z0 z1 z2 q30 q31 q32 q40 q41 q42
   obtain ⟨q30, q31, q32⟩ := cells3 k3
   obtain ⟨q40, q41, q42⟩ := cells3 k4
   obtain ⟨q110, q111, q112⟩ := cells3 k11
   clear oY m4
   go_upto_region 20 with (first
    | (go_at_call 28; (with_reducible refine (impl_Restart.calls kr2 _ _ T _ _ L _ _ C 2 T4 L4 C4 true _ (Kd.R_reads' hB.oT).2.2 (Kd.R_reads' hB.oT).2.1 (Kd.R_reads' hB.oL).2.2 (Kd.R_reads' hB.oL).2.1 (Kd.R_reads' hB.oC).2.2 (Kd.R_reads' hB.oC).2.1 r2.out).mono ?_); rintro e wa ⟨u0, u1, u2, rfl, o0, o1, o2, kf⟩; replace hbel := below_step hbel kf; replace hB := hB.below kf; replace k3 := blk_below k3 kf; replace hM := hM.below kf; replace oG := Kd.R_below oG kf; replace k4 := blk_below k4 kf; replace oF := Kd.R_below oF kf; replace hQ := hQ.below kf; replace k11 := blk_below k11 kf; clear kf; clear q30 q31 q32 q40 q41 q42 q110 q111 q112; have hU := B3.of o0 o1 o2; clear o0 o1 o2; obtain ⟨AvT, cvT, evT⟩ := Kd.R_slice hU.oT; subst evT; obtain ⟨AvL, cvL, evL⟩ := Kd.R_slice hU.oL; subst evL; obtain ⟨AvC, cvC, evC⟩ := Kd.R_slice hU.oC; subst evC; obtain ⟨q30, q31, q32⟩ := cells3 k3; obtain ⟨q40, q41, q42⟩ := cells3 k4; obtain ⟨q110, q111, q112⟩ := cells3 k11)
    | ((with_reducible refine gate_dst (N := 13) rfl ?_); (try (refine gate_guard (by rfl) ?_; dsimp only)); refine box_event ?hg (N := 13) ?hd (cs := #[.slice none 0 0, .slice none 0 0, .slice none 0 0]) (t := 29) ?hr ?_; (case hd => rfl); (case hg => rfl); (case hr => first | (go_simp; done) | (go_simp; rfl)); intro g13 hg wb hbox kf; have ge13 : w.heap.size ≤ g13 := by { rw [hg]; exact below_size hbel }; have n3_13 : g3 ≠ g13 := by { rw [hg]; exact Nat.ne_of_lt (blk_lt k3) }; have n4_13 : g4 ≠ g13 := by { rw [hg]; exact Nat.ne_of_lt (blk_lt k4) }; have n11_13 : g11 ≠ g13 := by { rw [hg]; exact Nat.ne_of_lt (blk_lt k11) }; replace hbel := below_step hbel kf; replace hB := hB.below kf; replace k3 := blk_below k3 kf; replace hM := hM.below kf; replace oG := Kd.R_below oG kf; replace k4 := blk_below k4 kf; replace oF := Kd.R_below oF kf; replace hQ := hQ.below kf; replace k11 := blk_below k11 kf; replace hU := hU.below kf; clear hg kf; obtain ⟨b0, b1, b2⟩ := cells3 hbox; have z0 := blk_frozen hbox 0; have z1 := blk_frozen hbox 1; have z2 := blk_frozen hbox 2))
   have k13 := put3 hbox (.slice AvT T4.length cvT) (.slice AvL L4.length cvL) (.slice AvC C4.length cvC)
   replace hbel := bel_set3 hbel ge13 (.slice AvT T4.length cvT) (.slice AvL L4.length cvL) (.slice AvC C4.length cvC)
   replace hB := hB.set3 hbox (.slice AvT T4.length cvT) (.slice AvL L4.length cvL) (.slice AvC C4.length cvC)
   replace k3 := far3 k3 n3_13 (.slice AvT T4.length cvT) (.slice AvL L4.length cvL) (.slice AvC C4.length cvC)
   replace hM := hM.set3 hbox (.slice AvT T4.length cvT) (.slice AvL L4.length cvL) (.slice AvC C4.length cvC)
   replace oG := R_set3 oG hbox (by decide) (.slice AvT T4.length cvT) (.slice AvL L4.length cvL) (.slice AvC C4.length cvC)
   replace k4 := far3 k4 n4_13 (.slice AvT T4.length cvT) (.slice AvL L4.length cvL) (.slice AvC C4.length cvC)
   replace oF := R_set3 oF hbox (by decide) (.slice AvT T4.length cvT) (.slice AvL L4.length cvL) (.slice AvC C4.length cvC)
   replace hQ := hQ.set3 hbox (.slice AvT T4.length cvT) (.slice AvL L4.length cvL) (.slice AvC C4.length cvC)
   replace k11 := far3 k11 n11_13 (.slice AvT T4.length cvT) (.slice AvL L4.length cvL) (.slice AvC C4.length cvC)
   replace hU := hU.set3 hbox (.slice AvT T4.length cvT) (.slice AvL L4.length cvL) (.slice AvC C4.length cvC)
   generalize (((wb.setCell ⟨g13, 0, none⟩ (.slice AvT T4.length cvT)).setCell ⟨g13, 1, none⟩ (.slice AvL L4.length cvL)).setCell ⟨g13, 2, none⟩ (.slice AvC C4.length cvC)) = W6 at k13 hbel hB k3 hM oG k4 oF hQ k11 hU ⊢
   clear hbox b0 b1 b2 z0 z1 z2 q30 q31 q32 q40 q41 q42 q110 q111 q112
   obtain ⟨q30, q31, q32⟩ := cells3 k3
   obtain ⟨q40, q41, q42⟩ := cells3 k4
   obtain ⟨q110, q111, q112⟩ := cells3 k11
   obtain ⟨q130, q131, q132⟩ := cells3 k13
   clear r2
   go_upto_region 21 with (first
    | (go_at_call 28; (with_reducible refine (impl_Restart.calls kr3 _ _ T _ _ L _ _ C 3 T5 L5 C5 true _ (Kd.R_reads' hB.oT).2.2 (Kd.R_reads' hB.oT).2.1 (Kd.R_reads' hB.oL).2.2 (Kd.R_reads' hB.oL).2.1 (Kd.R_reads' hB.oC).2.2 (Kd.R_reads' hB.oC).2.1 r3.out).mono ?_); rintro e wa ⟨u0, u1, u2, rfl, o0, o1, o2, kf⟩; replace hbel := below_step hbel kf; replace hB := hB.below kf; replace k3 := blk_below k3 kf; replace hM := hM.below kf; replace oG := Kd.R_below oG kf; replace k4 := blk_below k4 kf; replace oF := Kd.R_below oF kf; replace hQ := hQ.below kf; replace k11 := blk_below k11 kf; replace hU := hU.below kf; replace k13 := blk_below k13 kf; clear kf; clear q30 q31 q32 q40 q41 q42 q110 q111 q112 q130 q131 q132; have hV := B3.of o0 o1 o2; clear o0 o1 o2; obtain ⟨AxT, cxT, exT⟩ := Kd.R_slice hV.oT; subst exT; obtain ⟨AxL, cxL, exL⟩ := Kd.R_slice hV.oL; subst exL; obtain ⟨AxC, cxC, exC⟩ := Kd.R_slice hV.oC; subst exC; obtain ⟨q30, q31, q32⟩ := cells3 k3; obtain ⟨q40, q41, q42⟩ := cells3 k4; obtain ⟨q110, q111, q112⟩ := cells3 k11; obtain ⟨q130, q131, q132⟩ := cells3 k13)
    | ((with_reducible refine gate_dst (N := 15) rfl ?_); (try (refine gate_guard (by rfl) ?_; dsimp only)); refine box_event ?hg (N := 15) ?hd (cs := #[.slice none 0 0, .slice none 0 0, .slice none 0 0]) (t := 29) ?hr ?_; (case hd => rfl); (case hg => rfl); (case hr => first | (go_simp; done) | (go_simp; rfl)); intro g15 hg wb hbox kf; have ge15 : w.heap.size ≤ g15 := by { rw [hg]; exact below_size hbel }; have n3_15 : g3 ≠ g15 := by { rw [hg]; exact Nat.ne_of_lt (blk_lt k3) }; have n4_15 : g4 ≠ g15 := by { rw [hg]; exact Nat.ne_of_lt (blk_lt k4) }; have n11_15 : g11 ≠ g15 := by { rw [hg]; exact Nat.ne_of_lt (blk_lt k11) }; have n13_15 : g13 ≠ g15 := by { rw [hg]; exact Nat.ne_of_lt (blk_lt k13) }; replace hbel := below_step hbel kf; replace hB := hB.below kf; replace k3 := blk_below k3 kf; replace hM := hM.below kf; replace oG := Kd.R_below oG kf; replace k4 := blk_below k4 kf; replace oF := Kd.R_below oF kf; replace hQ := hQ.below kf; replace k11 := blk_below k11 kf; replace hU := hU.below kf; replace k13 := blk_below k13 kf; replace hV := hV.below kf; clear hg kf; obtain ⟨b0, b1, b2⟩ := cells3 hbox; have z0 := blk_frozen hbox 0; have z1 := blk_frozen hbox 1; have z2 := blk_frozen hbox 2))
   have k15 := put3 hbox (.slice AxT T5.length cxT) (.slice AxL L5.length cxL) (.slice AxC C5.length cxC)
   replace hbel := bel_set3 hbel ge15 (.slice AxT T5.length cxT) (.slice AxL L5.length cxL) (.slice AxC C5.length cxC)
   replace hB := hB.set3 hbox (.slice AxT T5.length cxT) (.slice AxL L5.length cxL) (.slice AxC C5.length cxC)
   replace k3 := far3 k3 n3_15 (.slice AxT T5.length cxT) (.slice AxL L5.length cxL) (.slice AxC C5.length cxC)
   replace hM := hM.set3 hbox (.slice AxT T5.length cxT) (.slice AxL L5.length cxL) (.slice AxC C5.length cxC)
   replace oG := R_set3 oG hbox (by decide) (.slice AxT T5.length cxT) (.slice AxL L5.length cxL) (.slice AxC C5.length cxC)
   replace k4 := far3 k4 n4_15 (.slice AxT T5.length cxT) (.slice AxL L5.length cxL) (.slice AxC C5.length cxC)
   replace oF := R_set3 oF hbox (by decide) (.slice AxT T5.length cxT) (.slice AxL L5.length cxL) (.slice AxC C5.length cxC)
   replace hQ := hQ.set3 hbox (.slice AxT T5.length cxT) (.slice AxL L5.length cxL) (.slice AxC C5.length cxC)
   replace k11 := far3 k11 n11_15 (.slice AxT T5.length cxT) (.slice AxL L5.length cxL) (.slice AxC C5.length cxC)
   replace hU := hU.set3 hbox (.slice AxT T5.length cxT) (.slice AxL L5.length cxL) (.slice AxC C5.length cxC)
   replace k13 := far3 k13 n13_15 (.slice AxT T5.length cxT) (.slice AxL L5.length cxL) (.slice AxC C5.length cxC)
   replace hV := hV.set3 hbox (.slice AxT T5.length cxT) (.slice AxL L5.length cxL) (.slice AxC C5.length cxC)
   generalize (((wb.setCell ⟨g15, 0, none⟩ (.slice AxT T5.length cxT)).setCell ⟨g15, 1, none⟩ (.slice AxL L5.length cxL)).setCell ⟨g15, 2, none⟩ (.slice AxC C5.length cxC)) = W7 at k15 hbel hB k3 hM oG k4 oF hQ k11 hU k13 hV ⊢
   clear hbox b0 b1 b2 z0 z1 z2 q30 q31 q32 q40 q41 q42 q110 q111 q112 q130 q131 q132
   obtain ⟨q30, q31, q32⟩ := cells3 k3
   obtain ⟨q40, q41, q42⟩ := cells3 k4
   obtain ⟨q110, q111, q112⟩ := cells3 k11
   obtain ⟨q130, q131, q132⟩ := cells3 k13
   obtain ⟨q150, q151, q152⟩ := cells3 k15
   clear r3
   go_wp2_with (first
    | (go_at_call 26; (with_reducible refine (laws_sameInts.calls ks3 _ _ L3 _ _ L1 true _ (Kd.R_reads' hQ.oL).2.2 (Kd.R_reads' hQ.oL).2.1 (Kd.R_reads' hM.oL).2.2 (Kd.R_reads' hM.oL).2.1 s3).mono ?_); rintro e wa ⟨rfl, hz⟩; have kf := below_drawn hz; clear hz; replace hbel := below_step hbel kf; replace hB := hB.below kf; replace k3 := blk_below k3 kf; replace hM := hM.below kf; replace oG := Kd.R_below oG kf; replace k4 := blk_below k4 kf; replace oF := Kd.R_below oF kf; replace hQ := hQ.below kf; replace k11 := blk_below k11 kf; replace hU := hU.below kf; replace k13 := blk_below k13 kf; replace hV := hV.below kf; replace k15 := blk_below k15 kf; clear kf; clear q30 q31 q32 q40 q41 q42 q110 q111 q112 q130 q131 q132 q150 q151 q152; obtain ⟨q30, q31, q32⟩ := cells3 k3; obtain ⟨q40, q41, q42⟩ := cells3 k4; obtain ⟨q110, q111, q112⟩ := cells3 k11; obtain ⟨q130, q131, q132⟩ := cells3 k13; obtain ⟨q150, q151, q152⟩ := cells3 k15)
    | (go_at_call 26; (with_reducible refine (laws_sameInts.calls ks4 _ _ C3 _ _ C1 true _ (Kd.R_reads' hQ.oC).2.2 (Kd.R_reads' hQ.oC).2.1 (Kd.R_reads' hM.oC).2.2 (Kd.R_reads' hM.oC).2.1 s4).mono ?_); rintro e wa ⟨rfl, hz⟩; have kf := below_drawn hz; clear hz; replace hbel := below_step hbel kf; replace hB := hB.below kf; replace k3 := blk_below k3 kf; replace hM := hM.below kf; replace oG := Kd.R_below oG kf; replace k4 := blk_below k4 kf; replace oF := Kd.R_below oF kf; replace hQ := hQ.below kf; replace k11 := blk_below k11 kf; replace hU := hU.below kf; replace k13 := blk_below k13 kf; replace hV := hV.below kf; replace k15 := blk_below k15 kf; clear kf; clear q30 q31 q32 q40 q41 q42 q110 q111 q112 q130 q131 q132 q150 q151 q152; obtain ⟨q30, q31, q32⟩ := cells3 k3; obtain ⟨q40, q41, q42⟩ := cells3 k4; obtain ⟨q110, q111, q112⟩ := cells3 k11; obtain ⟨q130, q131, q132⟩ := cells3 k13; obtain ⟨q150, q151, q152⟩ := cells3 k15)
    | (go_at_call 26; (with_reducible refine (laws_sameInts.calls ks5 _ _ L4 _ _ L1 true _ (Kd.R_reads' hU.oL).2.2 (Kd.R_reads' hU.oL).2.1 (Kd.R_reads' hM.oL).2.2 (Kd.R_reads' hM.oL).2.1 s5).mono ?_); rintro e wa ⟨rfl, hz⟩; have kf := below_drawn hz; clear hz; replace hbel := below_step hbel kf; replace hB := hB.below kf; replace k3 := blk_below k3 kf; replace hM := hM.below kf; replace oG := Kd.R_below oG kf; replace k4 := blk_below k4 kf; replace oF := Kd.R_below oF kf; replace hQ := hQ.below kf; replace k11 := blk_below k11 kf; replace hU := hU.below kf; replace k13 := blk_below k13 kf; replace hV := hV.below kf; replace k15 := blk_below k15 kf; clear kf; clear q30 q31 q32 q40 q41 q42 q110 q111 q112 q130 q131 q132 q150 q151 q152; obtain ⟨q30, q31, q32⟩ := cells3 k3; obtain ⟨q40, q41, q42⟩ := cells3 k4; obtain ⟨q110, q111, q112⟩ := cells3 k11; obtain ⟨q130, q131, q132⟩ := cells3 k13; obtain ⟨q150, q151, q152⟩ := cells3 k15))
   go_ret
   exact ⟨rfl, hbel⟩

end Go.Proofs.Ytngnkfpciloamaa.MFnMendedBook
