/- The functions that the law FnExactAdd18 reaches, as plain functions, and that the code comes to them. Begun as a text of the print over stubs; turned by wip/handstub.py and wip/mend.py. -/
import Derived.Test.YtngnkfpciloamaaMFnExactAdd18x0
import Derived.Test.YtngnkfpciloamaaMFnExactAdd18x5
import Derived.Test.YtngnkfpciloamaaMFnExactAdd18x6
import Derived.Test.YtngnkfpciloamaaMFnExactAdd18x7
import Derived.Test.YtngnkfpciloamaaMFnExactAdd18x10
import Derived.Test.YtngnkfpciloamaaMFnExactAdd18x13
namespace Go.Proofs.Ytngnkfpciloamaa.MFnExactAdd18
open Go.RowKit Go.Proofs.YtngnkfpciloamaaW.PrintWords Go.Proofs.YtngnkfpciloamaaW.PrintLast Go.Proofs.YtngnkfpciloamaaW.PrintMore
attribute [local go_sem] max2_int min2_int max_two min_two max_three min_three max_four min_four   -- for this text's walks alone
set_option linter.unusedVariables false
set_option linter.unusedSimpArgs false

/-! ### laws_FnExactAdd18: function 8 -/
mutual
def laws_FnExactAdd18.j0 : Nat → Bool → Bool → Bool → List (S54) → List Int → List Int → Int → Int → Int → List (S50) → List Int → List Int → List (S50) → List Int → List Int → List (S50) → List Int → List Int → Option (Bool)
 | 0, _, _, _, _, _, _, _, _, _, _, _, _, _, _, _, _, _, _ => none
 | k + 1, x7, x10, x46, x414000, x414001, x414002, x415000, x415001, x415002, x439000, x439001, x439002, x449000, x449001, x449002, x463000, x463001, x463002 => if x46 = true then (some false) else ((laws_toBook.f k x414000 x414001 x414002).bind fun bt464 => ((laws_eqBook.f k x449000 x449001 x449002 bt464.1 bt464.2.1 bt464.2.2).bind fun t473 => (if t473 = true then ((laws_markBook.f k x449000 x449001 x449002 1).bind fun bt474 => (if bt474.1 < 0 then (laws_FnExactAdd18.j1 k x7 true x414000 x414001 x414002 x415000 x415001 x415002 x439000 x439001 x439002 x463000 x463001 x463002) else ((laws_eqBook.f k x463000 x463001 x463002 x439000 x439001 x439002).bind fun t478 => (if t478 = true then (laws_FnExactAdd18.j1 k x7 (x10 != x7) x414000 x414001 x414002 x415000 x415001 x415002 x439000 x439001 x439002 x463000 x463001 x463002) else (laws_FnExactAdd18.j1 k x7 true x414000 x414001 x414002 x415000 x415001 x415002 x439000 x439001 x439002 x463000 x463001 x463002))))) else (some false))))
def laws_FnExactAdd18.j1 : Nat → Bool → Bool → List (S54) → List Int → List Int → Int → Int → Int → List (S50) → List Int → List Int → List (S50) → List Int → List Int → Option (Bool)
 | 0, _, _, _, _, _, _, _, _, _, _, _, _, _, _ => none
 | k + 1, x7, x67, x414000, x414001, x414002, x415000, x415001, x415002, x439000, x439001, x439002, x463000, x463001, x463002 => if x67 = true then (some false) else ((laws_markBook.f k x463000 x463001 x463002 1).bind fun bt479 => ((laws_heldBook.f k bt479.2.1 bt479.2.2.1 bt479.2.2.2 1).bind fun t483 => (if t483 < 0 then (some false) else (if t483 = bt479.1 then ((laws_toBook.f k x414000 x414001 x414002).bind fun bt484 => ((laws_toTalk.f x415000 x415001 x415002).bind fun bt493 => ((impl_Add18.f k bt484.1 bt484.2.1 bt484.2.2 bt493.1 bt493.2.1 bt493.2.2).bind fun bt496 => ((laws_eqBook.f k bt496.1 bt496.2.1 bt496.2.2.1 x439000 x439001 x439002).bind fun t507 => (if t507 = true then (laws_FnExactAdd18.j2 k bt479.1 (bt496.2.2.2 != x7) bt479.2.1 bt479.2.2.1 bt479.2.2.2) else (laws_FnExactAdd18.j2 k bt479.1 true bt479.2.1 bt479.2.2.1 bt479.2.2.2)))))) else (some false)))))
def laws_FnExactAdd18.j2 : Nat → Int → Bool → List (S50) → List Int → List Int → Option (Bool)
 | 0, _, _, _, _, _ => none
 | k + 1, x12, x95, x463000, x463001, x463002 => if x95 = true then (some false) else ((laws_heldBook.f k x463000 x463001 x463002 1).bind fun t508 => (if t508 < 0 then (some false) else (if t508 = x12 then (some true) else (some false))))
end
def laws_FnExactAdd18.f (k : Nat) (l0_0 : List (S54)) (l0_1 : List Int) (l0_2 : List Int) (a1_0 : Int) (a1_1 : Int) (a1_2 : Int) : Option (Bool) := (laws_szBook.f l0_0 l0_1 l0_2 1048576).bind fun t415 => (if t415 < 0 then (some true) else ((laws_toBook.f k l0_0 l0_1 l0_2).bind fun bt416 => ((laws_toTalk.f a1_0 a1_1 a1_2).bind fun bt425 => ((spec_Add18.f k bt416.1 bt416.2.1 bt416.2.2 bt425.1 bt425.2.1 bt425.2.2).bind fun bt428 => ((laws_toBook.f k l0_0 l0_1 l0_2).bind fun bt439 => ((laws_toTalk.f a1_0 a1_1 a1_2).bind fun bt449 => ((impl_Add18.f k bt439.1 bt439.2.1 bt439.2.2 bt449.1 bt449.2.1 bt449.2.2).bind fun bt452 => ((laws_eqBook.f k bt452.1 bt452.2.1 bt452.2.2.1 bt428.1 bt428.2.1 bt428.2.2.1).bind fun t463 => (if t463 = true then (laws_FnExactAdd18.j0 k bt428.2.2.2 bt452.2.2.2 (bt452.2.2.2 != bt428.2.2.2) l0_0 l0_1 l0_2 a1_0 a1_1 a1_2 bt428.1 bt428.2.1 bt428.2.2.1 bt439.1 bt439.2.1 bt439.2.2 bt452.1 bt452.2.1 bt452.2.2.1) else (laws_FnExactAdd18.j0 k bt428.2.2.2 bt452.2.2.2 true l0_0 l0_1 l0_2 a1_0 a1_1 a1_2 bt428.1 bt428.2.1 bt428.2.2.1 bt439.1 bt439.2.1 bt439.2.2 bt452.1 bt452.2.1 bt452.2.2.1))))))))))
theorem laws_FnExactAdd18.mono_l : ∀ k, (∀ y0 y1 y2 y3 y4 y5 y6 y7 y8 y9 y10 y11 y12 y13 y14 y15 y16 y17, LeO (laws_FnExactAdd18.j0 k y0 y1 y2 y3 y4 y5 y6 y7 y8 y9 y10 y11 y12 y13 y14 y15 y16 y17) (laws_FnExactAdd18.j0 (k + 1) y0 y1 y2 y3 y4 y5 y6 y7 y8 y9 y10 y11 y12 y13 y14 y15 y16 y17)) ∧ (∀ y0 y1 y2 y3 y4 y5 y6 y7 y8 y9 y10 y11 y12 y13, LeO (laws_FnExactAdd18.j1 k y0 y1 y2 y3 y4 y5 y6 y7 y8 y9 y10 y11 y12 y13) (laws_FnExactAdd18.j1 (k + 1) y0 y1 y2 y3 y4 y5 y6 y7 y8 y9 y10 y11 y12 y13)) ∧ (∀ y0 y1 y2 y3 y4, LeO (laws_FnExactAdd18.j2 k y0 y1 y2 y3 y4) (laws_FnExactAdd18.j2 (k + 1) y0 y1 y2 y3 y4))
 | 0 => ⟨fun _ _ _ _ _ _ _ _ _ _ _ _ _ _ _ _ _ _ r h => by simp [laws_FnExactAdd18.j0] at h, fun _ _ _ _ _ _ _ _ _ _ _ _ _ _ r h => by simp [laws_FnExactAdd18.j1] at h, fun _ _ _ _ _ r h => by simp [laws_FnExactAdd18.j2] at h⟩
 | k + 1 => by
  obtain ⟨ih0, ih1, ih2⟩ := laws_FnExactAdd18.mono_l k
  refine ⟨?_, ?_, ?_⟩
  ·intro y0 y1 y2 y3 y4 y5 y6 y7 y8 y9 y10 y11 y12 y13 y14 y15 y16 y17
   unfold laws_FnExactAdd18.j0
   repeat' first
   | (with_reducible exact ih0 _ _ _ _ _ _ _ _ _ _ _ _ _ _ _ _ _ _)
   | (with_reducible exact ih1 _ _ _ _ _ _ _ _ _ _ _ _ _ _)
   | (with_reducible exact ih2 _ _ _ _ _)
   | (with_reducible exact impl_Add18.mono _ _ _ _ _ _ _)
   | (with_reducible exact laws_eqBook.mono _ _ _ _ _ _ _)
   | (with_reducible exact laws_heldBook.mono _ _ _ _ _)
   | (with_reducible exact laws_markBook.mono _ _ _ _ _)
   | (with_reducible exact laws_toBook.mono _ _ _ _)
   | (with_reducible exact spec_Add18.mono _ _ _ _ _ _ _)
   | (with_reducible exact LeO.refl _)
   | (with_reducible exact LeO.none _)
   | (with_reducible refine LeO.ite ?_ ?_)
   | (with_reducible refine LeO.bind ?_ (fun _ => ?_))
   | exact ih0 _ _ _ _ _ _ _ _ _ _ _ _ _ _ _ _ _ _
   | exact ih1 _ _ _ _ _ _ _ _ _ _ _ _ _ _
   | exact ih2 _ _ _ _ _
   | exact impl_Add18.mono _ _ _ _ _ _ _
   | exact laws_eqBook.mono _ _ _ _ _ _ _
   | exact laws_heldBook.mono _ _ _ _ _
   | exact laws_markBook.mono _ _ _ _ _
   | exact laws_toBook.mono _ _ _ _
   | exact spec_Add18.mono _ _ _ _ _ _ _
   | exact LeO.none _
   | refine LeO.ite ?_ ?_
   | refine LeO.bind ?_ (fun _ => ?_)
  ·intro y0 y1 y2 y3 y4 y5 y6 y7 y8 y9 y10 y11 y12 y13
   unfold laws_FnExactAdd18.j1
   repeat' first
   | (with_reducible exact ih0 _ _ _ _ _ _ _ _ _ _ _ _ _ _ _ _ _ _)
   | (with_reducible exact ih1 _ _ _ _ _ _ _ _ _ _ _ _ _ _)
   | (with_reducible exact ih2 _ _ _ _ _)
   | (with_reducible exact impl_Add18.mono _ _ _ _ _ _ _)
   | (with_reducible exact laws_eqBook.mono _ _ _ _ _ _ _)
   | (with_reducible exact laws_heldBook.mono _ _ _ _ _)
   | (with_reducible exact laws_markBook.mono _ _ _ _ _)
   | (with_reducible exact laws_toBook.mono _ _ _ _)
   | (with_reducible exact spec_Add18.mono _ _ _ _ _ _ _)
   | (with_reducible exact LeO.refl _)
   | (with_reducible exact LeO.none _)
   | (with_reducible refine LeO.ite ?_ ?_)
   | (with_reducible refine LeO.bind ?_ (fun _ => ?_))
   | exact ih0 _ _ _ _ _ _ _ _ _ _ _ _ _ _ _ _ _ _
   | exact ih1 _ _ _ _ _ _ _ _ _ _ _ _ _ _
   | exact ih2 _ _ _ _ _
   | exact impl_Add18.mono _ _ _ _ _ _ _
   | exact laws_eqBook.mono _ _ _ _ _ _ _
   | exact laws_heldBook.mono _ _ _ _ _
   | exact laws_markBook.mono _ _ _ _ _
   | exact laws_toBook.mono _ _ _ _
   | exact spec_Add18.mono _ _ _ _ _ _ _
   | exact LeO.none _
   | refine LeO.ite ?_ ?_
   | refine LeO.bind ?_ (fun _ => ?_)
  ·intro y0 y1 y2 y3 y4
   unfold laws_FnExactAdd18.j2
   repeat' first
   | (with_reducible exact ih0 _ _ _ _ _ _ _ _ _ _ _ _ _ _ _ _ _ _)
   | (with_reducible exact ih1 _ _ _ _ _ _ _ _ _ _ _ _ _ _)
   | (with_reducible exact ih2 _ _ _ _ _)
   | (with_reducible exact impl_Add18.mono _ _ _ _ _ _ _)
   | (with_reducible exact laws_eqBook.mono _ _ _ _ _ _ _)
   | (with_reducible exact laws_heldBook.mono _ _ _ _ _)
   | (with_reducible exact laws_markBook.mono _ _ _ _ _)
   | (with_reducible exact laws_toBook.mono _ _ _ _)
   | (with_reducible exact spec_Add18.mono _ _ _ _ _ _ _)
   | (with_reducible exact LeO.refl _)
   | (with_reducible exact LeO.none _)
   | (with_reducible refine LeO.ite ?_ ?_)
   | (with_reducible refine LeO.bind ?_ (fun _ => ?_))
   | exact ih0 _ _ _ _ _ _ _ _ _ _ _ _ _ _ _ _ _ _
   | exact ih1 _ _ _ _ _ _ _ _ _ _ _ _ _ _
   | exact ih2 _ _ _ _ _
   | exact impl_Add18.mono _ _ _ _ _ _ _
   | exact laws_eqBook.mono _ _ _ _ _ _ _
   | exact laws_heldBook.mono _ _ _ _ _
   | exact laws_markBook.mono _ _ _ _ _
   | exact laws_toBook.mono _ _ _ _
   | exact spec_Add18.mono _ _ _ _ _ _ _
   | exact LeO.none _
   | refine LeO.ite ?_ ?_
   | refine LeO.bind ?_ (fun _ => ?_)
theorem laws_FnExactAdd18.mono : ∀ a0 a1 a2 a3 a4 a5 k, LeO (laws_FnExactAdd18.f k a0 a1 a2 a3 a4 a5) (laws_FnExactAdd18.f (k + 1) a0 a1 a2 a3 a4 a5) := by
 intro a0 a1 a2 a3 a4 a5 k
 obtain ⟨ih0, ih1, ih2⟩ := laws_FnExactAdd18.mono_l k
 unfold laws_FnExactAdd18.f
 repeat' first
   | (with_reducible exact ih0 _ _ _ _ _ _ _ _ _ _ _ _ _ _ _ _ _ _)
   | (with_reducible exact ih1 _ _ _ _ _ _ _ _ _ _ _ _ _ _)
   | (with_reducible exact ih2 _ _ _ _ _)
   | (with_reducible exact impl_Add18.mono _ _ _ _ _ _ _)
   | (with_reducible exact laws_eqBook.mono _ _ _ _ _ _ _)
   | (with_reducible exact laws_heldBook.mono _ _ _ _ _)
   | (with_reducible exact laws_markBook.mono _ _ _ _ _)
   | (with_reducible exact laws_toBook.mono _ _ _ _)
   | (with_reducible exact spec_Add18.mono _ _ _ _ _ _ _)
   | (with_reducible exact LeO.refl _)
   | (with_reducible exact LeO.none _)
   | (with_reducible refine LeO.ite ?_ ?_)
   | (with_reducible refine LeO.bind ?_ (fun _ => ?_))
   | exact ih0 _ _ _ _ _ _ _ _ _ _ _ _ _ _ _ _ _ _
   | exact ih1 _ _ _ _ _ _ _ _ _ _ _ _ _ _
   | exact ih2 _ _ _ _ _
   | exact impl_Add18.mono _ _ _ _ _ _ _
   | exact laws_eqBook.mono _ _ _ _ _ _ _
   | exact laws_heldBook.mono _ _ _ _ _
   | exact laws_markBook.mono _ _ _ _ _
   | exact laws_toBook.mono _ _ _ _
   | exact spec_Add18.mono _ _ _ _ _ _ _
   | exact LeO.none _
   | refine LeO.ite ?_ ?_
   | refine LeO.bind ?_ (fun _ => ?_)
section
theorem R_selfT {W : World} {base : Nat} {ok : Nat → Prop} {v : Value} {xs : List S50} (h : Kd.R k50 50 W base ok v xs) : Kd.R k50 50 W base (fun k => some k = v.ownBlock) v xs :=
 ⟨fun k hk => hk.symm, h.2.imp_ (fun _ _ hp => by rw [k50_openM hp]; exact k50_mkM _ _ _ _)⟩
theorem R_selfI {W : World} {base : Nat} {ok : Nat → Prop} {v : Value} {xs : List Int} (h : Kd.R (Kd.int .i64) 3 W base ok v xs) : Kd.R (Kd.int .i64) 3 W base (fun k => some k = v.ownBlock) v xs :=
 ⟨fun k hk => hk.symm, h.2.imp_ (fun _ _ hp => hp)⟩
/-- The blocks of a book's three rows. -/
def bkOwn (vT vL vC : Value) (k : Nat) : Prop := some k = vT.ownBlock ∨ some k = vL.ownBlock ∨ some k = vC.ownBlock
/-- A book of one's own: its rows stand in blocks of their own. -/
structure Bk (W : World) (base : Nat) (vT vL vC : Value) (T : List S50) (L C : List Int) : Prop where
 oT : Kd.R k50 50 W base (fun k => some k = vT.ownBlock) vT T
 oL : Kd.R (Kd.int .i64) 3 W base (fun k => some k = vL.ownBlock) vL L
 oC : Kd.R (Kd.int .i64) 3 W base (fun k => some k = vC.ownBlock) vC C
 ne : ∀ k, some k = vL.ownBlock → ¬ some k = vC.ownBlock
variable {W W' : World} {base : Nat} {vT vL vC : Value} {T : List S50} {L C : List Int}
theorem Bk.of {okT : Nat → Prop} (hT : Kd.R k50 50 W base okT vT T) (hL : Kd.R (Kd.int .i64) 3 W base (fun k => some k ≠ vC.ownBlock) vL L) (hC : Kd.R (Kd.int .i64) 3 W base (fun k => some k ≠ vL.ownBlock) vC C) : Bk W base vT vL vC T L C :=
 ⟨R_selfT hT, R_selfI hL, R_selfI hC, fun k hk => hL.1 k hk.symm⟩
theorem Bk.below (h : Bk W base vT vL vC T L C) (hB : Below W.heap.size W W') : Bk W' base vT vL vC T L C := ⟨Kd.R_below h.oT hB, Kd.R_below h.oL hB, Kd.R_below h.oC hB, h.ne⟩
theorem Bk.lower {b : Nat} (h : Bk W base vT vL vC T L C) (hb : b ≤ base) : Bk W b vT vL vC T L C := ⟨Kd.R_lower h.oT hb, Kd.R_lower h.oL hb, Kd.R_lower h.oC hb, h.ne⟩
theorem Bk.set {g j : Nat} {cs : Array Value} (h : Bk W base vT vL vC T L C) (hb : W.heap[g]? = some (.cells cs 29 (0, 0))) (x : Value) : Bk (W.setCell ⟨g, j, none⟩ x) base vT vL vC T L C :=
 ⟨R_set h.oT hb (by decide) j x, R_set h.oL hb (by decide) j x, R_set h.oC hb (by decide) j x, h.ne⟩
theorem Bk.lt (h : Bk W base vT vL vC T L C) {k : Nat} (hk : bkOwn vT vL vC k) : k < W.heap.size := by
 rcases hk with hk | hk | hk
 ·exact Kd.R_lt h.oT k hk.symm
 ·exact Kd.R_lt h.oL k hk.symm
 ·exact Kd.R_lt h.oC k hk.symm
theorem Bk.ge (h : Bk W base vT vL vC T L C) {k : Nat} (hk : bkOwn vT vL vC k) : base ≤ k := by
 rcases hk with hk | hk | hk
 ·exact Kd.R_base h.oT k hk.symm
 ·exact Kd.R_base h.oL k hk.symm
 ·exact Kd.R_base h.oC k hk.symm
/-- No box of another type is a block of the book's rows. -/
theorem Bk.box (h : Bk W base vT vL vC T L C) {g : Nat} {cs : Array Value} {t : TypeId} (hb : W.heap[g]? = some (.cells cs t (0, 0))) (ht : t ≠ 50 ∧ t ≠ 3) : ¬ bkOwn vT vL vC g := by
 rintro (hk | hk | hk)
 ·exact Kd.R_ne h.oT hb (Ne.symm ht.1) hk
 ·exact Kd.R_ne h.oL hb (Ne.symm ht.2) hk
 ·exact Kd.R_ne h.oC hb (Ne.symm ht.2) hk
/-- What another book's marking leaves of this one: all. -/
theorem Bk.kept {uT uL uC : Value} (h : Bk W base vT vL vC T L C) (hk : Kept W W' (bkOwn uT uL uC)) (hd : ∀ k, bkOwn vT vL vC k → ¬ bkOwn uT uL uC k) : Bk W' base vT vL vC T L C :=
 ⟨Kd.R_kept h.oT hk (fun k h_ => hd k (.inl h_)), Kd.R_kept h.oL hk (fun k h_ => hd k (.inr (.inl h_))), Kd.R_kept h.oC hk (fun k h_ => hd k (.inr (.inr h_))), h.ne⟩
end
/-- What stands where the law says yes. -/
structure Yes (k k1 k2 k3 : Nat) (l0 : List S54) (l1 l2 : List Int) (a0 a1 a2 s : Int) (T : List S50) (L C : List Int) (t0 t1 t2 : Int) (T1 : List S50) (L1 C1 : List Int) (o : Bool) (T2 : List S50) (L2 C2 : List Int) (Tx : List S50) (Lx Cx : List Int) (m : Int) (Tm : List S50) (Lm Cm : List Int) (q : Int) (T3 : List S50) (L3 C3 : List Int) (Ty : List S50) (Ly Cy : List Int) (T4 : List S50) (L4 C4 : List Int) : Prop where
 ns : ¬ s < 0
 toB : laws_toBook.f k l0 l1 l2 = some (T, L, C)
 toT : laws_toTalk.f a0 a1 a2 = some (t0, t1, t2)
 sp : spec_Add18.f k T L C t0 t1 t2 = some (T1, L1, C1, o)
 im : impl_Add18.f k T L C t0 t1 t2 = some (T2, L2, C2, o)
 eq1 : laws_eqBook.f k T2 L2 C2 T1 L1 C1 = some true
 toX : laws_toBook.f k1 l0 l1 l2 = some (Tx, Lx, Cx)
 eqX : laws_eqBook.f k1 T L C Tx Lx Cx = some true
 mk1 : laws_markBook.f k1 T L C 1 = some (m, Tm, Lm, Cm)
 nm : ¬ m < 0
 eq2 : laws_eqBook.f k1 T2 L2 C2 T1 L1 C1 = some true
 mk2 : laws_markBook.f k2 T2 L2 C2 1 = some (q, T3, L3, C3)
 hd1 : laws_heldBook.f k2 T3 L3 C3 1 = some q
 nq : ¬ q < 0
 toY : laws_toBook.f k2 l0 l1 l2 = some (Ty, Ly, Cy)
 im2 : impl_Add18.f k2 Ty Ly Cy t0 t1 t2 = some (T4, L4, C4, o)
 eq3 : laws_eqBook.f k2 T4 L4 C4 T1 L1 C1 = some true
 hd2 : laws_heldBook.f k3 T3 L3 C3 1 = some q
theorem j2_true {k : Nat} {x12 : Int} {x : Bool} {T : List S50} {L C : List Int} (h : laws_FnExactAdd18.j2 k x12 x T L C = some true) : x = false ∧ ¬ x12 < 0 ∧ ∃ k1, laws_heldBook.f k1 T L C 1 = some x12 := by
 cases k with
 | zero => simp [laws_FnExactAdd18.j2] at h
 | succ k =>
  rw [laws_FnExactAdd18.j2] at h
  split at h
  ·simp at h
  ·rename_i hx
   obtain ⟨u, e, h1⟩ := Option.bind_eq_some_iff.mp h
   split at h1
   ·simp at h1
   ·rename_i hn
    split at h1
    ·rename_i hu
     subst hu
     exact ⟨Bool.eq_false_iff.mpr hx, hn, k, e⟩
    ·simp at h1
theorem law_facts {k : Nat} {l0 : List S54} {l1 l2 : List Int} {a0 a1 a2 : Int} (h : laws_FnExactAdd18.f k l0 l1 l2 a0 a1 a2 = some true) :
  ∃ s, laws_szBook.f l0 l1 l2 1048576 = some s ∧ (s < 0 ∨ ∃ k1 k2 k3 T L C t0 t1 t2 T1 L1 C1 o T2 L2 C2 Tx Lx Cx m Tm Lm Cm q T3 L3 C3 Ty Ly Cy T4 L4 C4, Yes k k1 k2 k3 l0 l1 l2 a0 a1 a2 s T L C t0 t1 t2 T1 L1 C1 o T2 L2 C2 Tx Lx Cx m Tm Lm Cm q T3 L3 C3 Ty Ly Cy T4 L4 C4) := by
 unfold laws_FnExactAdd18.f at h
 obtain ⟨s, es, g1⟩ := Option.bind_eq_some_iff.mp h
 clear h
 refine ⟨s, es, ?_⟩
 split at g1
 ·exact .inl (by assumption)
 rename_i ns
 right
 obtain ⟨⟨T, L, C⟩, e1, g2⟩ := Option.bind_eq_some_iff.mp g1
 clear g1
 obtain ⟨⟨t0, t1, t2⟩, e2, g3⟩ := Option.bind_eq_some_iff.mp g2
 clear g2
 obtain ⟨⟨T1, L1, C1, o⟩, e3, g4⟩ := Option.bind_eq_some_iff.mp g3
 clear g3
 obtain ⟨b2, e4, g5⟩ := Option.bind_eq_some_iff.mp g4
 clear g4
 obtain rfl := Option.some.inj (e1.symm.trans e4)
 obtain ⟨bt, e5, g6⟩ := Option.bind_eq_some_iff.mp g5
 clear g5
 obtain rfl := Option.some.inj (e2.symm.trans e5)
 obtain ⟨⟨T2, L2, C2, o2⟩, e6, g7⟩ := Option.bind_eq_some_iff.mp g6
 clear g6
 obtain ⟨b, e7, g8⟩ := Option.bind_eq_some_iff.mp g7
 clear g7 e4 e5
 cases k with
 | zero => split at g8 <;> simp [laws_FnExactAdd18.j0] at g8
 | succ k1 =>
  split at g8
  rotate_left
  ·simp [laws_FnExactAdd18.j0] at g8
  rename_i hb
  subst hb
  rw [laws_FnExactAdd18.j0] at g8
  split at g8
  ·simp at g8
  rename_i ho
  have ho' : o2 = o := by simpa using ho
  subst ho'
  obtain ⟨⟨Tx, Lx, Cx⟩, e8, f1⟩ := Option.bind_eq_some_iff.mp g8
  clear g8
  obtain ⟨b, e9, f2⟩ := Option.bind_eq_some_iff.mp f1
  clear f1
  split at f2
  rotate_left
  ·simp at f2
  rename_i hb
  subst hb
  obtain ⟨⟨m, Tm, Lm, Cm⟩, e10, f3⟩ := Option.bind_eq_some_iff.mp f2
  clear f2
  cases k1 with
  | zero =>
   split at f3
   ·simp [laws_FnExactAdd18.j1] at f3
   ·obtain ⟨b, e11, f4⟩ := Option.bind_eq_some_iff.mp f3
    split at f4 <;> simp [laws_FnExactAdd18.j1] at f4
  | succ k2 =>
   split at f3
   ·simp [laws_FnExactAdd18.j1] at f3
   rename_i nm
   obtain ⟨b, e11, f4⟩ := Option.bind_eq_some_iff.mp f3
   clear f3
   split at f4
   rotate_left
   ·simp [laws_FnExactAdd18.j1] at f4
   rename_i hb
   subst hb
   rw [laws_FnExactAdd18.j1] at f4
   split at f4
   ·simp at f4
   obtain ⟨⟨q, T3, L3, C3⟩, e12, f5⟩ := Option.bind_eq_some_iff.mp f4
   clear f4
   obtain ⟨u, e13, f6⟩ := Option.bind_eq_some_iff.mp f5
   clear f5
   split at f6
   ·simp at f6
   rename_i nq
   split at f6
   rotate_left
   ·simp at f6
   rename_i hu
   simp only at hu
   subst hu
   obtain ⟨⟨Ty, Ly, Cy⟩, e14, f7⟩ := Option.bind_eq_some_iff.mp f6
   clear f6
   obtain ⟨bt, e15, f8⟩ := Option.bind_eq_some_iff.mp f7
   clear f7
   obtain rfl := Option.some.inj (e2.symm.trans e15)
   obtain ⟨⟨T4, L4, C4, o4⟩, e16, f9⟩ := Option.bind_eq_some_iff.mp f8
   clear f8
   obtain ⟨b, e17, f10⟩ := Option.bind_eq_some_iff.mp f9
   clear f9
   split at f10
   rotate_left
   ·exact absurd (j2_true f10).1 (by simp)
   rename_i hb
   subst hb
   obtain ⟨ho, _, k3, e18⟩ := j2_true f10
   have ho' : o4 = o2 := by simpa using ho
   subst ho'
   exact ⟨_, _, _, _, _, _, _, _, _, _, _, _, _, _, _, _, _, _, _, _, _, _, _, _, _, _, _, _, _, _, _, _, _, ns, e1, e2, e3, e6, e7, e8, e9, e10, nm, e11, e12, e13, nq, e14, e16, e17, e18⟩
def laws_FnExactAdd18.T5 : Bool × List (List Nat × List Nat) := (true, [([], []), ([0], [0]), ([], []), ([2, 1], [2]), ([1, 3, 3], [1, 3]), ([4], [4]), ([5], [5]), ([5], [5]), ([], []), ([8, 6, 4, 0, 1, 2, 3, 4, 5, 6, 8], [6, 8]), ([7, 9, 0, 1, 2, 3, 4, 5, 6, 7, 8, 9], [7])])
def laws_FnExactAdd18.B5 : List Nat := [0, 1, 0, 7, 15, 31, 63, 63, 0, 383, 1023]
theorem laws_FnExactAdd18.tab5 : rtab .any (opsOf Try.f8 5) = laws_FnExactAdd18.T5 := by kernel_rfl
theorem laws_FnExactAdd18.bits5 : waitsOk laws_FnExactAdd18.T5.2 laws_FnExactAdd18.B5 = true := by kernel_rfl
def laws_FnExactAdd18.T7 : Bool × List (List Nat × List Nat) := (true, [([], []), ([], []), ([1], [1]), ([0, 2, 2], [0, 2]), ([3], [3]), ([4], [4]), ([4], [4]), ([], []), ([7, 5, 3, 0, 1, 2, 3, 4, 5, 7], [5, 7]), ([6, 8, 0, 1, 2, 3, 4, 5, 6, 7, 8], [6])])
def laws_FnExactAdd18.B7 : List Nat := [0, 0, 2, 7, 15, 31, 31, 0, 191, 511]
theorem laws_FnExactAdd18.tab7 : rtab .any (opsOf Try.f8 7) = laws_FnExactAdd18.T7 := by kernel_rfl
theorem laws_FnExactAdd18.bits7 : waitsOk laws_FnExactAdd18.T7.2 laws_FnExactAdd18.B7 = true := by kernel_rfl
def laws_FnExactAdd18.T24 : Bool × List (List Nat × List Nat) := (true, [([], []), ([0], [0]), ([], []), ([2, 1], [2]), ([1, 3, 3], [1, 3]), ([4], [4]), ([5], [5]), ([5], [5]), ([], []), ([8, 6, 4, 0, 1, 2, 3, 4, 5, 6, 8], [6, 8]), ([7, 9, 0, 1, 2, 3, 4, 5, 6, 7, 8, 9], [7])])
def laws_FnExactAdd18.B24 : List Nat := [0, 1, 0, 7, 15, 31, 63, 63, 0, 383, 1023]
theorem laws_FnExactAdd18.tab24 : rtab .any (opsOf Try.f8 24) = laws_FnExactAdd18.T24 := by kernel_rfl
theorem laws_FnExactAdd18.bits24 : waitsOk laws_FnExactAdd18.T24.2 laws_FnExactAdd18.B24 = true := by kernel_rfl

/-- What stands from the start of the law on: the two boxes it was given. -/
structure Lw (w W : World) (gB gT : Nat) (A0 : Option Addr) (c0 : Nat) (l0 : List S54) (A1 : Option Addr) (c1 : Nat) (l1 : List Int) (A2 : Option Addr) (c2 : Nat) (l2 : List Int) (a0 a1 a2 : Int) : Prop where
 hB : W.heap[gB]? = some (.cells #[.slice A0 l0.length c0, .slice A1 l1.length c1, .slice A2 l2.length c2] 25 (0, 0))
 hT : W.heap[gT]? = some (.cells #[.int .i64 a0, .int .i64 a1, .int .i64 a2] 54 (0, 0))
 i0 : Kd.C k54 w A0 l0.length l0
 i1 : Kd.C (Kd.int .i64) w A1 l1.length l1
 i2 : Kd.C (Kd.int .i64) w A2 l2.length l2
 bel : Below w.heap.size w W
theorem Lw.below {w W W' : World} {gB gT : Nat} {A0 A1 A2 : Option Addr} {c0 c1 c2 : Nat} {l0 : List S54} {l1 l2 : List Int} {a0 a1 a2 : Int} (h : Lw w W gB gT A0 c0 l0 A1 c1 l1 A2 c2 l2 a0 a1 a2) (hB : Below W.heap.size W W') : Lw w W' gB gT A0 c0 l0 A1 c1 l1 A2 c2 l2 a0 a1 a2 :=
 ⟨blk_below h.hB hB, blk_below h.hT hB, h.i0, h.i1, h.i2, below_step h.bel hB⟩
section
variable {w W : World} {gB gT : Nat} {A0 A1 A2 : Option Addr} {c0 c1 c2 : Nat} {l0 : List S54} {l1 l2 : List Int} {a0 a1 a2 : Int}
theorem Lw.r0 (h : Lw w W gB gT A0 c0 l0 A1 c1 l1 A2 c2 l2 a0 a1 a2) : Kd.C k54 W A0 l0.length l0 := Kd.C_below h.i0 h.bel
theorem Lw.r1 (h : Lw w W gB gT A0 c0 l0 A1 c1 l1 A2 c2 l2 a0 a1 a2) : Kd.C (Kd.int .i64) W A1 l1.length l1 := Kd.C_below h.i1 h.bel
theorem Lw.r2 (h : Lw w W gB gT A0 c0 l0 A1 c1 l1 A2 c2 l2 a0 a1 a2) : Kd.C (Kd.int .i64) W A2 l2.length l2 := Kd.C_below h.i2 h.bel
end
theorem Bk.apart {W W' : World} {base : Nat} {uT uL uC vT vL vC : Value} {T T' : List S50} {L C L' C' : List Int} (h : Bk W base uT uL uC T L C) (h' : Bk W' W.heap.size vT vL vC T' L' C') : ∀ k, bkOwn uT uL uC k → ¬ bkOwn vT vL vC k :=
 fun _ h1 h2 => Nat.not_lt_of_le (h'.ge h2) (h.lt h1)
theorem store_bk {W : World} {g base : Nat} {vT vL vC x y z : Value} {T : List S50} {L C : List Int} (h : Bk W base vT vL vC T L C) (hG : W.heap[g]? = some (.cells #[.slice none 0 0, .slice none 0 0, .slice none 0 0] 29 (0, 0))) : Bk (((W.setCell ⟨g, 0, none⟩ x).setCell ⟨g, 1, none⟩ y).setCell ⟨g, 2, none⟩ z) base vT vL vC T L C := by
 have P1 := blk_put hG 0 x (cs' := #[x, .slice none 0 0, .slice none 0 0]) rfl
 have P2 := blk_put P1 1 y (cs' := #[x, y, .slice none 0 0]) rfl
 exact ((h.set hG x).set P1 y).set P2 z
theorem store_box {W : World} {g b : Nat} {x y z : Value} {cs : Array Value} {t : TypeId} (h : W.heap[b]? = some (.cells cs t (0, 0))) (n : b ≠ g) : (((W.setCell ⟨g, 0, none⟩ x).setCell ⟨g, 1, none⟩ y).setCell ⟨g, 2, none⟩ z).heap[b]? = some (.cells cs t (0, 0)) := blk_far (blk_far (blk_far h n _) n _) n _
theorem box_ne {W : World} {a b : Nat} {x y : Array Value} {s t : TypeId} (h1 : W.heap[a]? = some (.cells x s (0, 0))) (h2 : W.heap[b]? = some (.cells y t (0, 0))) (hne : s ≠ t) : a ≠ b := by
 rintro rfl
 have h := h1.symm.trans h2
 simp only [Option.some.injEq, Obj.cells.injEq] at h
 exact hne h.2.1
theorem law_store {w W : World} {gB gT g : Nat} {A0 A1 A2 : Option Addr} {c0 c1 c2 : Nat} {l0 : List S54} {l1 l2 : List Int} {a0 a1 a2 : Int} {base : Nat} {vT vL vC : Value} {T : List S50} {L C : List Int} (hX : Lw w W gB gT A0 c0 l0 A1 c1 l1 A2 c2 l2 a0 a1 a2) (hR : Bk W base vT vL vC T L C) (hG : W.heap[g]? = some (.cells #[.slice none 0 0, .slice none 0 0, .slice none 0 0] 29 (0, 0))) (hge : w.heap.size ≤ g) :
  Lw w (((W.setCell ⟨g, 0, none⟩ vT).setCell ⟨g, 1, none⟩ vL).setCell ⟨g, 2, none⟩ vC) gB gT A0 c0 l0 A1 c1 l1 A2 c2 l2 a0 a1 a2 ∧ Bk (((W.setCell ⟨g, 0, none⟩ vT).setCell ⟨g, 1, none⟩ vL).setCell ⟨g, 2, none⟩ vC) base vT vL vC T L C ∧ (((W.setCell ⟨g, 0, none⟩ vT).setCell ⟨g, 1, none⟩ vL).setCell ⟨g, 2, none⟩ vC).heap[g]? = some (.cells #[vT, vL, vC] 29 (0, 0)) := by
 have P1 := blk_put hG 0 vT (cs' := #[vT, .slice none 0 0, .slice none 0 0]) rfl
 have P2 := blk_put P1 1 vL (cs' := #[vT, vL, .slice none 0 0]) rfl
 have P3 := blk_put P2 2 vC (cs' := #[vT, vL, vC]) rfl
 have nB := box_ne hX.hB hG (by decide)
 have nT := box_ne hX.hT hG (by decide)
 have b3 := below_set (v := vC) (j := 2) (below_set (v := vL) (j := 1) (below_set (v := vT) (j := 0) hX.bel hge) hge) hge
 exact ⟨⟨blk_far (blk_far (blk_far hX.hB nB _) nB _) nB _, blk_far (blk_far (blk_far hX.hT nT _) nT _) nT _, hX.i0, hX.i1, hX.i2, b3⟩, ((hR.set hG vT).set P1 vL).set P2 vC, P3⟩
theorem Lw.kept {w W W' : World} {gB gT : Nat} {A0 A1 A2 : Option Addr} {c0 c1 c2 : Nat} {l0 : List S54} {l1 l2 : List Int} {a0 a1 a2 : Int} {base : Nat} {vT vL vC : Value} {T : List S50} {L C : List Int} (h : Lw w W gB gT A0 c0 l0 A1 c1 l1 A2 c2 l2 a0 a1 a2) (hS : Bk W base vT vL vC T L C) (hb : Below w.heap.size w W') (hk : Kept W W' (bkOwn vT vL vC)) : Lw w W' gB gT A0 c0 l0 A1 c1 l1 A2 c2 l2 a0 a1 a2 :=
 ⟨blk_kept h.hB hk (hS.box h.hB (by decide)), blk_kept h.hT hk (hS.box h.hT (by decide)), h.i0, h.i1, h.i2, hb⟩
theorem Bk.marked {W W' : World} {base : Nat} {vT vL vC : Value} {T T' : List S50} {L C L' C' : List Int} {okT okL okC : Nat → Prop} (h : Bk W base vT vL vC T L C) (hT : Kd.R k50 50 W' base okT vT T') (hL : Kd.R (Kd.int .i64) 3 W' base okL vL L') (hC : Kd.R (Kd.int .i64) 3 W' base okC vC C') : Bk W' base vT vL vC T' L' C' := ⟨R_selfT hT, R_selfI hL, R_selfI hC, h.ne⟩
theorem Bk.ne' {W : World} {base : Nat} {vT vL vC : Value} {T : List S50} {L C : List Int} (h : Bk W base vT vL vC T L C) : ∀ k, some k = vC.ownBlock → ¬ some k = vL.ownBlock := fun k h1 h2 => h.ne k h2 h1
theorem slice_len {A A' : Option Addr} {n c n' c' : Nat} (h : (Value.slice A n c) = .slice A' n' c') : n = n' := by injection h
set_option maxHeartbeats 1000000 in
set_option maxRecDepth 100000 in
theorem laws_FnExactAdd18.yes (k : Nat) (A0_0 : Option Addr) (c0_0 : Nat) (l0_0 : List (S54)) (A0_1 : Option Addr) (c0_1 : Nat) (l0_1 : List Int) (A0_2 : Option Addr) (c0_2 : Nat) (l0_2 : List Int) (a1_0 : Int) (a1_1 : Int) (a1_2 : Int) (w : World) (hr0_0 : Kd.C k54 w A0_0 l0_0.length l0_0) (hc0_0 : l0_0.length ≤ c0_0) (hr0_1 : Kd.C (Kd.int .i64) w A0_1 l0_1.length l0_1) (hc0_1 : l0_1.length ≤ c0_1) (hr0_2 : Kd.C (Kd.int .i64) w A0_2 l0_2.length l0_2) (hc0_2 : l0_2.length ≤ c0_2) (h : laws_FnExactAdd18.f k l0_0 l0_1 l0_2 a1_0 a1_1 a1_2 = some true) :
  Calls Try.prog 8 #[.agg #[.slice A0_0 l0_0.length c0_0, .slice A0_1 l0_1.length c0_1, .slice A0_2 l0_2.length c0_2], .agg #[.int .i64 a1_0, .int .i64 a1_1, .int .i64 a1_2]] w fun e w' => e = .returned (.bool true) ∧ Below w.heap.size w w' := by
 have hu25 := Try.underlying25
 have hu54 := Try.underlying54
 have hu29 := Try.underlying29
 obtain ⟨s, es, hh⟩ := law_facts h
 clear h
 have es := Aside0.mk es
 have hh := Aside0.mk hh
 have hc0 := Aside0.mk hc0_0
 have hc1 := Aside0.mk hc0_1
 have hc2 := Aside0.mk hc0_2
 have hr0 := Aside0.mk hr0_0
 have hr1 := Aside0.mk hr0_1
 have hr2 := Aside0.mk hr0_2
 clear hc0_0 hc0_1 hc0_2 hr0_0 hr0_1 hr0_2
 go_enter Try.func8, Try.ntmps8
 go_upto_region 3 with (first
  | ((with_reducible refine gate_dst (N := 2) rfl ?_); refine box_event ?hg (N := 2) ?hd (cs := #[.slice A0_0 l0_0.length c0_0, .slice A0_1 l0_1.length c0_1, .slice A0_2 l0_2.length c0_2]) (t := 25) ?hr ?_; (case hd => rfl); (case hg => rfl); (case hr => first | (go_simp; done) | (go_simp; rfl)); intro gB e10 w1 h1 k1; clear e10)
  | ((with_reducible refine gate_dst (N := 3) rfl ?_); refine box_event ?hg (N := 3) ?hd (cs := #[.int .i64 a1_0, .int .i64 a1_1, .int .i64 a1_2]) (t := 54) ?hr ?_; (case hd => rfl); (case hg => rfl); (case hr => first | (go_simp; done) | (go_simp; rfl)); intro gT e20 w2 h2 k2; clear e20; have hX : Lw w w2 gB gT A0_0 c0_0 l0_0 A0_1 c0_1 l0_1 A0_2 c0_2 l0_2 a1_0 a1_1 a1_2 := ⟨blk_below h1 k2, h2, hr0.out, hr1.out, hr2.out, below_step k1 k2⟩; obtain ⟨q0, q1, q2⟩ := cells3 hX.hB; clear h1 k1 h2 k2)
  | (go_at_call 9; (with_reducible refine (laws_szBook.calls _ _ l0_0 _ _ l0_1 _ _ l0_2 1048576 s _ hX.r0 hc0.out hX.r1 hc1.out hX.r2 hc2.out es.out).mono ?_); rintro e w3 ⟨rfl, kf⟩; replace hX := hX.below kf; clear kf q0 q1 q2))
 clear hr0 hr1 hr2
 obtain ⟨q0, q1, q2⟩ := cells3 hX.hB
 obtain ⟨t0', t1', t2'⟩ := cells3 hX.hT
 by_cases ns : s < 0
 ·have c0 : decide (s < 0) = true := decide_eq_true ns
  go_wp2
  go_ret
  exact ⟨rfl, hX.bel⟩
 have c0 : decide (s < 0) = false := decide_eq_false ns
 obtain ⟨k1, k2, k3, T, L, C, t0, t1, t2, T1, L1, C1, o, T2, L2, C2, Tx, Lx, Cx, m, Tm, Lm, Cm, q, T3, L3, C3, Ty, Ly, Cy, T4, L4, C4, F0⟩ := hh.out.resolve_left ns
 have F := Aside0.mk F0
 clear F0 hh ns
 go_wp2
 refine start_ (n := 11) (S := fun w' => Lw w w' gB gT A0_0 c0_0 l0_0 A0_1 c0_1 l0_1 A0_2 c0_2 l0_2 a1_0 a1_1 a1_2) (ds := []) #[false, false, false, false, false, false, false, false, false, false, false] (by kernel_rfl) rfl rfl (hX.below (below_drew1 (Below.refl _ _))) (fun hX => ?_)
 refine with_tabW laws_FnExactAdd18.tab5 laws_FnExactAdd18.bits5 (fun HT_ HW_ => ?_)
 generalize w3.drew = W at hX ⊢
 refine take_ (i := 0) (N := some 22) (v := ?_) (a' := ?_) #[true, false, false, false, false, false, false, false, false, false, false] rfl rfl (take_ofW HT_.out HW_.out (by kernel_rfl)) (fun _ _ _ h => h) (Or.inl ⟨by rfl, ?_⟩) hX ?_ ?_
 rotate_left
 ·intro w' hS
  obtain ⟨s0, s1, s2⟩ := cells3 hS.hB
  obtain ⟨s3, s4, s5⟩ := cells3 hS.hT
  go_simp
  with_reducible rfl
 rotate_left
 ·simp only [Act.put, List.setIfInBounds_toArray, List.set_cons_zero, List.set_cons_succ, i64_w, i32_w]
  rfl
 refine take_ (i := 2) (N := some 24) (v := ?_) (a' := ?_) #[true, false, true, false, false, false, false, false, false, false, false] rfl rfl (take_ofW HT_.out HW_.out (by kernel_rfl)) (fun _ _ _ h => h) (Or.inl ⟨by rfl, ?_⟩) hX ?_ ?_
 rotate_left
 ·intro w' hS
  obtain ⟨s0, s1, s2⟩ := cells3 hS.hB
  obtain ⟨s3, s4, s5⟩ := cells3 hS.hT
  go_simp
  with_reducible rfl
 rotate_left
 ·simp only [Act.put, List.setIfInBounds_toArray, List.set_cons_zero, List.set_cons_succ, i64_w, i32_w]
  rfl
 refine join_ (σ := Value × Value × Value × Value × Value × Value × Nat) 2 #[true, true, true, true, true, true, true, true, true, false, false] (fun s_ => [(23, .agg #[s_.1, s_.2.1, s_.2.2.1]), (25, .agg #[.int .i64 t0, .int .i64 t1, .int .i64 t2]), (26, .tuple #[.agg #[s_.2.2.2.1, s_.2.2.2.2.1, s_.2.2.2.2.2.1], .bool o]), (6, .pointer (some ⟨s_.2.2.2.2.2.2, 0, none⟩)), (21, .tuple #[.agg #[s_.2.2.2.1, s_.2.2.2.2.1, s_.2.2.2.2.2.1], .bool o]), (27, .agg #[s_.2.2.2.1, s_.2.2.2.2.1, s_.2.2.2.2.2.1]), (28, .bool o)]) (fun s_ w' => (Lw w w' gB gT A0_0 c0_0 l0_0 A0_1 c0_1 l0_1 A0_2 c0_2 l0_2 a1_0 a1_1 a1_2) ∧ Bk w' w.heap.size s_.2.2.2.1 s_.2.2.2.2.1 s_.2.2.2.2.2.1 T1 L1 C1 ∧ w'.heap[s_.2.2.2.2.2.2]? = some (.cells #[.slice none 0 0, .slice none 0 0, .slice none 0 0] 29 (0, 0)) ∧ w.heap.size ≤ s_.2.2.2.2.2.2) ?_ ?_
 rotate_left
 ·intro hCont
  refine two_ (i := 1) (j := 8) (Ni := some 23) (Nj := some 6) #[true, true, true, false, false, false, false, false, false, false, false] #[true, false, true, false, false, false, false, false, true, false, false] rfl rfl rfl rfl (two_of HT_.out (by kernel_rfl)) (by decide) (by decide) (fun K hK => ?_) (fun K hK => ?_)
  ·skip
   refine goes_ Try.func11 (by kernel_rfl) rfl #[.agg #[.slice A0_0 l0_0.length c0_0, .slice A0_1 l0_1.length c0_1, .slice A0_2 l0_2.length c0_2]] (by rfl) rfl rfl ar ?_
   with_reducible refine (laws_toBook.calls k _ _ l0_0 _ _ l0_1 _ _ l0_2 T L C _ hX.r0 hc0.out hX.r1 hc1.out hX.r2 hc2.out F.out.toB).mono ?_
   rintro e W1 ⟨v0, v1, v2, rfl, o0, o1, o2, kf⟩
   refine ⟨_, rfl, ?_⟩
   obtain ⟨AT, cT, eT⟩ := Kd.R_slice o0
   subst eT
   obtain ⟨AL, cL, eL⟩ := Kd.R_slice o1
   subst eL
   obtain ⟨AC, cC, eC⟩ := Kd.R_slice o2
   subst eC
   have hA := Bk.of o0 o1 o2
   clear o0 o1 o2
   replace hX := hX.below kf
   clear kf
   refine hK.out _ _ hX (fun _ => ?_)
   clear hK K
   refine norm_ (a' := ?_) ?_ ?_
   rotate_left
   ·show Act.put _ (some 23) _ = _
    simp only [Act.put, List.setIfInBounds_toArray, List.set_cons_zero, List.set_cons_succ, i64_w, i32_w]
    rfl
   refine two_ (i := 3) (j := 8) (Ni := some 25) (Nj := some 6) #[true, true, true, true, false, false, false, false, false, false, false] #[true, true, true, false, false, false, false, false, true, false, false] rfl rfl rfl rfl (two_of HT_.out (by kernel_rfl)) (by decide) (by decide) (fun K hK => ?_) (fun K hK => ?_)
   ·skip
    refine goes_ Try.func33 (by kernel_rfl) rfl #[.agg #[.int .i64 a1_0, .int .i64 a1_1, .int .i64 a1_2]] (by rfl) rfl rfl ar ?_
    with_reducible refine (laws_toTalk.calls a1_0 a1_1 a1_2 t0 t1 t2 _ F.out.toT).mono ?_
    rintro e W2 ⟨rfl, kf⟩
    refine ⟨_, rfl, ?_⟩
    replace hX := hX.below kf
    replace hA := hA.below kf
    clear kf
    refine hK.out _ _ hX (fun _ => ?_)
    clear hK K
    refine norm_ (a' := ?_) ?_ ?_
    rotate_left
    ·show Act.put _ (some 25) _ = _
     simp only [Act.put, List.setIfInBounds_toArray, List.set_cons_zero, List.set_cons_succ, i64_w, i32_w]
     rfl
    refine two_ (i := 4) (j := 8) (Ni := some 26) (Nj := some 6) #[true, true, true, true, true, false, false, false, false, false, false] #[true, true, true, true, false, false, false, false, true, false, false] rfl rfl rfl rfl (two_of HT_.out (by kernel_rfl)) (by decide) (by decide) (fun K hK => ?_) (fun K hK => ?_)
    ·skip
     refine goes_ Try.func32 (by kernel_rfl) rfl #[.agg #[.slice AT T.length cT, .slice AL L.length cL, .slice AC C.length cC], .agg #[.int .i64 t0, .int .i64 t1, .int .i64 t2]] (by rfl) rfl rfl ar ?_
     with_reducible refine (spec_Add18.calls k _ _ T _ _ L _ _ C t0 t1 t2 T1 L1 C1 o _ (Kd.R_reads' hA.oT).2.2 (Kd.R_reads' hA.oT).2.1 (Kd.R_reads' hA.oL).2.2 (Kd.R_reads' hA.oL).2.1 (Kd.R_reads' hA.oC).2.2 (Kd.R_reads' hA.oC).2.1 F.out.sp).mono ?_
     rintro e W3 ⟨v3, v4, v5, rfl, o0, o1, o2, kf⟩
     refine ⟨_, rfl, ?_⟩
     have hR := (Bk.of o0 o1 o2).lower (below_size hX.bel)
     clear o0 o1 o2
     replace hX := hX.below kf
     replace hA := hA.below kf
     clear kf
     refine hK.out _ _ hX (fun _ => ?_)
     clear hK K
     refine norm_ (a' := ?_) ?_ ?_
     rotate_left
     ·show Act.put _ (some 26) _ = _
      simp only [Act.put, List.setIfInBounds_toArray, List.set_cons_zero, List.set_cons_succ, i64_w, i32_w]
      rfl
     refine pure_ (i := 5) (N := some 21) (v := ?_) (a' := ?_) #[true, true, true, true, true, true, false, false, false, false, false] rfl rfl (any_of HT_.out (by kernel_rfl)) (fun _ _ _ h => h) (Or.inl ⟨by rfl, ?_⟩) ?_ ?_
     rotate_left
     ·intro w'
      go_simp
      with_reducible rfl
     rotate_left
     ·simp only [Act.put, List.setIfInBounds_toArray, List.set_cons_zero, List.set_cons_succ, i64_w, i32_w]
      rfl
     refine pure_ (i := 6) (N := some 27) (v := ?_) (a' := ?_) #[true, true, true, true, true, true, true, false, false, false, false] rfl rfl (any_of HT_.out (by kernel_rfl)) (fun _ _ _ h => h) (Or.inl ⟨by rfl, ?_⟩) ?_ ?_
     rotate_left
     ·intro w'
      go_simp
      with_reducible rfl
     rotate_left
     ·simp only [Act.put, List.setIfInBounds_toArray, List.set_cons_zero, List.set_cons_succ, i64_w, i32_w]
      rfl
     refine pure_ (i := 7) (N := some 28) (v := ?_) (a' := ?_) #[true, true, true, true, true, true, true, true, false, false, false] rfl rfl (any_of HT_.out (by kernel_rfl)) (fun _ _ _ h => h) (Or.inl ⟨by rfl, ?_⟩) ?_ ?_
     rotate_left
     ·intro w'
      go_simp
      with_reducible rfl
     rotate_left
     ·simp only [Act.put, List.setIfInBounds_toArray, List.set_cons_zero, List.set_cons_succ, i64_w, i32_w]
      rfl
     refine one_ (i := 8) (N := some 6) #[true, true, true, true, true, true, true, true, true, false, false] rfl rfl (one_of HT_.out (by kernel_rfl)) (by decide) (fun K hK => ?_)
     refine box_step ?hg (N := 6) ?hd (cs := #[.slice none 0 0, .slice none 0 0, .slice none 0 0]) (t := 29) ?hr ?_; (case hd => rfl); (case hg => rfl); (case hr => first | (go_simp; done) | (go_simp; rfl))
     intro gb hg WB hG kf
     have hge : w.heap.size ≤ gb := by rw [hg]; exact below_size hX.bel
     clear hg
     replace hX := hX.below kf
     replace hA := hA.below kf
     replace hR := hR.below kf
     clear kf
     refine hK.out _ _ hX (fun _ => ?_)
     clear hK K
     refine norm_ (a' := ?_) ?_ ?_
     rotate_left
     ·show Act.put _ (some 6) _ = _
      simp only [Act.put, List.setIfInBounds_toArray, List.set_cons_zero, List.set_cons_succ, i64_w, i32_w]
      rfl
     exact norm_ (by simp only [putAll, Act.put, List.setIfInBounds_toArray, List.set_cons_zero, List.set_cons_succ]) (hCont (.slice AT T.length cT, .slice AL L.length cL, .slice AC C.length cC, v3, v4, v5, gb) _ ⟨hX, hR, hG, hge⟩)
    ·skip
     refine box_step ?hg (N := 6) ?hd (cs := #[.slice none 0 0, .slice none 0 0, .slice none 0 0]) (t := 29) ?hr ?_; (case hd => rfl); (case hg => rfl); (case hr => first | (go_simp; done) | (go_simp; rfl))
     intro gb hg WB hG kf
     have hge : w.heap.size ≤ gb := by rw [hg]; exact below_size hX.bel
     clear hg
     replace hX := hX.below kf
     replace hA := hA.below kf
     clear kf
     refine hK.out _ _ hX (fun _ => ?_)
     clear hK K
     refine norm_ (a' := ?_) ?_ ?_
     rotate_left
     ·show Act.put _ (some 6) _ = _
      simp only [Act.put, List.setIfInBounds_toArray, List.set_cons_zero, List.set_cons_succ, i64_w, i32_w]
      rfl
     refine one_ (i := 4) (N := some 26) #[true, true, true, true, true, false, false, false, true, false, false] rfl rfl (one_of HT_.out (by kernel_rfl)) (by decide) (fun K hK => ?_)
     refine goes_ Try.func32 (by kernel_rfl) rfl #[.agg #[.slice AT T.length cT, .slice AL L.length cL, .slice AC C.length cC], .agg #[.int .i64 t0, .int .i64 t1, .int .i64 t2]] (by rfl) rfl rfl ar ?_
     with_reducible refine (spec_Add18.calls k _ _ T _ _ L _ _ C t0 t1 t2 T1 L1 C1 o _ (Kd.R_reads' hA.oT).2.2 (Kd.R_reads' hA.oT).2.1 (Kd.R_reads' hA.oL).2.2 (Kd.R_reads' hA.oL).2.1 (Kd.R_reads' hA.oC).2.2 (Kd.R_reads' hA.oC).2.1 F.out.sp).mono ?_
     rintro e W3 ⟨v3, v4, v5, rfl, o0, o1, o2, kf⟩
     refine ⟨_, rfl, ?_⟩
     have hR := (Bk.of o0 o1 o2).lower (below_size hX.bel)
     clear o0 o1 o2
     replace hX := hX.below kf
     replace hG := blk_below hG kf
     replace hA := hA.below kf
     clear kf
     refine hK.out _ _ hX (fun _ => ?_)
     clear hK K
     refine norm_ (a' := ?_) ?_ ?_
     rotate_left
     ·show Act.put _ (some 26) _ = _
      simp only [Act.put, List.setIfInBounds_toArray, List.set_cons_zero, List.set_cons_succ, i64_w, i32_w]
      rfl
     refine pure_ (i := 5) (N := some 21) (v := ?_) (a' := ?_) #[true, true, true, true, true, true, false, false, true, false, false] rfl rfl (any_of HT_.out (by kernel_rfl)) (fun _ _ _ h => h) (Or.inl ⟨by rfl, ?_⟩) ?_ ?_
     rotate_left
     ·intro w'
      go_simp
      with_reducible rfl
     rotate_left
     ·simp only [Act.put, List.setIfInBounds_toArray, List.set_cons_zero, List.set_cons_succ, i64_w, i32_w]
      rfl
     refine pure_ (i := 6) (N := some 27) (v := ?_) (a' := ?_) #[true, true, true, true, true, true, true, false, true, false, false] rfl rfl (any_of HT_.out (by kernel_rfl)) (fun _ _ _ h => h) (Or.inl ⟨by rfl, ?_⟩) ?_ ?_
     rotate_left
     ·intro w'
      go_simp
      with_reducible rfl
     rotate_left
     ·simp only [Act.put, List.setIfInBounds_toArray, List.set_cons_zero, List.set_cons_succ, i64_w, i32_w]
      rfl
     refine pure_ (i := 7) (N := some 28) (v := ?_) (a' := ?_) #[true, true, true, true, true, true, true, true, true, false, false] rfl rfl (any_of HT_.out (by kernel_rfl)) (fun _ _ _ h => h) (Or.inl ⟨by rfl, ?_⟩) ?_ ?_
     rotate_left
     ·intro w'
      go_simp
      with_reducible rfl
     rotate_left
     ·simp only [Act.put, List.setIfInBounds_toArray, List.set_cons_zero, List.set_cons_succ, i64_w, i32_w]
      rfl
     exact norm_ (by simp only [putAll, Act.put, List.setIfInBounds_toArray, List.set_cons_zero, List.set_cons_succ]) (hCont (.slice AT T.length cT, .slice AL L.length cL, .slice AC C.length cC, v3, v4, v5, gb) _ ⟨hX, hR, hG, hge⟩)
   ·skip
    refine box_step ?hg (N := 6) ?hd (cs := #[.slice none 0 0, .slice none 0 0, .slice none 0 0]) (t := 29) ?hr ?_; (case hd => rfl); (case hg => rfl); (case hr => first | (go_simp; done) | (go_simp; rfl))
    intro gb hg WB hG kf
    have hge : w.heap.size ≤ gb := by rw [hg]; exact below_size hX.bel
    clear hg
    replace hX := hX.below kf
    replace hA := hA.below kf
    clear kf
    refine hK.out _ _ hX (fun _ => ?_)
    clear hK K
    refine norm_ (a' := ?_) ?_ ?_
    rotate_left
    ·show Act.put _ (some 6) _ = _
     simp only [Act.put, List.setIfInBounds_toArray, List.set_cons_zero, List.set_cons_succ, i64_w, i32_w]
     rfl
    refine one_ (i := 3) (N := some 25) #[true, true, true, true, false, false, false, false, true, false, false] rfl rfl (one_of HT_.out (by kernel_rfl)) (by decide) (fun K hK => ?_)
    refine goes_ Try.func33 (by kernel_rfl) rfl #[.agg #[.int .i64 a1_0, .int .i64 a1_1, .int .i64 a1_2]] (by rfl) rfl rfl ar ?_
    with_reducible refine (laws_toTalk.calls a1_0 a1_1 a1_2 t0 t1 t2 _ F.out.toT).mono ?_
    rintro e W2 ⟨rfl, kf⟩
    refine ⟨_, rfl, ?_⟩
    replace hX := hX.below kf
    replace hG := blk_below hG kf
    replace hA := hA.below kf
    clear kf
    refine hK.out _ _ hX (fun _ => ?_)
    clear hK K
    refine norm_ (a' := ?_) ?_ ?_
    rotate_left
    ·show Act.put _ (some 25) _ = _
     simp only [Act.put, List.setIfInBounds_toArray, List.set_cons_zero, List.set_cons_succ, i64_w, i32_w]
     rfl
    refine one_ (i := 4) (N := some 26) #[true, true, true, true, true, false, false, false, true, false, false] rfl rfl (one_of HT_.out (by kernel_rfl)) (by decide) (fun K hK => ?_)
    refine goes_ Try.func32 (by kernel_rfl) rfl #[.agg #[.slice AT T.length cT, .slice AL L.length cL, .slice AC C.length cC], .agg #[.int .i64 t0, .int .i64 t1, .int .i64 t2]] (by rfl) rfl rfl ar ?_
    with_reducible refine (spec_Add18.calls k _ _ T _ _ L _ _ C t0 t1 t2 T1 L1 C1 o _ (Kd.R_reads' hA.oT).2.2 (Kd.R_reads' hA.oT).2.1 (Kd.R_reads' hA.oL).2.2 (Kd.R_reads' hA.oL).2.1 (Kd.R_reads' hA.oC).2.2 (Kd.R_reads' hA.oC).2.1 F.out.sp).mono ?_
    rintro e W3 ⟨v3, v4, v5, rfl, o0, o1, o2, kf⟩
    refine ⟨_, rfl, ?_⟩
    have hR := (Bk.of o0 o1 o2).lower (below_size hX.bel)
    clear o0 o1 o2
    replace hX := hX.below kf
    replace hG := blk_below hG kf
    replace hA := hA.below kf
    clear kf
    refine hK.out _ _ hX (fun _ => ?_)
    clear hK K
    refine norm_ (a' := ?_) ?_ ?_
    rotate_left
    ·show Act.put _ (some 26) _ = _
     simp only [Act.put, List.setIfInBounds_toArray, List.set_cons_zero, List.set_cons_succ, i64_w, i32_w]
     rfl
    refine pure_ (i := 5) (N := some 21) (v := ?_) (a' := ?_) #[true, true, true, true, true, true, false, false, true, false, false] rfl rfl (any_of HT_.out (by kernel_rfl)) (fun _ _ _ h => h) (Or.inl ⟨by rfl, ?_⟩) ?_ ?_
    rotate_left
    ·intro w'
     go_simp
     with_reducible rfl
    rotate_left
    ·simp only [Act.put, List.setIfInBounds_toArray, List.set_cons_zero, List.set_cons_succ, i64_w, i32_w]
     rfl
    refine pure_ (i := 6) (N := some 27) (v := ?_) (a' := ?_) #[true, true, true, true, true, true, true, false, true, false, false] rfl rfl (any_of HT_.out (by kernel_rfl)) (fun _ _ _ h => h) (Or.inl ⟨by rfl, ?_⟩) ?_ ?_
    rotate_left
    ·intro w'
     go_simp
     with_reducible rfl
    rotate_left
    ·simp only [Act.put, List.setIfInBounds_toArray, List.set_cons_zero, List.set_cons_succ, i64_w, i32_w]
     rfl
    refine pure_ (i := 7) (N := some 28) (v := ?_) (a' := ?_) #[true, true, true, true, true, true, true, true, true, false, false] rfl rfl (any_of HT_.out (by kernel_rfl)) (fun _ _ _ h => h) (Or.inl ⟨by rfl, ?_⟩) ?_ ?_
    rotate_left
    ·intro w'
     go_simp
     with_reducible rfl
    rotate_left
    ·simp only [Act.put, List.setIfInBounds_toArray, List.set_cons_zero, List.set_cons_succ, i64_w, i32_w]
     rfl
    exact norm_ (by simp only [putAll, Act.put, List.setIfInBounds_toArray, List.set_cons_zero, List.set_cons_succ]) (hCont (.slice AT T.length cT, .slice AL L.length cL, .slice AC C.length cC, v3, v4, v5, gb) _ ⟨hX, hR, hG, hge⟩)
  ·skip
   refine box_step ?hg (N := 6) ?hd (cs := #[.slice none 0 0, .slice none 0 0, .slice none 0 0]) (t := 29) ?hr ?_; (case hd => rfl); (case hg => rfl); (case hr => first | (go_simp; done) | (go_simp; rfl))
   intro gb hg WB hG kf
   have hge : w.heap.size ≤ gb := by rw [hg]; exact below_size hX.bel
   clear hg
   replace hX := hX.below kf
   clear kf
   refine hK.out _ _ hX (fun _ => ?_)
   clear hK K
   refine norm_ (a' := ?_) ?_ ?_
   rotate_left
   ·show Act.put _ (some 6) _ = _
    simp only [Act.put, List.setIfInBounds_toArray, List.set_cons_zero, List.set_cons_succ, i64_w, i32_w]
    rfl
   refine one_ (i := 1) (N := some 23) #[true, true, true, false, false, false, false, false, true, false, false] rfl rfl (one_of HT_.out (by kernel_rfl)) (by decide) (fun K hK => ?_)
   refine goes_ Try.func11 (by kernel_rfl) rfl #[.agg #[.slice A0_0 l0_0.length c0_0, .slice A0_1 l0_1.length c0_1, .slice A0_2 l0_2.length c0_2]] (by rfl) rfl rfl ar ?_
   with_reducible refine (laws_toBook.calls k _ _ l0_0 _ _ l0_1 _ _ l0_2 T L C _ hX.r0 hc0.out hX.r1 hc1.out hX.r2 hc2.out F.out.toB).mono ?_
   rintro e W1 ⟨v0, v1, v2, rfl, o0, o1, o2, kf⟩
   refine ⟨_, rfl, ?_⟩
   obtain ⟨AT, cT, eT⟩ := Kd.R_slice o0
   subst eT
   obtain ⟨AL, cL, eL⟩ := Kd.R_slice o1
   subst eL
   obtain ⟨AC, cC, eC⟩ := Kd.R_slice o2
   subst eC
   have hA := Bk.of o0 o1 o2
   clear o0 o1 o2
   replace hX := hX.below kf
   replace hG := blk_below hG kf
   clear kf
   refine hK.out _ _ hX (fun _ => ?_)
   clear hK K
   refine norm_ (a' := ?_) ?_ ?_
   rotate_left
   ·show Act.put _ (some 23) _ = _
    simp only [Act.put, List.setIfInBounds_toArray, List.set_cons_zero, List.set_cons_succ, i64_w, i32_w]
    rfl
   refine one_ (i := 3) (N := some 25) #[true, true, true, true, false, false, false, false, true, false, false] rfl rfl (one_of HT_.out (by kernel_rfl)) (by decide) (fun K hK => ?_)
   refine goes_ Try.func33 (by kernel_rfl) rfl #[.agg #[.int .i64 a1_0, .int .i64 a1_1, .int .i64 a1_2]] (by rfl) rfl rfl ar ?_
   with_reducible refine (laws_toTalk.calls a1_0 a1_1 a1_2 t0 t1 t2 _ F.out.toT).mono ?_
   rintro e W2 ⟨rfl, kf⟩
   refine ⟨_, rfl, ?_⟩
   replace hX := hX.below kf
   replace hG := blk_below hG kf
   replace hA := hA.below kf
   clear kf
   refine hK.out _ _ hX (fun _ => ?_)
   clear hK K
   refine norm_ (a' := ?_) ?_ ?_
   rotate_left
   ·show Act.put _ (some 25) _ = _
    simp only [Act.put, List.setIfInBounds_toArray, List.set_cons_zero, List.set_cons_succ, i64_w, i32_w]
    rfl
   refine one_ (i := 4) (N := some 26) #[true, true, true, true, true, false, false, false, true, false, false] rfl rfl (one_of HT_.out (by kernel_rfl)) (by decide) (fun K hK => ?_)
   refine goes_ Try.func32 (by kernel_rfl) rfl #[.agg #[.slice AT T.length cT, .slice AL L.length cL, .slice AC C.length cC], .agg #[.int .i64 t0, .int .i64 t1, .int .i64 t2]] (by rfl) rfl rfl ar ?_
   with_reducible refine (spec_Add18.calls k _ _ T _ _ L _ _ C t0 t1 t2 T1 L1 C1 o _ (Kd.R_reads' hA.oT).2.2 (Kd.R_reads' hA.oT).2.1 (Kd.R_reads' hA.oL).2.2 (Kd.R_reads' hA.oL).2.1 (Kd.R_reads' hA.oC).2.2 (Kd.R_reads' hA.oC).2.1 F.out.sp).mono ?_
   rintro e W3 ⟨v3, v4, v5, rfl, o0, o1, o2, kf⟩
   refine ⟨_, rfl, ?_⟩
   have hR := (Bk.of o0 o1 o2).lower (below_size hX.bel)
   clear o0 o1 o2
   replace hX := hX.below kf
   replace hG := blk_below hG kf
   replace hA := hA.below kf
   clear kf
   refine hK.out _ _ hX (fun _ => ?_)
   clear hK K
   refine norm_ (a' := ?_) ?_ ?_
   rotate_left
   ·show Act.put _ (some 26) _ = _
    simp only [Act.put, List.setIfInBounds_toArray, List.set_cons_zero, List.set_cons_succ, i64_w, i32_w]
    rfl
   refine pure_ (i := 5) (N := some 21) (v := ?_) (a' := ?_) #[true, true, true, true, true, true, false, false, true, false, false] rfl rfl (any_of HT_.out (by kernel_rfl)) (fun _ _ _ h => h) (Or.inl ⟨by rfl, ?_⟩) ?_ ?_
   rotate_left
   ·intro w'
    go_simp
    with_reducible rfl
   rotate_left
   ·simp only [Act.put, List.setIfInBounds_toArray, List.set_cons_zero, List.set_cons_succ, i64_w, i32_w]
    rfl
   refine pure_ (i := 6) (N := some 27) (v := ?_) (a' := ?_) #[true, true, true, true, true, true, true, false, true, false, false] rfl rfl (any_of HT_.out (by kernel_rfl)) (fun _ _ _ h => h) (Or.inl ⟨by rfl, ?_⟩) ?_ ?_
   rotate_left
   ·intro w'
    go_simp
    with_reducible rfl
   rotate_left
   ·simp only [Act.put, List.setIfInBounds_toArray, List.set_cons_zero, List.set_cons_succ, i64_w, i32_w]
    rfl
   refine pure_ (i := 7) (N := some 28) (v := ?_) (a' := ?_) #[true, true, true, true, true, true, true, true, true, false, false] rfl rfl (any_of HT_.out (by kernel_rfl)) (fun _ _ _ h => h) (Or.inl ⟨by rfl, ?_⟩) ?_ ?_
   rotate_left
   ·intro w'
    go_simp
    with_reducible rfl
   rotate_left
   ·simp only [Act.put, List.setIfInBounds_toArray, List.set_cons_zero, List.set_cons_succ, i64_w, i32_w]
    rfl
   exact norm_ (by simp only [putAll, Act.put, List.setIfInBounds_toArray, List.set_cons_zero, List.set_cons_succ]) (hCont (.slice AT T.length cT, .slice AL L.length cL, .slice AC C.length cC, v3, v4, v5, gb) _ ⟨hX, hR, hG, hge⟩)
 rintro ⟨v0, v1, v2, v3, v4, v5, g6⟩ w5 ⟨hX, hR, hG, hge⟩
 obtain ⟨A1T, c1T, eT⟩ := Kd.R_slice hR.oT
 subst eT
 obtain ⟨A1L, c1L, eL⟩ := Kd.R_slice hR.oL
 subst eL
 obtain ⟨A1C, c1C, eC⟩ := Kd.R_slice hR.oC
 subst eC
 refine norm_ (a' := ?_) ?_ ?_
 rotate_left
 ·simp only [putAll, Act.put, List.setIfInBounds_toArray, List.set_cons_zero, List.set_cons_succ]
  rfl
 refine one_ (i := 9) (N := none) #[true, true, true, true, true, true, true, true, true, true, false] rfl rfl (one_of HT_.out (by kernel_rfl)) (by decide) (fun K hK => ?_)
 obtain ⟨q0, q1, q2⟩ := cells3 hG
 have z0 := blk_frozen hG 0
 have z1 := blk_frozen hG 1
 have z2 := blk_frozen hG 2
 refine skip_ (w1 := ?_) (by rfl) rfl ?_ ?_
 rotate_left
 ·go_simp
  rfl
 obtain ⟨hX, hR, hG6⟩ := law_store hX hR hG hge
 refine hK.out _ _ hX (fun _ => ?_)
 clear hK K hG q0 q1 q2 z0 z1 z2
 refine pure_ (i := 10) (N := some 7) (v := ?_) (a' := ?_) #[true, true, true, true, true, true, true, true, true, true, true] rfl rfl (any_of HT_.out (by kernel_rfl)) (fun _ _ _ h => h) (Or.inl ⟨by rfl, ?_⟩) ?_ ?_
 rotate_left
 ·intro w'
  go_simp
  with_reducible rfl
 rotate_left
 ·simp only [Act.put, List.setIfInBounds_toArray, List.set_cons_zero, List.set_cons_succ, i64_w, i32_w]
  rfl
 refine done_ (done_of HT_.out (by kernel_rfl)) ?_
 obtain ⟨q0, q1, q2⟩ := cells3 hX.hB
 go_wp2_with (first
  | (go_at_call 11; (with_reducible refine (laws_toBook.calls k _ _ l0_0 _ _ l0_1 _ _ l0_2 T L C _ hX.r0 hc0.out hX.r1 hc1.out hX.r2 hc2.out F.out.toB).mono ?_); rintro e w7 ⟨u0, u1, u2, rfl, o0, o1, o2, kf⟩; obtain ⟨A2T, c2T, eT⟩ := Kd.R_slice o0; subst eT; obtain ⟨A2L, c2L, eL⟩ := Kd.R_slice o1; subst eL; obtain ⟨A2C, c2C, eC⟩ := Kd.R_slice o2; subst eC; have hS := Bk.of o0 o1 o2; clear o0 o1 o2; have d1 := Bk.apart hR hS; replace hS := hS.lower (below_size hX.bel); replace hX := hX.below kf; replace hR := hR.below kf; replace hG6 := blk_below hG6 kf; clear kf q0 q1 q2)
  | ((with_reducible refine gate_dst (N := 8) rfl ?_); refine box_event ?hg (N := 8) ?hd (cs := #[.slice none 0 0, .slice none 0 0, .slice none 0 0]) (t := 29) ?hr ?_; (case hd => rfl); (case hg => rfl); (case hr => first | (go_simp; done) | (go_simp; rfl)); intro g8 hg w8 hG kf; have hge8 : w.heap.size ≤ g8 := by { rw [hg]; exact below_size hX.bel }; have n68 : g6 ≠ g8 := by { rw [hg]; exact Nat.ne_of_lt (blk_lt hG6) }; clear hg; replace hX := hX.below kf; replace hR := hR.below kf; replace hS := hS.below kf; replace hG6 := blk_below hG6 kf; clear kf; obtain ⟨q0, q1, q2⟩ := cells3 hG; have z0 := blk_frozen hG 0; have z1 := blk_frozen hG 1; have z2 := blk_frozen hG 2))
 replace hR := store_bk (x := .slice A2T T.length c2T) (y := .slice A2L L.length c2L) (z := .slice A2C C.length c2C) hR hG
 replace hG6 := store_box (x := .slice A2T T.length c2T) (y := .slice A2L L.length c2L) (z := .slice A2C C.length c2C) hG6 n68
 obtain ⟨hX, hS, hG8⟩ := law_store hX hS hG hge8
 clear hG q0 q1 q2 z0 z1 z2
 generalize (((w8.setCell ⟨g8, 0, none⟩ (.slice A2T T.length c2T)).setCell ⟨g8, 1, none⟩ (.slice A2L L.length c2L)).setCell ⟨g8, 2, none⟩ (.slice A2C C.length c2C)) = w9 at hX hR hS hG6 hG8 ⊢
 refine start_ (n := 10) (S := fun w' => (Lw w w' gB gT A0_0 c0_0 l0_0 A0_1 c0_1 l0_1 A0_2 c0_2 l0_2 a1_0 a1_1 a1_2) ∧ w'.heap[g8]? = some (.cells #[.slice A2T T.length c2T, .slice A2L L.length c2L, .slice A2C C.length c2C] 29 (0, 0))) (ds := []) #[false, false, false, false, false, false, false, false, false, false] (by kernel_rfl) rfl rfl ⟨hX.below (below_drew1 (Below.refl _ _)), blk_drew hG8⟩ (fun hSS => ?_)
 refine with_tabW laws_FnExactAdd18.tab7 laws_FnExactAdd18.bits7 (fun HT_ HW_ => ?_)
 replace hX := hSS.1
 replace hG8 := hSS.2
 replace hG6 := blk_drew hG6
 replace hR := hR.below (below_drew1 (Below.refl _ _))
 replace hS := hS.below (below_drew1 (Below.refl _ _))
 clear hSS
 generalize w9.drew = W at hX hR hS hG6 hG8 ⊢
 refine take_ (i := 0) (N := some 32) (v := ?_) (a' := ?_) #[true, false, false, false, false, false, false, false, false, false] rfl rfl (take_ofW HT_.out HW_.out (by kernel_rfl)) (fun _ _ _ h => h) (Or.inl ⟨by rfl, ?_⟩) ⟨hX, hG8⟩ ?_ ?_
 rotate_left
 ·rintro w' ⟨hS', hS8'⟩
  obtain ⟨s0, s1, s2⟩ := cells3 hS8'
  obtain ⟨s3, s4, s5⟩ := cells3 hS'.hT
  go_simp
  with_reducible rfl
 rotate_left
 ·simp only [Act.put, List.setIfInBounds_toArray, List.set_cons_zero, List.set_cons_succ, i64_w, i32_w]
  rfl
 refine take_ (i := 1) (N := some 33) (v := ?_) (a' := ?_) #[true, true, false, false, false, false, false, false, false, false] rfl rfl (take_ofW HT_.out HW_.out (by kernel_rfl)) (fun _ _ _ h => h) (Or.inl ⟨by rfl, ?_⟩) ⟨hX, hG8⟩ ?_ ?_
 rotate_left
 ·rintro w' ⟨hS', hS8'⟩
  obtain ⟨s0, s1, s2⟩ := cells3 hS8'
  obtain ⟨s3, s4, s5⟩ := cells3 hS'.hT
  go_simp
  with_reducible rfl
 rotate_left
 ·simp only [Act.put, List.setIfInBounds_toArray, List.set_cons_zero, List.set_cons_succ, i64_w, i32_w]
  rfl
 refine join_ (σ := Value × Value × Value × Nat) 2 #[true, true, true, true, true, true, true, true, false, false] (fun s_ => [(34, .agg #[.int .i64 t0, .int .i64 t1, .int .i64 t2]), (35, .tuple #[.agg #[s_.1, s_.2.1, s_.2.2.1], .bool o]), (9, .pointer (some ⟨s_.2.2.2, 0, none⟩)), (31, .tuple #[.agg #[s_.1, s_.2.1, s_.2.2.1], .bool o]), (36, .agg #[s_.1, s_.2.1, s_.2.2.1]), (37, .bool o)]) (fun s_ w' => ((Lw w w' gB gT A0_0 c0_0 l0_0 A0_1 c0_1 l0_1 A0_2 c0_2 l0_2 a1_0 a1_1 a1_2) ∧ w'.heap[g8]? = some (.cells #[.slice A2T T.length c2T, .slice A2L L.length c2L, .slice A2C C.length c2C] 29 (0, 0))) ∧ Bk w' w.heap.size (.slice A1T T1.length c1T) (.slice A1L L1.length c1L) (.slice A1C C1.length c1C) T1 L1 C1 ∧ Bk w' w.heap.size (.slice A2T T.length c2T) (.slice A2L L.length c2L) (.slice A2C C.length c2C) T L C ∧ w'.heap[g6]? = some (.cells #[.slice A1T T1.length c1T, .slice A1L L1.length c1L, .slice A1C C1.length c1C] 29 (0, 0)) ∧ Bk w' w.heap.size s_.1 s_.2.1 s_.2.2.1 T2 L2 C2 ∧ w'.heap[s_.2.2.2]? = some (.cells #[.slice none 0 0, .slice none 0 0, .slice none 0 0] 29 (0, 0)) ∧ w.heap.size ≤ s_.2.2.2 ∧ (∀ k, bkOwn (.slice A1T T1.length c1T) (.slice A1L L1.length c1L) (.slice A1C C1.length c1C) k → ¬ bkOwn s_.1 s_.2.1 s_.2.2.1 k) ∧ (∀ k, bkOwn (.slice A2T T.length c2T) (.slice A2L L.length c2L) (.slice A2C C.length c2C) k → ¬ bkOwn s_.1 s_.2.1 s_.2.2.1 k) ∧ g6 ≠ s_.2.2.2 ∧ g8 ≠ s_.2.2.2) ?_ ?_
 rotate_left
 ·intro hCont
  refine two_ (i := 2) (j := 7) (Ni := some 34) (Nj := some 9) #[true, true, true, false, false, false, false, false, false, false] #[true, true, false, false, false, false, false, true, false, false] rfl rfl rfl rfl (two_of HT_.out (by kernel_rfl)) (by decide) (by decide) (fun K hK => ?_) (fun K hK => ?_)
  ·skip
   refine goes_ Try.func33 (by kernel_rfl) rfl #[.agg #[.int .i64 a1_0, .int .i64 a1_1, .int .i64 a1_2]] (by rfl) rfl rfl ar ?_
   with_reducible refine (laws_toTalk.calls a1_0 a1_1 a1_2 t0 t1 t2 _ F.out.toT).mono ?_
   rintro e W2 ⟨rfl, kf⟩
   refine ⟨_, rfl, ?_⟩
   replace hX := hX.below kf
   replace hR := hR.below kf
   replace hS := hS.below kf
   replace hG6 := blk_below hG6 kf
   replace hG8 := blk_below hG8 kf
   clear kf
   refine hK.out _ _ ⟨hX, hG8⟩ (fun _ => ?_)
   clear hK K
   refine norm_ (a' := ?_) ?_ ?_
   rotate_left
   ·show Act.put _ (some 34) _ = _
    simp only [Act.put, List.setIfInBounds_toArray, List.set_cons_zero, List.set_cons_succ, i64_w, i32_w]
    rfl
   refine two_ (i := 3) (j := 7) (Ni := some 35) (Nj := some 9) #[true, true, true, true, false, false, false, false, false, false] #[true, true, true, false, false, false, false, true, false, false] rfl rfl rfl rfl (two_of HT_.out (by kernel_rfl)) (by decide) (by decide) (fun K hK => ?_) (fun K hK => ?_)
   ·skip
    refine goes_ Try.func31 (by kernel_rfl) rfl #[.agg #[.slice A2T T.length c2T, .slice A2L L.length c2L, .slice A2C C.length c2C], .agg #[.int .i64 t0, .int .i64 t1, .int .i64 t2]] (by rfl) rfl rfl ar ?_
    with_reducible refine (impl_Add18.calls k _ _ T _ _ L _ _ C t0 t1 t2 T2 L2 C2 o _ (Kd.R_reads' hS.oT).2.2 (Kd.R_reads' hS.oT).2.1 (Kd.R_reads' hS.oL).2.2 (Kd.R_reads' hS.oL).2.1 (Kd.R_reads' hS.oC).2.2 (Kd.R_reads' hS.oC).2.1 F.out.im).mono ?_
    rintro e W3 ⟨v3, v4, v5, rfl, o0, o1, o2, kf⟩
    refine ⟨_, rfl, ?_⟩
    have hQ := Bk.of o0 o1 o2
    clear o0 o1 o2
    have d2 := Bk.apart hR hQ
    have d3 := Bk.apart hS hQ
    replace hQ := hQ.lower (below_size hX.bel)
    replace hX := hX.below kf
    replace hR := hR.below kf
    replace hS := hS.below kf
    replace hG6 := blk_below hG6 kf
    replace hG8 := blk_below hG8 kf
    clear kf
    refine hK.out _ _ ⟨hX, hG8⟩ (fun _ => ?_)
    clear hK K
    refine norm_ (a' := ?_) ?_ ?_
    rotate_left
    ·show Act.put _ (some 35) _ = _
     simp only [Act.put, List.setIfInBounds_toArray, List.set_cons_zero, List.set_cons_succ, i64_w, i32_w]
     rfl
    refine pure_ (i := 4) (N := some 31) (v := ?_) (a' := ?_) #[true, true, true, true, true, false, false, false, false, false] rfl rfl (any_of HT_.out (by kernel_rfl)) (fun _ _ _ h => h) (Or.inl ⟨by rfl, ?_⟩) ?_ ?_
    rotate_left
    ·intro w'
     go_simp
     with_reducible rfl
    rotate_left
    ·simp only [Act.put, List.setIfInBounds_toArray, List.set_cons_zero, List.set_cons_succ, i64_w, i32_w]
     rfl
    refine pure_ (i := 5) (N := some 36) (v := ?_) (a' := ?_) #[true, true, true, true, true, true, false, false, false, false] rfl rfl (any_of HT_.out (by kernel_rfl)) (fun _ _ _ h => h) (Or.inl ⟨by rfl, ?_⟩) ?_ ?_
    rotate_left
    ·intro w'
     go_simp
     with_reducible rfl
    rotate_left
    ·simp only [Act.put, List.setIfInBounds_toArray, List.set_cons_zero, List.set_cons_succ, i64_w, i32_w]
     rfl
    refine pure_ (i := 6) (N := some 37) (v := ?_) (a' := ?_) #[true, true, true, true, true, true, true, false, false, false] rfl rfl (any_of HT_.out (by kernel_rfl)) (fun _ _ _ h => h) (Or.inl ⟨by rfl, ?_⟩) ?_ ?_
    rotate_left
    ·intro w'
     go_simp
     with_reducible rfl
    rotate_left
    ·simp only [Act.put, List.setIfInBounds_toArray, List.set_cons_zero, List.set_cons_succ, i64_w, i32_w]
     rfl
    refine one_ (i := 7) (N := some 9) #[true, true, true, true, true, true, true, true, false, false] rfl rfl (one_of HT_.out (by kernel_rfl)) (by decide) (fun K hK => ?_)
    refine box_step ?hg (N := 9) ?hd (cs := #[.slice none 0 0, .slice none 0 0, .slice none 0 0]) (t := 29) ?hr ?_; (case hd => rfl); (case hg => rfl); (case hr => first | (go_simp; done) | (go_simp; rfl))
    intro gb hg WB hG kf
    have hge9 : w.heap.size ≤ gb := by rw [hg]; exact below_size hX.bel
    have n69 : g6 ≠ gb := by rw [hg]; exact Nat.ne_of_lt (blk_lt hG6)
    have n89 : g8 ≠ gb := by rw [hg]; exact Nat.ne_of_lt (blk_lt hG8)
    clear hg
    replace hX := hX.below kf
    replace hR := hR.below kf
    replace hS := hS.below kf
    replace hG6 := blk_below hG6 kf
    replace hG8 := blk_below hG8 kf
    replace hQ := hQ.below kf
    clear kf
    refine hK.out _ _ ⟨hX, hG8⟩ (fun _ => ?_)
    clear hK K
    refine norm_ (a' := ?_) ?_ ?_
    rotate_left
    ·show Act.put _ (some 9) _ = _
     simp only [Act.put, List.setIfInBounds_toArray, List.set_cons_zero, List.set_cons_succ, i64_w, i32_w]
     rfl
    exact norm_ (by simp only [putAll, Act.put, List.setIfInBounds_toArray, List.set_cons_zero, List.set_cons_succ]) (hCont (v3, v4, v5, gb) _ ⟨⟨hX, hG8⟩, hR, hS, hG6, hQ, hG, hge9, d2, d3, n69, n89⟩)
   ·skip
    refine box_step ?hg (N := 9) ?hd (cs := #[.slice none 0 0, .slice none 0 0, .slice none 0 0]) (t := 29) ?hr ?_; (case hd => rfl); (case hg => rfl); (case hr => first | (go_simp; done) | (go_simp; rfl))
    intro gb hg WB hG kf
    have hge9 : w.heap.size ≤ gb := by rw [hg]; exact below_size hX.bel
    have n69 : g6 ≠ gb := by rw [hg]; exact Nat.ne_of_lt (blk_lt hG6)
    have n89 : g8 ≠ gb := by rw [hg]; exact Nat.ne_of_lt (blk_lt hG8)
    clear hg
    replace hX := hX.below kf
    replace hR := hR.below kf
    replace hS := hS.below kf
    replace hG6 := blk_below hG6 kf
    replace hG8 := blk_below hG8 kf
    clear kf
    refine hK.out _ _ ⟨hX, hG8⟩ (fun _ => ?_)
    clear hK K
    refine norm_ (a' := ?_) ?_ ?_
    rotate_left
    ·show Act.put _ (some 9) _ = _
     simp only [Act.put, List.setIfInBounds_toArray, List.set_cons_zero, List.set_cons_succ, i64_w, i32_w]
     rfl
    refine one_ (i := 3) (N := some 35) #[true, true, true, true, false, false, false, true, false, false] rfl rfl (one_of HT_.out (by kernel_rfl)) (by decide) (fun K hK => ?_)
    refine goes_ Try.func31 (by kernel_rfl) rfl #[.agg #[.slice A2T T.length c2T, .slice A2L L.length c2L, .slice A2C C.length c2C], .agg #[.int .i64 t0, .int .i64 t1, .int .i64 t2]] (by rfl) rfl rfl ar ?_
    with_reducible refine (impl_Add18.calls k _ _ T _ _ L _ _ C t0 t1 t2 T2 L2 C2 o _ (Kd.R_reads' hS.oT).2.2 (Kd.R_reads' hS.oT).2.1 (Kd.R_reads' hS.oL).2.2 (Kd.R_reads' hS.oL).2.1 (Kd.R_reads' hS.oC).2.2 (Kd.R_reads' hS.oC).2.1 F.out.im).mono ?_
    rintro e W3 ⟨v3, v4, v5, rfl, o0, o1, o2, kf⟩
    refine ⟨_, rfl, ?_⟩
    have hQ := Bk.of o0 o1 o2
    clear o0 o1 o2
    have d2 := Bk.apart hR hQ
    have d3 := Bk.apart hS hQ
    replace hQ := hQ.lower (below_size hX.bel)
    replace hX := hX.below kf
    replace hR := hR.below kf
    replace hS := hS.below kf
    replace hG6 := blk_below hG6 kf
    replace hG8 := blk_below hG8 kf
    replace hG := blk_below hG kf
    clear kf
    refine hK.out _ _ ⟨hX, hG8⟩ (fun _ => ?_)
    clear hK K
    refine norm_ (a' := ?_) ?_ ?_
    rotate_left
    ·show Act.put _ (some 35) _ = _
     simp only [Act.put, List.setIfInBounds_toArray, List.set_cons_zero, List.set_cons_succ, i64_w, i32_w]
     rfl
    refine pure_ (i := 4) (N := some 31) (v := ?_) (a' := ?_) #[true, true, true, true, true, false, false, true, false, false] rfl rfl (any_of HT_.out (by kernel_rfl)) (fun _ _ _ h => h) (Or.inl ⟨by rfl, ?_⟩) ?_ ?_
    rotate_left
    ·intro w'
     go_simp
     with_reducible rfl
    rotate_left
    ·simp only [Act.put, List.setIfInBounds_toArray, List.set_cons_zero, List.set_cons_succ, i64_w, i32_w]
     rfl
    refine pure_ (i := 5) (N := some 36) (v := ?_) (a' := ?_) #[true, true, true, true, true, true, false, true, false, false] rfl rfl (any_of HT_.out (by kernel_rfl)) (fun _ _ _ h => h) (Or.inl ⟨by rfl, ?_⟩) ?_ ?_
    rotate_left
    ·intro w'
     go_simp
     with_reducible rfl
    rotate_left
    ·simp only [Act.put, List.setIfInBounds_toArray, List.set_cons_zero, List.set_cons_succ, i64_w, i32_w]
     rfl
    refine pure_ (i := 6) (N := some 37) (v := ?_) (a' := ?_) #[true, true, true, true, true, true, true, true, false, false] rfl rfl (any_of HT_.out (by kernel_rfl)) (fun _ _ _ h => h) (Or.inl ⟨by rfl, ?_⟩) ?_ ?_
    rotate_left
    ·intro w'
     go_simp
     with_reducible rfl
    rotate_left
    ·simp only [Act.put, List.setIfInBounds_toArray, List.set_cons_zero, List.set_cons_succ, i64_w, i32_w]
     rfl
    exact norm_ (by simp only [putAll, Act.put, List.setIfInBounds_toArray, List.set_cons_zero, List.set_cons_succ]) (hCont (v3, v4, v5, gb) _ ⟨⟨hX, hG8⟩, hR, hS, hG6, hQ, hG, hge9, d2, d3, n69, n89⟩)
  ·skip
   refine box_step ?hg (N := 9) ?hd (cs := #[.slice none 0 0, .slice none 0 0, .slice none 0 0]) (t := 29) ?hr ?_; (case hd => rfl); (case hg => rfl); (case hr => first | (go_simp; done) | (go_simp; rfl))
   intro gb hg WB hG kf
   have hge9 : w.heap.size ≤ gb := by rw [hg]; exact below_size hX.bel
   have n69 : g6 ≠ gb := by rw [hg]; exact Nat.ne_of_lt (blk_lt hG6)
   have n89 : g8 ≠ gb := by rw [hg]; exact Nat.ne_of_lt (blk_lt hG8)
   clear hg
   replace hX := hX.below kf
   replace hR := hR.below kf
   replace hS := hS.below kf
   replace hG6 := blk_below hG6 kf
   replace hG8 := blk_below hG8 kf
   clear kf
   refine hK.out _ _ ⟨hX, hG8⟩ (fun _ => ?_)
   clear hK K
   refine norm_ (a' := ?_) ?_ ?_
   rotate_left
   ·show Act.put _ (some 9) _ = _
    simp only [Act.put, List.setIfInBounds_toArray, List.set_cons_zero, List.set_cons_succ, i64_w, i32_w]
    rfl
   refine one_ (i := 2) (N := some 34) #[true, true, true, false, false, false, false, true, false, false] rfl rfl (one_of HT_.out (by kernel_rfl)) (by decide) (fun K hK => ?_)
   refine goes_ Try.func33 (by kernel_rfl) rfl #[.agg #[.int .i64 a1_0, .int .i64 a1_1, .int .i64 a1_2]] (by rfl) rfl rfl ar ?_
   with_reducible refine (laws_toTalk.calls a1_0 a1_1 a1_2 t0 t1 t2 _ F.out.toT).mono ?_
   rintro e W2 ⟨rfl, kf⟩
   refine ⟨_, rfl, ?_⟩
   replace hX := hX.below kf
   replace hR := hR.below kf
   replace hS := hS.below kf
   replace hG6 := blk_below hG6 kf
   replace hG8 := blk_below hG8 kf
   replace hG := blk_below hG kf
   clear kf
   refine hK.out _ _ ⟨hX, hG8⟩ (fun _ => ?_)
   clear hK K
   refine norm_ (a' := ?_) ?_ ?_
   rotate_left
   ·show Act.put _ (some 34) _ = _
    simp only [Act.put, List.setIfInBounds_toArray, List.set_cons_zero, List.set_cons_succ, i64_w, i32_w]
    rfl
   refine one_ (i := 3) (N := some 35) #[true, true, true, true, false, false, false, true, false, false] rfl rfl (one_of HT_.out (by kernel_rfl)) (by decide) (fun K hK => ?_)
   refine goes_ Try.func31 (by kernel_rfl) rfl #[.agg #[.slice A2T T.length c2T, .slice A2L L.length c2L, .slice A2C C.length c2C], .agg #[.int .i64 t0, .int .i64 t1, .int .i64 t2]] (by rfl) rfl rfl ar ?_
   with_reducible refine (impl_Add18.calls k _ _ T _ _ L _ _ C t0 t1 t2 T2 L2 C2 o _ (Kd.R_reads' hS.oT).2.2 (Kd.R_reads' hS.oT).2.1 (Kd.R_reads' hS.oL).2.2 (Kd.R_reads' hS.oL).2.1 (Kd.R_reads' hS.oC).2.2 (Kd.R_reads' hS.oC).2.1 F.out.im).mono ?_
   rintro e W3 ⟨v3, v4, v5, rfl, o0, o1, o2, kf⟩
   refine ⟨_, rfl, ?_⟩
   have hQ := Bk.of o0 o1 o2
   clear o0 o1 o2
   have d2 := Bk.apart hR hQ
   have d3 := Bk.apart hS hQ
   replace hQ := hQ.lower (below_size hX.bel)
   replace hX := hX.below kf
   replace hR := hR.below kf
   replace hS := hS.below kf
   replace hG6 := blk_below hG6 kf
   replace hG8 := blk_below hG8 kf
   replace hG := blk_below hG kf
   clear kf
   refine hK.out _ _ ⟨hX, hG8⟩ (fun _ => ?_)
   clear hK K
   refine norm_ (a' := ?_) ?_ ?_
   rotate_left
   ·show Act.put _ (some 35) _ = _
    simp only [Act.put, List.setIfInBounds_toArray, List.set_cons_zero, List.set_cons_succ, i64_w, i32_w]
    rfl
   refine pure_ (i := 4) (N := some 31) (v := ?_) (a' := ?_) #[true, true, true, true, true, false, false, true, false, false] rfl rfl (any_of HT_.out (by kernel_rfl)) (fun _ _ _ h => h) (Or.inl ⟨by rfl, ?_⟩) ?_ ?_
   rotate_left
   ·intro w'
    go_simp
    with_reducible rfl
   rotate_left
   ·simp only [Act.put, List.setIfInBounds_toArray, List.set_cons_zero, List.set_cons_succ, i64_w, i32_w]
    rfl
   refine pure_ (i := 5) (N := some 36) (v := ?_) (a' := ?_) #[true, true, true, true, true, true, false, true, false, false] rfl rfl (any_of HT_.out (by kernel_rfl)) (fun _ _ _ h => h) (Or.inl ⟨by rfl, ?_⟩) ?_ ?_
   rotate_left
   ·intro w'
    go_simp
    with_reducible rfl
   rotate_left
   ·simp only [Act.put, List.setIfInBounds_toArray, List.set_cons_zero, List.set_cons_succ, i64_w, i32_w]
    rfl
   refine pure_ (i := 6) (N := some 37) (v := ?_) (a' := ?_) #[true, true, true, true, true, true, true, true, false, false] rfl rfl (any_of HT_.out (by kernel_rfl)) (fun _ _ _ h => h) (Or.inl ⟨by rfl, ?_⟩) ?_ ?_
   rotate_left
   ·intro w'
    go_simp
    with_reducible rfl
   rotate_left
   ·simp only [Act.put, List.setIfInBounds_toArray, List.set_cons_zero, List.set_cons_succ, i64_w, i32_w]
    rfl
   exact norm_ (by simp only [putAll, Act.put, List.setIfInBounds_toArray, List.set_cons_zero, List.set_cons_succ]) (hCont (v3, v4, v5, gb) _ ⟨⟨hX, hG8⟩, hR, hS, hG6, hQ, hG, hge9, d2, d3, n69, n89⟩)
 rintro ⟨v3, v4, v5, g9⟩ w10 ⟨⟨hX, hG8⟩, hR, hS, hG6, hQ, hG, hge9, d2, d3, n69, n89⟩
 obtain ⟨A3T, c3T, eT⟩ := Kd.R_slice hQ.oT
 subst eT
 obtain ⟨A3L, c3L, eL⟩ := Kd.R_slice hQ.oL
 subst eL
 obtain ⟨A3C, c3C, eC⟩ := Kd.R_slice hQ.oC
 subst eC
 refine norm_ (a' := ?_) ?_ ?_
 rotate_left
 ·simp only [putAll, Act.put, List.setIfInBounds_toArray, List.set_cons_zero, List.set_cons_succ]
  rfl
 refine one_ (i := 8) (N := none) #[true, true, true, true, true, true, true, true, true, false] rfl rfl (one_of HT_.out (by kernel_rfl)) (by decide) (fun K hK => ?_)
 obtain ⟨q0, q1, q2⟩ := cells3 hG
 have z0 := blk_frozen hG 0
 have z1 := blk_frozen hG 1
 have z2 := blk_frozen hG 2
 refine skip_ (w1 := ?_) (by rfl) rfl ?_ ?_
 rotate_left
 ·go_simp
  rfl
 replace hR := store_bk (x := .slice A3T T2.length c3T) (y := .slice A3L L2.length c3L) (z := .slice A3C C2.length c3C) hR hG
 replace hS := store_bk (x := .slice A3T T2.length c3T) (y := .slice A3L L2.length c3L) (z := .slice A3C C2.length c3C) hS hG
 replace hG6 := store_box (x := .slice A3T T2.length c3T) (y := .slice A3L L2.length c3L) (z := .slice A3C C2.length c3C) hG6 n69
 replace hG8 := store_box (x := .slice A3T T2.length c3T) (y := .slice A3L L2.length c3L) (z := .slice A3C C2.length c3C) hG8 n89
 obtain ⟨hX, hQ, hG9⟩ := law_store hX hQ hG hge9
 refine hK.out _ _ ⟨hX, hG8⟩ (fun _ => ?_)
 clear hK K hG q0 q1 q2 z0 z1 z2
 refine pure_ (i := 9) (N := some 10) (v := ?_) (a' := ?_) #[true, true, true, true, true, true, true, true, true, true] rfl rfl (any_of HT_.out (by kernel_rfl)) (fun _ _ _ h => h) (Or.inl ⟨by rfl, ?_⟩) ?_ ?_
 rotate_left
 ·intro w'
  go_simp
  with_reducible rfl
 rotate_left
 ·simp only [Act.put, List.setIfInBounds_toArray, List.set_cons_zero, List.set_cons_succ, i64_w, i32_w]
  rfl
 refine done_ (done_of HT_.out (by kernel_rfl)) ?_
 generalize (((w10.setCell ⟨g9, 0, none⟩ (.slice A3T T2.length c3T)).setCell ⟨g9, 1, none⟩ (.slice A3L L2.length c3L)).setCell ⟨g9, 2, none⟩ (.slice A3C C2.length c3C)) = w11 at hX hR hS hQ hG6 hG8 hG9 ⊢
 have co : (o != o) = false := bne_self_eq_false o
 obtain ⟨q0, q1, q2⟩ := cells3 hG9
 obtain ⟨s0, s1, s2⟩ := cells3 hG6
 go_wp2_with (first
  | (go_at_call 13; (with_reducible refine (laws_eqBook.calls k _ _ T2 _ _ L2 _ _ C2 _ _ T1 _ _ L1 _ _ C1 true _ (Kd.R_reads' hQ.oT).2.2 (Kd.R_reads' hQ.oT).2.1 (Kd.R_reads' hQ.oL).2.2 (Kd.R_reads' hQ.oL).2.1 (Kd.R_reads' hQ.oC).2.2 (Kd.R_reads' hQ.oC).2.1 (Kd.R_reads' hR.oT).2.2 (Kd.R_reads' hR.oT).2.1 (Kd.R_reads' hR.oL).2.2 (Kd.R_reads' hR.oL).2.1 (Kd.R_reads' hR.oC).2.2 (Kd.R_reads' hR.oC).2.1 F.out.eq1).mono ?_); rintro e w12 ⟨rfl, kf⟩; replace hX := hX.below kf; replace hR := hR.below kf; replace hS := hS.below kf; replace hQ := hQ.below kf; replace hG6 := blk_below hG6 kf; replace hG8 := blk_below hG8 kf; replace hG9 := blk_below hG9 kf; clear kf; clear q0 q1 q2 s0 s1 s2))
 refine start_ (n := 5) (S := fun w' => (Lw w w' gB gT A0_0 c0_0 l0_0 A0_1 c0_1 l0_1 A0_2 c0_2 l0_2 a1_0 a1_1 a1_2) ∧ w'.heap[g8]? = some (.cells #[.slice A2T T.length c2T, .slice A2L L.length c2L, .slice A2C C.length c2C] 29 (0, 0))) (ds := []) #[false, false, false, false, false] (by kernel_rfl) rfl rfl ⟨hX.below (below_drew1 (Below.refl _ _)), blk_drew hG8⟩ (fun hSS => ?_)
 replace hX := hSS.1
 replace hG8 := hSS.2
 clear hSS
 replace hG6 := blk_drew hG6
 replace hG9 := blk_drew hG9
 replace hR := hR.below (below_drew1 (Below.refl _ _))
 replace hS := hS.below (below_drew1 (Below.refl _ _))
 replace hQ := hQ.below (below_drew1 (Below.refl _ _))
 generalize w12.drew = W at hX hR hS hQ hG6 hG8 hG9 ⊢
 refine take_ (i := 0) (N := some 47) (v := ?_) (a' := ?_) #[true, false, false, false, false] rfl rfl (by kernel_rfl) (fun _ _ _ h => h) (Or.inl ⟨by rfl, ?_⟩) ⟨hX, hG8⟩ ?_ ?_
 rotate_left
 ·rintro w' ⟨hS', hS8'⟩
  obtain ⟨s0, s1, s2⟩ := cells3 hS8'
  obtain ⟨s3, s4, s5⟩ := cells3 hS'.hB
  go_simp
  with_reducible rfl
 rotate_left
 ·simp only [Act.put, List.setIfInBounds_toArray, List.set_cons_zero, List.set_cons_succ, i64_w, i32_w]
  rfl
 refine take_ (i := 1) (N := some 48) (v := ?_) (a' := ?_) #[true, true, false, false, false] rfl rfl (by kernel_rfl) (fun _ _ _ h => h) (Or.inl ⟨by rfl, ?_⟩) ⟨hX, hG8⟩ ?_ ?_
 rotate_left
 ·rintro w' ⟨hS', hS8'⟩
  obtain ⟨s0, s1, s2⟩ := cells3 hS8'
  obtain ⟨s3, s4, s5⟩ := cells3 hS'.hB
  go_simp
  with_reducible rfl
 rotate_left
 ·simp only [Act.put, List.setIfInBounds_toArray, List.set_cons_zero, List.set_cons_succ, i64_w, i32_w]
  rfl
 refine one_ (i := 2) (N := some 49) #[true, true, true, false, false] rfl rfl (by kernel_rfl) (by decide) (fun K hK => ?_)
 refine goes_ Try.func11 (by kernel_rfl) rfl #[.agg #[.slice A0_0 l0_0.length c0_0, .slice A0_1 l0_1.length c0_1, .slice A0_2 l0_2.length c0_2]] (by rfl) rfl rfl ar ?_
 with_reducible refine (laws_toBook.calls k1 _ _ l0_0 _ _ l0_1 _ _ l0_2 Tx Lx Cx _ hX.r0 hc0.out hX.r1 hc1.out hX.r2 hc2.out F.out.toX).mono ?_
 rintro e w13 ⟨v0, v1, v2, rfl, o0, o1, o2, kf⟩
 refine ⟨_, rfl, ?_⟩
 obtain ⟨A5T, c5T, eT⟩ := Kd.R_slice o0
 subst eT
 obtain ⟨A5L, c5L, eL⟩ := Kd.R_slice o1
 subst eL
 obtain ⟨A5C, c5C, eC⟩ := Kd.R_slice o2
 subst eC
 have hV := Bk.of o0 o1 o2
 clear o0 o1 o2
 replace hX := hX.below kf
 replace hR := hR.below kf
 replace hS := hS.below kf
 replace hQ := hQ.below kf
 replace hG6 := blk_below hG6 kf
 replace hG8 := blk_below hG8 kf
 replace hG9 := blk_below hG9 kf
 clear kf
 refine hK.out _ _ ⟨hX, hG8⟩ (fun _ => ?_)
 clear hK K
 refine norm_ (a' := ?_) ?_ ?_
 rotate_left
 ·show Act.put _ (some 49) _ = _
  simp only [Act.put, List.setIfInBounds_toArray, List.set_cons_zero, List.set_cons_succ, i64_w, i32_w]
  rfl
 refine one_ (i := 3) (N := some 50) #[true, true, true, true, false] rfl rfl (by kernel_rfl) (by decide) (fun K hK => ?_)
 refine goes_ Try.func13 (by kernel_rfl) rfl #[.agg #[.slice A2T T.length c2T, .slice A2L L.length c2L, .slice A2C C.length c2C], .agg #[.slice A5T Tx.length c5T, .slice A5L Lx.length c5L, .slice A5C Cx.length c5C]] (by rfl) rfl rfl ar ?_
 with_reducible refine (laws_eqBook.calls k1 _ _ T _ _ L _ _ C _ _ Tx _ _ Lx _ _ Cx true _ (Kd.R_reads' hS.oT).2.2 (Kd.R_reads' hS.oT).2.1 (Kd.R_reads' hS.oL).2.2 (Kd.R_reads' hS.oL).2.1 (Kd.R_reads' hS.oC).2.2 (Kd.R_reads' hS.oC).2.1 (Kd.R_reads' hV.oT).2.2 (Kd.R_reads' hV.oT).2.1 (Kd.R_reads' hV.oL).2.2 (Kd.R_reads' hV.oL).2.1 (Kd.R_reads' hV.oC).2.2 (Kd.R_reads' hV.oC).2.1 F.out.eqX).mono ?_
 rintro e w14 ⟨rfl, kf⟩
 refine ⟨_, rfl, ?_⟩
 clear hV
 replace hX := hX.below kf
 replace hR := hR.below kf
 replace hS := hS.below kf
 replace hQ := hQ.below kf
 replace hG6 := blk_below hG6 kf
 replace hG8 := blk_below hG8 kf
 replace hG9 := blk_below hG9 kf
 clear kf
 refine hK.out _ _ ⟨hX, hG8⟩ (fun _ => ?_)
 clear hK K
 refine norm_ (a' := ?_) ?_ ?_
 rotate_left
 ·show Act.put _ (some 50) _ = _
  simp only [Act.put, List.setIfInBounds_toArray, List.set_cons_zero, List.set_cons_succ, i64_w, i32_w]
  rfl
 refine pure_ (i := 4) (N := some 51) (v := ?_) (a' := ?_) #[true, true, true, true, true] rfl rfl (by kernel_rfl) (fun _ _ _ h => h) (Or.inl ⟨by rfl, ?_⟩) ?_ ?_
 rotate_left
 ·intro w'
  go_simp
  with_reducible rfl
 rotate_left
 ·simp only [Act.put, List.setIfInBounds_toArray, List.set_cons_zero, List.set_cons_succ, i64_w, i32_w]
  rfl
 refine done_ (by kernel_rfl) ?_
 obtain ⟨q0, q1, q2⟩ := cells3 hG8
 go_upto_region 14 with (first
  | (go_at_call 15; (with_reducible refine (laws_markBook.calls k1 _ _ T _ _ L _ _ C 1 m Tm Lm Cm w _ hX.bel hS.oT hS.oL hS.ne hS.oC hS.ne' F.out.mk1).mono ?_); rintro e w15 ⟨rfl, o0, o1, o2, hb, hk0⟩; have hk : Kept _ _ (bkOwn (.slice A2T T.length c2T) (.slice A2L L.length c2L) (.slice A2C C.length c2C)) := hk0; clear hk0; replace hX := hX.kept hS hb hk; clear hb; replace hG6 := blk_kept hG6 hk (hS.box hG6 (by decide)); replace hG9 := blk_kept hG9 hk (hS.box hG9 (by decide)); replace hR := hR.kept hk d1; replace hQ := hQ.kept hk (fun k h1 h2 => d3 k h2 h1); clear hk o0 o1 o2 hS hG8 q0 q1 q2))
 have cm : decide (m < 0) = false := decide_eq_false F.out.nm
 obtain ⟨q0, q1, q2⟩ := cells3 hG9
 obtain ⟨s0, s1, s2⟩ := cells3 hG6
 go_upto_region 17 with (first
  | (go_at_call 13; (with_reducible refine (laws_eqBook.calls k1 _ _ T2 _ _ L2 _ _ C2 _ _ T1 _ _ L1 _ _ C1 true _ (Kd.R_reads' hQ.oT).2.2 (Kd.R_reads' hQ.oT).2.1 (Kd.R_reads' hQ.oL).2.2 (Kd.R_reads' hQ.oL).2.1 (Kd.R_reads' hQ.oC).2.2 (Kd.R_reads' hQ.oC).2.1 (Kd.R_reads' hR.oT).2.2 (Kd.R_reads' hR.oT).2.1 (Kd.R_reads' hR.oL).2.2 (Kd.R_reads' hR.oL).2.1 (Kd.R_reads' hR.oC).2.2 (Kd.R_reads' hR.oC).2.1 F.out.eq2).mono ?_); rintro e w16 ⟨rfl, kf⟩; replace hX := hX.below kf; replace hR := hR.below kf; replace hQ := hQ.below kf; replace hG6 := blk_below hG6 kf; replace hG9 := blk_below hG9 kf; clear kf q0 q1 q2 s0 s1 s2))
 obtain ⟨q0, q1, q2⟩ := cells3 hG9
 go_upto_region 18 with (first
  | (go_at_call 15; (with_reducible refine (laws_markBook.calls k2 _ _ T2 _ _ L2 _ _ C2 1 q T3 L3 C3 w _ hX.bel hQ.oT hQ.oL hQ.ne hQ.oC hQ.ne' F.out.mk2).mono ?_); rintro e w17 ⟨rfl, o0, o1, o2, hb, hk0⟩; have hk : Kept _ _ (bkOwn (.slice A3T T2.length c3T) (.slice A3L L2.length c3L) (.slice A3C C2.length c3C)) := hk0; clear hk0; replace hX := hX.kept hQ hb hk; clear hb; replace hG6 := blk_kept hG6 hk (hQ.box hG6 (by decide)); replace hG9 := blk_kept hG9 hk (hQ.box hG9 (by decide)); replace hR := hR.kept hk d2; replace hQ := hQ.marked o0 o1 o2; clear hk o0 o1 o2 q0 q1 q2))
 obtain ⟨_, _, eT⟩ := Kd.R_slice hQ.oT
 have eT := slice_len eT
 obtain ⟨_, _, eL⟩ := Kd.R_slice hQ.oL
 have eL := slice_len eL
 obtain ⟨_, _, eC⟩ := Kd.R_slice hQ.oC
 have eC := slice_len eC
 rw [eT, eL, eC] at hQ hG9
 clear eT eL eC
 obtain ⟨q0, q1, q2⟩ := cells3 hG9
 go_upto_region 20 with (first
  | (go_at_call 17; (with_reducible refine (laws_heldBook.calls k2 _ _ T3 _ _ L3 _ _ C3 1 q _ (Kd.R_reads' hQ.oT).2.2 (Kd.R_reads' hQ.oT).2.1 (Kd.R_reads' hQ.oL).2.2 (Kd.R_reads' hQ.oL).2.1 (Kd.R_reads' hQ.oC).2.2 (Kd.R_reads' hQ.oC).2.1 F.out.hd1).mono ?_); rintro e w20 ⟨rfl, kf⟩; replace hX := hX.below kf; replace hR := hR.below kf; replace hQ := hQ.below kf; replace hG6 := blk_below hG6 kf; replace hG9 := blk_below hG9 kf; clear kf q0 q1 q2))
 have cq : decide (q < 0) = false := decide_eq_false F.out.nq
 have cqq : (q != q) = false := bne_self_eq_false q
 go_wp2
 refine start_ (n := 11) (S := fun w' => Lw w w' gB gT A0_0 c0_0 l0_0 A0_1 c0_1 l0_1 A0_2 c0_2 l0_2 a1_0 a1_1 a1_2) (ds := []) #[false, false, false, false, false, false, false, false, false, false, false] (by kernel_rfl) rfl rfl (hX.below (below_drew1 (Below.refl _ _))) (fun hX => ?_)
 refine with_tabW laws_FnExactAdd18.tab24 laws_FnExactAdd18.bits24 (fun HT_ HW_ => ?_)
 replace hG6 := blk_drew hG6
 replace hG9 := blk_drew hG9
 replace hR := hR.below (below_drew1 (Below.refl _ _))
 replace hQ := hQ.below (below_drew1 (Below.refl _ _))
 generalize w20.drew = W at hX hR hQ hG6 hG9 ⊢
 refine take_ (i := 0) (N := some 80) (v := ?_) (a' := ?_) #[true, false, false, false, false, false, false, false, false, false, false] rfl rfl (take_ofW HT_.out HW_.out (by kernel_rfl)) (fun _ _ _ h => h) (Or.inl ⟨by rfl, ?_⟩) hX ?_ ?_
 rotate_left
 ·intro w' hS
  obtain ⟨s0, s1, s2⟩ := cells3 hS.hB
  obtain ⟨s3, s4, s5⟩ := cells3 hS.hT
  go_simp
  with_reducible rfl
 rotate_left
 ·simp only [Act.put, List.setIfInBounds_toArray, List.set_cons_zero, List.set_cons_succ, i64_w, i32_w]
  rfl
 refine take_ (i := 2) (N := some 82) (v := ?_) (a' := ?_) #[true, false, true, false, false, false, false, false, false, false, false] rfl rfl (take_ofW HT_.out HW_.out (by kernel_rfl)) (fun _ _ _ h => h) (Or.inl ⟨by rfl, ?_⟩) hX ?_ ?_
 rotate_left
 ·intro w' hS
  obtain ⟨s0, s1, s2⟩ := cells3 hS.hB
  obtain ⟨s3, s4, s5⟩ := cells3 hS.hT
  go_simp
  with_reducible rfl
 rotate_left
 ·simp only [Act.put, List.setIfInBounds_toArray, List.set_cons_zero, List.set_cons_succ, i64_w, i32_w]
  rfl
 refine join_ (σ := Value × Value × Value × Value × Value × Value × Nat) 2 #[true, true, true, true, true, true, true, true, true, false, false] (fun s_ => [(81, .agg #[s_.1, s_.2.1, s_.2.2.1]), (83, .agg #[.int .i64 t0, .int .i64 t1, .int .i64 t2]), (84, .tuple #[.agg #[s_.2.2.2.1, s_.2.2.2.2.1, s_.2.2.2.2.2.1], .bool o]), (14, .pointer (some ⟨s_.2.2.2.2.2.2, 0, none⟩)), (79, .tuple #[.agg #[s_.2.2.2.1, s_.2.2.2.2.1, s_.2.2.2.2.2.1], .bool o]), (85, .agg #[s_.2.2.2.1, s_.2.2.2.2.1, s_.2.2.2.2.2.1]), (86, .bool o)]) (fun s_ w' => (Lw w w' gB gT A0_0 c0_0 l0_0 A0_1 c0_1 l0_1 A0_2 c0_2 l0_2 a1_0 a1_1 a1_2) ∧ Bk w' w.heap.size (.slice A1T T1.length c1T) (.slice A1L L1.length c1L) (.slice A1C C1.length c1C) T1 L1 C1 ∧ Bk w' w.heap.size (.slice A3T T3.length c3T) (.slice A3L L3.length c3L) (.slice A3C C3.length c3C) T3 L3 C3 ∧ w'.heap[g6]? = some (.cells #[.slice A1T T1.length c1T, .slice A1L L1.length c1L, .slice A1C C1.length c1C] 29 (0, 0)) ∧ w'.heap[g9]? = some (.cells #[.slice A3T T3.length c3T, .slice A3L L3.length c3L, .slice A3C C3.length c3C] 29 (0, 0)) ∧ Bk w' w.heap.size s_.2.2.2.1 s_.2.2.2.2.1 s_.2.2.2.2.2.1 T4 L4 C4 ∧ w'.heap[s_.2.2.2.2.2.2]? = some (.cells #[.slice none 0 0, .slice none 0 0, .slice none 0 0] 29 (0, 0)) ∧ w.heap.size ≤ s_.2.2.2.2.2.2 ∧ g6 ≠ s_.2.2.2.2.2.2 ∧ g9 ≠ s_.2.2.2.2.2.2) ?_ ?_
 rotate_left
 ·intro hCont
  refine two_ (i := 1) (j := 8) (Ni := some 81) (Nj := some 14) #[true, true, true, false, false, false, false, false, false, false, false] #[true, false, true, false, false, false, false, false, true, false, false] rfl rfl rfl rfl (two_of HT_.out (by kernel_rfl)) (by decide) (by decide) (fun K hK => ?_) (fun K hK => ?_)
  ·skip
   refine goes_ Try.func11 (by kernel_rfl) rfl #[.agg #[.slice A0_0 l0_0.length c0_0, .slice A0_1 l0_1.length c0_1, .slice A0_2 l0_2.length c0_2]] (by rfl) rfl rfl ar ?_
   with_reducible refine (laws_toBook.calls k2 _ _ l0_0 _ _ l0_1 _ _ l0_2 Ty Ly Cy _ hX.r0 hc0.out hX.r1 hc1.out hX.r2 hc2.out F.out.toY).mono ?_
   rintro e W1 ⟨v0, v1, v2, rfl, o0, o1, o2, kf⟩
   refine ⟨_, rfl, ?_⟩
   obtain ⟨A6T, c6T, eT⟩ := Kd.R_slice o0
   subst eT
   obtain ⟨A6L, c6L, eL⟩ := Kd.R_slice o1
   subst eL
   obtain ⟨A6C, c6C, eC⟩ := Kd.R_slice o2
   subst eC
   have hA := Bk.of o0 o1 o2
   clear o0 o1 o2
   replace hX := hX.below kf
   replace hR := hR.below kf
   replace hQ := hQ.below kf
   replace hG6 := blk_below hG6 kf
   replace hG9 := blk_below hG9 kf
   clear kf
   refine hK.out _ _ hX (fun _ => ?_)
   clear hK K
   refine norm_ (a' := ?_) ?_ ?_
   rotate_left
   ·show Act.put _ (some 81) _ = _
    simp only [Act.put, List.setIfInBounds_toArray, List.set_cons_zero, List.set_cons_succ, i64_w, i32_w]
    rfl
   refine two_ (i := 3) (j := 8) (Ni := some 83) (Nj := some 14) #[true, true, true, true, false, false, false, false, false, false, false] #[true, true, true, false, false, false, false, false, true, false, false] rfl rfl rfl rfl (two_of HT_.out (by kernel_rfl)) (by decide) (by decide) (fun K hK => ?_) (fun K hK => ?_)
   ·skip
    refine goes_ Try.func33 (by kernel_rfl) rfl #[.agg #[.int .i64 a1_0, .int .i64 a1_1, .int .i64 a1_2]] (by rfl) rfl rfl ar ?_
    with_reducible refine (laws_toTalk.calls a1_0 a1_1 a1_2 t0 t1 t2 _ F.out.toT).mono ?_
    rintro e W2 ⟨rfl, kf⟩
    refine ⟨_, rfl, ?_⟩
    replace hX := hX.below kf
    replace hR := hR.below kf
    replace hQ := hQ.below kf
    replace hG6 := blk_below hG6 kf
    replace hG9 := blk_below hG9 kf
    replace hA := hA.below kf
    clear kf
    refine hK.out _ _ hX (fun _ => ?_)
    clear hK K
    refine norm_ (a' := ?_) ?_ ?_
    rotate_left
    ·show Act.put _ (some 83) _ = _
     simp only [Act.put, List.setIfInBounds_toArray, List.set_cons_zero, List.set_cons_succ, i64_w, i32_w]
     rfl
    refine two_ (i := 4) (j := 8) (Ni := some 84) (Nj := some 14) #[true, true, true, true, true, false, false, false, false, false, false] #[true, true, true, true, false, false, false, false, true, false, false] rfl rfl rfl rfl (two_of HT_.out (by kernel_rfl)) (by decide) (by decide) (fun K hK => ?_) (fun K hK => ?_)
    ·skip
     refine goes_ Try.func31 (by kernel_rfl) rfl #[.agg #[.slice A6T Ty.length c6T, .slice A6L Ly.length c6L, .slice A6C Cy.length c6C], .agg #[.int .i64 t0, .int .i64 t1, .int .i64 t2]] (by rfl) rfl rfl ar ?_
     with_reducible refine (impl_Add18.calls k2 _ _ Ty _ _ Ly _ _ Cy t0 t1 t2 T4 L4 C4 o _ (Kd.R_reads' hA.oT).2.2 (Kd.R_reads' hA.oT).2.1 (Kd.R_reads' hA.oL).2.2 (Kd.R_reads' hA.oL).2.1 (Kd.R_reads' hA.oC).2.2 (Kd.R_reads' hA.oC).2.1 F.out.im2).mono ?_
     rintro e W3 ⟨v3, v4, v5, rfl, o0, o1, o2, kf⟩
     refine ⟨_, rfl, ?_⟩
     have hZ := (Bk.of o0 o1 o2).lower (below_size hX.bel)
     clear o0 o1 o2
     replace hX := hX.below kf
     replace hR := hR.below kf
     replace hQ := hQ.below kf
     replace hG6 := blk_below hG6 kf
     replace hG9 := blk_below hG9 kf
     replace hA := hA.below kf
     clear kf
     refine hK.out _ _ hX (fun _ => ?_)
     clear hK K
     refine norm_ (a' := ?_) ?_ ?_
     rotate_left
     ·show Act.put _ (some 84) _ = _
      simp only [Act.put, List.setIfInBounds_toArray, List.set_cons_zero, List.set_cons_succ, i64_w, i32_w]
      rfl
     refine pure_ (i := 5) (N := some 79) (v := ?_) (a' := ?_) #[true, true, true, true, true, true, false, false, false, false, false] rfl rfl (any_of HT_.out (by kernel_rfl)) (fun _ _ _ h => h) (Or.inl ⟨by rfl, ?_⟩) ?_ ?_
     rotate_left
     ·intro w'
      go_simp
      with_reducible rfl
     rotate_left
     ·simp only [Act.put, List.setIfInBounds_toArray, List.set_cons_zero, List.set_cons_succ, i64_w, i32_w]
      rfl
     refine pure_ (i := 6) (N := some 85) (v := ?_) (a' := ?_) #[true, true, true, true, true, true, true, false, false, false, false] rfl rfl (any_of HT_.out (by kernel_rfl)) (fun _ _ _ h => h) (Or.inl ⟨by rfl, ?_⟩) ?_ ?_
     rotate_left
     ·intro w'
      go_simp
      with_reducible rfl
     rotate_left
     ·simp only [Act.put, List.setIfInBounds_toArray, List.set_cons_zero, List.set_cons_succ, i64_w, i32_w]
      rfl
     refine pure_ (i := 7) (N := some 86) (v := ?_) (a' := ?_) #[true, true, true, true, true, true, true, true, false, false, false] rfl rfl (any_of HT_.out (by kernel_rfl)) (fun _ _ _ h => h) (Or.inl ⟨by rfl, ?_⟩) ?_ ?_
     rotate_left
     ·intro w'
      go_simp
      with_reducible rfl
     rotate_left
     ·simp only [Act.put, List.setIfInBounds_toArray, List.set_cons_zero, List.set_cons_succ, i64_w, i32_w]
      rfl
     refine one_ (i := 8) (N := some 14) #[true, true, true, true, true, true, true, true, true, false, false] rfl rfl (one_of HT_.out (by kernel_rfl)) (by decide) (fun K hK => ?_)
     refine box_step ?hg (N := 14) ?hd (cs := #[.slice none 0 0, .slice none 0 0, .slice none 0 0]) (t := 29) ?hr ?_; (case hd => rfl); (case hg => rfl); (case hr => first | (go_simp; done) | (go_simp; rfl))
     intro gb hg WB hG kf
     have hge14 : w.heap.size ≤ gb := by rw [hg]; exact below_size hX.bel
     have n6 : g6 ≠ gb := by rw [hg]; exact Nat.ne_of_lt (blk_lt hG6)
     have n9 : g9 ≠ gb := by rw [hg]; exact Nat.ne_of_lt (blk_lt hG9)
     clear hg
     replace hX := hX.below kf
     replace hR := hR.below kf
     replace hQ := hQ.below kf
     replace hG6 := blk_below hG6 kf
     replace hG9 := blk_below hG9 kf
     replace hA := hA.below kf
     replace hZ := hZ.below kf
     clear kf
     refine hK.out _ _ hX (fun _ => ?_)
     clear hK K
     refine norm_ (a' := ?_) ?_ ?_
     rotate_left
     ·show Act.put _ (some 14) _ = _
      simp only [Act.put, List.setIfInBounds_toArray, List.set_cons_zero, List.set_cons_succ, i64_w, i32_w]
      rfl
     exact norm_ (by simp only [putAll, Act.put, List.setIfInBounds_toArray, List.set_cons_zero, List.set_cons_succ]) (hCont (.slice A6T Ty.length c6T, .slice A6L Ly.length c6L, .slice A6C Cy.length c6C, v3, v4, v5, gb) _ ⟨hX, hR, hQ, hG6, hG9, hZ, hG, hge14, n6, n9⟩)
    ·skip
     refine box_step ?hg (N := 14) ?hd (cs := #[.slice none 0 0, .slice none 0 0, .slice none 0 0]) (t := 29) ?hr ?_; (case hd => rfl); (case hg => rfl); (case hr => first | (go_simp; done) | (go_simp; rfl))
     intro gb hg WB hG kf
     have hge14 : w.heap.size ≤ gb := by rw [hg]; exact below_size hX.bel
     have n6 : g6 ≠ gb := by rw [hg]; exact Nat.ne_of_lt (blk_lt hG6)
     have n9 : g9 ≠ gb := by rw [hg]; exact Nat.ne_of_lt (blk_lt hG9)
     clear hg
     replace hX := hX.below kf
     replace hR := hR.below kf
     replace hQ := hQ.below kf
     replace hG6 := blk_below hG6 kf
     replace hG9 := blk_below hG9 kf
     replace hA := hA.below kf
     clear kf
     refine hK.out _ _ hX (fun _ => ?_)
     clear hK K
     refine norm_ (a' := ?_) ?_ ?_
     rotate_left
     ·show Act.put _ (some 14) _ = _
      simp only [Act.put, List.setIfInBounds_toArray, List.set_cons_zero, List.set_cons_succ, i64_w, i32_w]
      rfl
     refine one_ (i := 4) (N := some 84) #[true, true, true, true, true, false, false, false, true, false, false] rfl rfl (one_of HT_.out (by kernel_rfl)) (by decide) (fun K hK => ?_)
     refine goes_ Try.func31 (by kernel_rfl) rfl #[.agg #[.slice A6T Ty.length c6T, .slice A6L Ly.length c6L, .slice A6C Cy.length c6C], .agg #[.int .i64 t0, .int .i64 t1, .int .i64 t2]] (by rfl) rfl rfl ar ?_
     with_reducible refine (impl_Add18.calls k2 _ _ Ty _ _ Ly _ _ Cy t0 t1 t2 T4 L4 C4 o _ (Kd.R_reads' hA.oT).2.2 (Kd.R_reads' hA.oT).2.1 (Kd.R_reads' hA.oL).2.2 (Kd.R_reads' hA.oL).2.1 (Kd.R_reads' hA.oC).2.2 (Kd.R_reads' hA.oC).2.1 F.out.im2).mono ?_
     rintro e W3 ⟨v3, v4, v5, rfl, o0, o1, o2, kf⟩
     refine ⟨_, rfl, ?_⟩
     have hZ := (Bk.of o0 o1 o2).lower (below_size hX.bel)
     clear o0 o1 o2
     replace hX := hX.below kf
     replace hR := hR.below kf
     replace hQ := hQ.below kf
     replace hG6 := blk_below hG6 kf
     replace hG9 := blk_below hG9 kf
     replace hG := blk_below hG kf
     replace hA := hA.below kf
     clear kf
     refine hK.out _ _ hX (fun _ => ?_)
     clear hK K
     refine norm_ (a' := ?_) ?_ ?_
     rotate_left
     ·show Act.put _ (some 84) _ = _
      simp only [Act.put, List.setIfInBounds_toArray, List.set_cons_zero, List.set_cons_succ, i64_w, i32_w]
      rfl
     refine pure_ (i := 5) (N := some 79) (v := ?_) (a' := ?_) #[true, true, true, true, true, true, false, false, true, false, false] rfl rfl (any_of HT_.out (by kernel_rfl)) (fun _ _ _ h => h) (Or.inl ⟨by rfl, ?_⟩) ?_ ?_
     rotate_left
     ·intro w'
      go_simp
      with_reducible rfl
     rotate_left
     ·simp only [Act.put, List.setIfInBounds_toArray, List.set_cons_zero, List.set_cons_succ, i64_w, i32_w]
      rfl
     refine pure_ (i := 6) (N := some 85) (v := ?_) (a' := ?_) #[true, true, true, true, true, true, true, false, true, false, false] rfl rfl (any_of HT_.out (by kernel_rfl)) (fun _ _ _ h => h) (Or.inl ⟨by rfl, ?_⟩) ?_ ?_
     rotate_left
     ·intro w'
      go_simp
      with_reducible rfl
     rotate_left
     ·simp only [Act.put, List.setIfInBounds_toArray, List.set_cons_zero, List.set_cons_succ, i64_w, i32_w]
      rfl
     refine pure_ (i := 7) (N := some 86) (v := ?_) (a' := ?_) #[true, true, true, true, true, true, true, true, true, false, false] rfl rfl (any_of HT_.out (by kernel_rfl)) (fun _ _ _ h => h) (Or.inl ⟨by rfl, ?_⟩) ?_ ?_
     rotate_left
     ·intro w'
      go_simp
      with_reducible rfl
     rotate_left
     ·simp only [Act.put, List.setIfInBounds_toArray, List.set_cons_zero, List.set_cons_succ, i64_w, i32_w]
      rfl
     exact norm_ (by simp only [putAll, Act.put, List.setIfInBounds_toArray, List.set_cons_zero, List.set_cons_succ]) (hCont (.slice A6T Ty.length c6T, .slice A6L Ly.length c6L, .slice A6C Cy.length c6C, v3, v4, v5, gb) _ ⟨hX, hR, hQ, hG6, hG9, hZ, hG, hge14, n6, n9⟩)
   ·skip
    refine box_step ?hg (N := 14) ?hd (cs := #[.slice none 0 0, .slice none 0 0, .slice none 0 0]) (t := 29) ?hr ?_; (case hd => rfl); (case hg => rfl); (case hr => first | (go_simp; done) | (go_simp; rfl))
    intro gb hg WB hG kf
    have hge14 : w.heap.size ≤ gb := by rw [hg]; exact below_size hX.bel
    have n6 : g6 ≠ gb := by rw [hg]; exact Nat.ne_of_lt (blk_lt hG6)
    have n9 : g9 ≠ gb := by rw [hg]; exact Nat.ne_of_lt (blk_lt hG9)
    clear hg
    replace hX := hX.below kf
    replace hR := hR.below kf
    replace hQ := hQ.below kf
    replace hG6 := blk_below hG6 kf
    replace hG9 := blk_below hG9 kf
    replace hA := hA.below kf
    clear kf
    refine hK.out _ _ hX (fun _ => ?_)
    clear hK K
    refine norm_ (a' := ?_) ?_ ?_
    rotate_left
    ·show Act.put _ (some 14) _ = _
     simp only [Act.put, List.setIfInBounds_toArray, List.set_cons_zero, List.set_cons_succ, i64_w, i32_w]
     rfl
    refine one_ (i := 3) (N := some 83) #[true, true, true, true, false, false, false, false, true, false, false] rfl rfl (one_of HT_.out (by kernel_rfl)) (by decide) (fun K hK => ?_)
    refine goes_ Try.func33 (by kernel_rfl) rfl #[.agg #[.int .i64 a1_0, .int .i64 a1_1, .int .i64 a1_2]] (by rfl) rfl rfl ar ?_
    with_reducible refine (laws_toTalk.calls a1_0 a1_1 a1_2 t0 t1 t2 _ F.out.toT).mono ?_
    rintro e W2 ⟨rfl, kf⟩
    refine ⟨_, rfl, ?_⟩
    replace hX := hX.below kf
    replace hR := hR.below kf
    replace hQ := hQ.below kf
    replace hG6 := blk_below hG6 kf
    replace hG9 := blk_below hG9 kf
    replace hG := blk_below hG kf
    replace hA := hA.below kf
    clear kf
    refine hK.out _ _ hX (fun _ => ?_)
    clear hK K
    refine norm_ (a' := ?_) ?_ ?_
    rotate_left
    ·show Act.put _ (some 83) _ = _
     simp only [Act.put, List.setIfInBounds_toArray, List.set_cons_zero, List.set_cons_succ, i64_w, i32_w]
     rfl
    refine one_ (i := 4) (N := some 84) #[true, true, true, true, true, false, false, false, true, false, false] rfl rfl (one_of HT_.out (by kernel_rfl)) (by decide) (fun K hK => ?_)
    refine goes_ Try.func31 (by kernel_rfl) rfl #[.agg #[.slice A6T Ty.length c6T, .slice A6L Ly.length c6L, .slice A6C Cy.length c6C], .agg #[.int .i64 t0, .int .i64 t1, .int .i64 t2]] (by rfl) rfl rfl ar ?_
    with_reducible refine (impl_Add18.calls k2 _ _ Ty _ _ Ly _ _ Cy t0 t1 t2 T4 L4 C4 o _ (Kd.R_reads' hA.oT).2.2 (Kd.R_reads' hA.oT).2.1 (Kd.R_reads' hA.oL).2.2 (Kd.R_reads' hA.oL).2.1 (Kd.R_reads' hA.oC).2.2 (Kd.R_reads' hA.oC).2.1 F.out.im2).mono ?_
    rintro e W3 ⟨v3, v4, v5, rfl, o0, o1, o2, kf⟩
    refine ⟨_, rfl, ?_⟩
    have hZ := (Bk.of o0 o1 o2).lower (below_size hX.bel)
    clear o0 o1 o2
    replace hX := hX.below kf
    replace hR := hR.below kf
    replace hQ := hQ.below kf
    replace hG6 := blk_below hG6 kf
    replace hG9 := blk_below hG9 kf
    replace hG := blk_below hG kf
    replace hA := hA.below kf
    clear kf
    refine hK.out _ _ hX (fun _ => ?_)
    clear hK K
    refine norm_ (a' := ?_) ?_ ?_
    rotate_left
    ·show Act.put _ (some 84) _ = _
     simp only [Act.put, List.setIfInBounds_toArray, List.set_cons_zero, List.set_cons_succ, i64_w, i32_w]
     rfl
    refine pure_ (i := 5) (N := some 79) (v := ?_) (a' := ?_) #[true, true, true, true, true, true, false, false, true, false, false] rfl rfl (any_of HT_.out (by kernel_rfl)) (fun _ _ _ h => h) (Or.inl ⟨by rfl, ?_⟩) ?_ ?_
    rotate_left
    ·intro w'
     go_simp
     with_reducible rfl
    rotate_left
    ·simp only [Act.put, List.setIfInBounds_toArray, List.set_cons_zero, List.set_cons_succ, i64_w, i32_w]
     rfl
    refine pure_ (i := 6) (N := some 85) (v := ?_) (a' := ?_) #[true, true, true, true, true, true, true, false, true, false, false] rfl rfl (any_of HT_.out (by kernel_rfl)) (fun _ _ _ h => h) (Or.inl ⟨by rfl, ?_⟩) ?_ ?_
    rotate_left
    ·intro w'
     go_simp
     with_reducible rfl
    rotate_left
    ·simp only [Act.put, List.setIfInBounds_toArray, List.set_cons_zero, List.set_cons_succ, i64_w, i32_w]
     rfl
    refine pure_ (i := 7) (N := some 86) (v := ?_) (a' := ?_) #[true, true, true, true, true, true, true, true, true, false, false] rfl rfl (any_of HT_.out (by kernel_rfl)) (fun _ _ _ h => h) (Or.inl ⟨by rfl, ?_⟩) ?_ ?_
    rotate_left
    ·intro w'
     go_simp
     with_reducible rfl
    rotate_left
    ·simp only [Act.put, List.setIfInBounds_toArray, List.set_cons_zero, List.set_cons_succ, i64_w, i32_w]
     rfl
    exact norm_ (by simp only [putAll, Act.put, List.setIfInBounds_toArray, List.set_cons_zero, List.set_cons_succ]) (hCont (.slice A6T Ty.length c6T, .slice A6L Ly.length c6L, .slice A6C Cy.length c6C, v3, v4, v5, gb) _ ⟨hX, hR, hQ, hG6, hG9, hZ, hG, hge14, n6, n9⟩)
  ·skip
   refine box_step ?hg (N := 14) ?hd (cs := #[.slice none 0 0, .slice none 0 0, .slice none 0 0]) (t := 29) ?hr ?_; (case hd => rfl); (case hg => rfl); (case hr => first | (go_simp; done) | (go_simp; rfl))
   intro gb hg WB hG kf
   have hge14 : w.heap.size ≤ gb := by rw [hg]; exact below_size hX.bel
   have n6 : g6 ≠ gb := by rw [hg]; exact Nat.ne_of_lt (blk_lt hG6)
   have n9 : g9 ≠ gb := by rw [hg]; exact Nat.ne_of_lt (blk_lt hG9)
   clear hg
   replace hX := hX.below kf
   replace hR := hR.below kf
   replace hQ := hQ.below kf
   replace hG6 := blk_below hG6 kf
   replace hG9 := blk_below hG9 kf
   clear kf
   refine hK.out _ _ hX (fun _ => ?_)
   clear hK K
   refine norm_ (a' := ?_) ?_ ?_
   rotate_left
   ·show Act.put _ (some 14) _ = _
    simp only [Act.put, List.setIfInBounds_toArray, List.set_cons_zero, List.set_cons_succ, i64_w, i32_w]
    rfl
   refine one_ (i := 1) (N := some 81) #[true, true, true, false, false, false, false, false, true, false, false] rfl rfl (one_of HT_.out (by kernel_rfl)) (by decide) (fun K hK => ?_)
   refine goes_ Try.func11 (by kernel_rfl) rfl #[.agg #[.slice A0_0 l0_0.length c0_0, .slice A0_1 l0_1.length c0_1, .slice A0_2 l0_2.length c0_2]] (by rfl) rfl rfl ar ?_
   with_reducible refine (laws_toBook.calls k2 _ _ l0_0 _ _ l0_1 _ _ l0_2 Ty Ly Cy _ hX.r0 hc0.out hX.r1 hc1.out hX.r2 hc2.out F.out.toY).mono ?_
   rintro e W1 ⟨v0, v1, v2, rfl, o0, o1, o2, kf⟩
   refine ⟨_, rfl, ?_⟩
   obtain ⟨A6T, c6T, eT⟩ := Kd.R_slice o0
   subst eT
   obtain ⟨A6L, c6L, eL⟩ := Kd.R_slice o1
   subst eL
   obtain ⟨A6C, c6C, eC⟩ := Kd.R_slice o2
   subst eC
   have hA := Bk.of o0 o1 o2
   clear o0 o1 o2
   replace hX := hX.below kf
   replace hR := hR.below kf
   replace hQ := hQ.below kf
   replace hG6 := blk_below hG6 kf
   replace hG9 := blk_below hG9 kf
   replace hG := blk_below hG kf
   clear kf
   refine hK.out _ _ hX (fun _ => ?_)
   clear hK K
   refine norm_ (a' := ?_) ?_ ?_
   rotate_left
   ·show Act.put _ (some 81) _ = _
    simp only [Act.put, List.setIfInBounds_toArray, List.set_cons_zero, List.set_cons_succ, i64_w, i32_w]
    rfl
   refine one_ (i := 3) (N := some 83) #[true, true, true, true, false, false, false, false, true, false, false] rfl rfl (one_of HT_.out (by kernel_rfl)) (by decide) (fun K hK => ?_)
   refine goes_ Try.func33 (by kernel_rfl) rfl #[.agg #[.int .i64 a1_0, .int .i64 a1_1, .int .i64 a1_2]] (by rfl) rfl rfl ar ?_
   with_reducible refine (laws_toTalk.calls a1_0 a1_1 a1_2 t0 t1 t2 _ F.out.toT).mono ?_
   rintro e W2 ⟨rfl, kf⟩
   refine ⟨_, rfl, ?_⟩
   replace hX := hX.below kf
   replace hR := hR.below kf
   replace hQ := hQ.below kf
   replace hG6 := blk_below hG6 kf
   replace hG9 := blk_below hG9 kf
   replace hG := blk_below hG kf
   replace hA := hA.below kf
   clear kf
   refine hK.out _ _ hX (fun _ => ?_)
   clear hK K
   refine norm_ (a' := ?_) ?_ ?_
   rotate_left
   ·show Act.put _ (some 83) _ = _
    simp only [Act.put, List.setIfInBounds_toArray, List.set_cons_zero, List.set_cons_succ, i64_w, i32_w]
    rfl
   refine one_ (i := 4) (N := some 84) #[true, true, true, true, true, false, false, false, true, false, false] rfl rfl (one_of HT_.out (by kernel_rfl)) (by decide) (fun K hK => ?_)
   refine goes_ Try.func31 (by kernel_rfl) rfl #[.agg #[.slice A6T Ty.length c6T, .slice A6L Ly.length c6L, .slice A6C Cy.length c6C], .agg #[.int .i64 t0, .int .i64 t1, .int .i64 t2]] (by rfl) rfl rfl ar ?_
   with_reducible refine (impl_Add18.calls k2 _ _ Ty _ _ Ly _ _ Cy t0 t1 t2 T4 L4 C4 o _ (Kd.R_reads' hA.oT).2.2 (Kd.R_reads' hA.oT).2.1 (Kd.R_reads' hA.oL).2.2 (Kd.R_reads' hA.oL).2.1 (Kd.R_reads' hA.oC).2.2 (Kd.R_reads' hA.oC).2.1 F.out.im2).mono ?_
   rintro e W3 ⟨v3, v4, v5, rfl, o0, o1, o2, kf⟩
   refine ⟨_, rfl, ?_⟩
   have hZ := (Bk.of o0 o1 o2).lower (below_size hX.bel)
   clear o0 o1 o2
   replace hX := hX.below kf
   replace hR := hR.below kf
   replace hQ := hQ.below kf
   replace hG6 := blk_below hG6 kf
   replace hG9 := blk_below hG9 kf
   replace hG := blk_below hG kf
   replace hA := hA.below kf
   clear kf
   refine hK.out _ _ hX (fun _ => ?_)
   clear hK K
   refine norm_ (a' := ?_) ?_ ?_
   rotate_left
   ·show Act.put _ (some 84) _ = _
    simp only [Act.put, List.setIfInBounds_toArray, List.set_cons_zero, List.set_cons_succ, i64_w, i32_w]
    rfl
   refine pure_ (i := 5) (N := some 79) (v := ?_) (a' := ?_) #[true, true, true, true, true, true, false, false, true, false, false] rfl rfl (any_of HT_.out (by kernel_rfl)) (fun _ _ _ h => h) (Or.inl ⟨by rfl, ?_⟩) ?_ ?_
   rotate_left
   ·intro w'
    go_simp
    with_reducible rfl
   rotate_left
   ·simp only [Act.put, List.setIfInBounds_toArray, List.set_cons_zero, List.set_cons_succ, i64_w, i32_w]
    rfl
   refine pure_ (i := 6) (N := some 85) (v := ?_) (a' := ?_) #[true, true, true, true, true, true, true, false, true, false, false] rfl rfl (any_of HT_.out (by kernel_rfl)) (fun _ _ _ h => h) (Or.inl ⟨by rfl, ?_⟩) ?_ ?_
   rotate_left
   ·intro w'
    go_simp
    with_reducible rfl
   rotate_left
   ·simp only [Act.put, List.setIfInBounds_toArray, List.set_cons_zero, List.set_cons_succ, i64_w, i32_w]
    rfl
   refine pure_ (i := 7) (N := some 86) (v := ?_) (a' := ?_) #[true, true, true, true, true, true, true, true, true, false, false] rfl rfl (any_of HT_.out (by kernel_rfl)) (fun _ _ _ h => h) (Or.inl ⟨by rfl, ?_⟩) ?_ ?_
   rotate_left
   ·intro w'
    go_simp
    with_reducible rfl
   rotate_left
   ·simp only [Act.put, List.setIfInBounds_toArray, List.set_cons_zero, List.set_cons_succ, i64_w, i32_w]
    rfl
   exact norm_ (by simp only [putAll, Act.put, List.setIfInBounds_toArray, List.set_cons_zero, List.set_cons_succ]) (hCont (.slice A6T Ty.length c6T, .slice A6L Ly.length c6L, .slice A6C Cy.length c6C, v3, v4, v5, gb) _ ⟨hX, hR, hQ, hG6, hG9, hZ, hG, hge14, n6, n9⟩)
 rintro ⟨v0, v1, v2, v3, v4, v5, g14⟩ w21 ⟨hX, hR, hQ, hG6, hG9, hZ, hG, hge14, n6, n9⟩
 obtain ⟨A4T, c4T, eT⟩ := Kd.R_slice hZ.oT
 subst eT
 obtain ⟨A4L, c4L, eL⟩ := Kd.R_slice hZ.oL
 subst eL
 obtain ⟨A4C, c4C, eC⟩ := Kd.R_slice hZ.oC
 subst eC
 refine norm_ (a' := ?_) ?_ ?_
 rotate_left
 ·simp only [putAll, Act.put, List.setIfInBounds_toArray, List.set_cons_zero, List.set_cons_succ]
  rfl
 refine one_ (i := 9) (N := none) #[true, true, true, true, true, true, true, true, true, true, false] rfl rfl (one_of HT_.out (by kernel_rfl)) (by decide) (fun K hK => ?_)
 obtain ⟨q0, q1, q2⟩ := cells3 hG
 have z0 := blk_frozen hG 0
 have z1 := blk_frozen hG 1
 have z2 := blk_frozen hG 2
 refine skip_ (w1 := ?_) (by rfl) rfl ?_ ?_
 rotate_left
 ·go_simp
  rfl
 replace hR := store_bk (x := .slice A4T T4.length c4T) (y := .slice A4L L4.length c4L) (z := .slice A4C C4.length c4C) hR hG
 replace hQ := store_bk (x := .slice A4T T4.length c4T) (y := .slice A4L L4.length c4L) (z := .slice A4C C4.length c4C) hQ hG
 replace hG6 := store_box (x := .slice A4T T4.length c4T) (y := .slice A4L L4.length c4L) (z := .slice A4C C4.length c4C) hG6 n6
 replace hG9 := store_box (x := .slice A4T T4.length c4T) (y := .slice A4L L4.length c4L) (z := .slice A4C C4.length c4C) hG9 n9
 obtain ⟨hX, hZ, hG14⟩ := law_store hX hZ hG hge14
 refine hK.out _ _ hX (fun _ => ?_)
 clear hK K hG q0 q1 q2 z0 z1 z2
 refine pure_ (i := 10) (N := some 15) (v := ?_) (a' := ?_) #[true, true, true, true, true, true, true, true, true, true, true] rfl rfl (any_of HT_.out (by kernel_rfl)) (fun _ _ _ h => h) (Or.inl ⟨by rfl, ?_⟩) ?_ ?_
 rotate_left
 ·intro w'
  go_simp
  with_reducible rfl
 rotate_left
 ·simp only [Act.put, List.setIfInBounds_toArray, List.set_cons_zero, List.set_cons_succ, i64_w, i32_w]
  rfl
 refine done_ (done_of HT_.out (by kernel_rfl)) ?_
 generalize (((w21.setCell ⟨g14, 0, none⟩ (.slice A4T T4.length c4T)).setCell ⟨g14, 1, none⟩ (.slice A4L L4.length c4L)).setCell ⟨g14, 2, none⟩ (.slice A4C C4.length c4C)) = w22 at hX hR hQ hZ hG6 hG9 hG14 ⊢
 obtain ⟨q0, q1, q2⟩ := cells3 hG14
 obtain ⟨s0, s1, s2⟩ := cells3 hG6
 go_upto_region 27 with (first
  | (go_at_call 13; (with_reducible refine (laws_eqBook.calls k2 _ _ T4 _ _ L4 _ _ C4 _ _ T1 _ _ L1 _ _ C1 true _ (Kd.R_reads' hZ.oT).2.2 (Kd.R_reads' hZ.oT).2.1 (Kd.R_reads' hZ.oL).2.2 (Kd.R_reads' hZ.oL).2.1 (Kd.R_reads' hZ.oC).2.2 (Kd.R_reads' hZ.oC).2.1 (Kd.R_reads' hR.oT).2.2 (Kd.R_reads' hR.oT).2.1 (Kd.R_reads' hR.oL).2.2 (Kd.R_reads' hR.oL).2.1 (Kd.R_reads' hR.oC).2.2 (Kd.R_reads' hR.oC).2.1 F.out.eq3).mono ?_); rintro e w23 ⟨rfl, kf⟩; replace hX := hX.below kf; replace hQ := hQ.below kf; replace hG9 := blk_below hG9 kf; clear kf q0 q1 q2 s0 s1 s2))
 obtain ⟨q0, q1, q2⟩ := cells3 hG9
 go_wp2_with (first
  | (go_at_call 17; (with_reducible refine (laws_heldBook.calls k3 _ _ T3 _ _ L3 _ _ C3 1 q _ (Kd.R_reads' hQ.oT).2.2 (Kd.R_reads' hQ.oT).2.1 (Kd.R_reads' hQ.oL).2.2 (Kd.R_reads' hQ.oL).2.1 (Kd.R_reads' hQ.oC).2.2 (Kd.R_reads' hQ.oC).2.1 F.out.hd2).mono ?_); rintro e w25 ⟨rfl, kf⟩; replace hX := hX.below kf; clear kf q0 q1 q2))
 go_ret
 exact ⟨rfl, hX.bel⟩

end Go.Proofs.Ytngnkfpciloamaa.MFnExactAdd18
