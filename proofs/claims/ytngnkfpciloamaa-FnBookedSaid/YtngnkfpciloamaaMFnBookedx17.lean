/- What the code of the law FnBooked answers. -/
import Derived.Test.YtngnkfpciloamaaShortFnBooked
import Derived.Test.YtngnkfpciloamaaMFnBookedx12
import Derived.Test.YtngnkfpciloamaaMFnBookedx13
import Derived.Test.YtngnkfpciloamaaMFnBookedx15
import Derived.Test.YtngnkfpciloamaaMFnBookedx16
import Derived.Test.YtngnkfpciloamaaMFnBookedx19
namespace Go.Proofs.Ytngnkfpciloamaa.MFnBooked
open Go Go.RowKit Go.Proofs.YtngnkfpciloamaaW.PrintWords Go.Proofs.YtngnkfpciloamaaW.PrintLast Go.Proofs.YtngnkfpciloamaaW.PrintMore
theorem sq1 {α : Type _} (l : List α) (i : Nat) (a : α) : l.toArray.setIfInBounds i a = (l.set i a).toArray := s1 l i a
theorem sq2 {α : Type _} {x : α} {xs : List α} {a : α} : (x :: xs).set 0 a = a :: xs := s2
theorem sq3 {α : Type _} {x : α} {xs : List α} {i : Nat} {a : α} : (x :: xs).set (i + 1) a = x :: xs.set i a := s3
attribute [local go_sem] max2_int min2_int max_two min_two max_three min_three max_four min_four
set_option linter.unusedVariables false
set_option linter.unusedSimpArgs false
section
theorem R_selfT {W : World} {base : Nat} {ok : Nat → Prop} {v : Value} {xs : List S50} (h : Kd.R k50 50 W base ok v xs) : Kd.R k50 50 W base (fun k => some k = v.ownBlock) v xs :=
 ⟨fun k hk => hk.symm, h.2.imp_ (fun _ _ hp => by rw [k50_openM hp]; exact k50_mkM _ _ _ _)⟩
theorem R_selfI {W : World} {base : Nat} {ok : Nat → Prop} {v : Value} {xs : List Int} (h : Kd.R (Kd.int .i64) 3 W base ok v xs) : Kd.R (Kd.int .i64) 3 W base (fun k => some k = v.ownBlock) v xs :=
 ⟨fun k hk => hk.symm, h.2.imp_ (fun _ _ hp => hp)⟩
def bkOwn (vT vL vC : Value) (k : Nat) : Prop := some k = vT.ownBlock ∨ some k = vL.ownBlock ∨ some k = vC.ownBlock
structure Bk (W : World) (base : Nat) (vT vL vC : Value) (T : List S50) (L C : List Int) : Prop where
 oT : Kd.R k50 50 W base (fun k => some k = vT.ownBlock) vT T
 oL : Kd.R (Kd.int .i64) 3 W base (fun k => some k = vL.ownBlock) vL L
 oC : Kd.R (Kd.int .i64) 3 W base (fun k => some k = vC.ownBlock) vC C
 ne : ∀ k, some k = vL.ownBlock → ¬ some k = vC.ownBlock
variable {W W' : World} {base : Nat} {vT vL vC : Value} {T : List S50} {L C : List Int}
theorem Bk.of {okT : Nat → Prop} (hT : Kd.R k50 50 W base okT vT T) (hL : Kd.R (Kd.int .i64) 3 W base (fun k => some k ≠ vC.ownBlock) vL L) (hC : Kd.R (Kd.int .i64) 3 W base (fun k => some k ≠ vL.ownBlock) vC C) : Bk W base vT vL vC T L C :=
 ⟨R_selfT hT, R_selfI hL, R_selfI hC, fun k hk => hL.1 k hk.symm⟩
theorem Bk.below (h : Bk W base vT vL vC T L C) (hB : Below W.heap.size W W') : Bk W' base vT vL vC T L C := ⟨Kd.R_below h.oT hB, Kd.R_below h.oL hB, Kd.R_below h.oC hB, h.ne⟩
theorem Bk.lower {b : Nat} (h : Bk W base vT vL vC T L C) (hb : b ≤ base) : Bk W b vT vL vC T L C := ⟨Kd.R_lower h.oT hb, Kd.R_lower h.oL hb, Kd.R_lower h.oC hb, h.ne⟩
theorem Bk.set {g j : Nat} {cs : Array Value} (h : Bk W base vT vL vC T L C) (hb : W.heap[g]? = some (.cells cs 29 (0, 0))) (x : Value) : Bk (W.setCell ⟨g, j, none⟩ x) base vT vL vC T L C :=
 ⟨R_set h.oT hb (by decide) j x, R_set h.oL hb (by decide) j x, R_set h.oC hb (by decide) j x, h.ne⟩
theorem Bk.lt (h : Bk W base vT vL vC T L C) {k : Nat} (hk : bkOwn vT vL vC k) : k < W.heap.size := by
 rcases hk with hk | hk | hk
 ·exact Kd.R_lt h.oT k hk.symm
 ·exact Kd.R_lt h.oL k hk.symm
 ·exact Kd.R_lt h.oC k hk.symm
theorem Bk.ge (h : Bk W base vT vL vC T L C) {k : Nat} (hk : bkOwn vT vL vC k) : base ≤ k := by
 rcases hk with hk | hk | hk
 ·exact Kd.R_base h.oT k hk.symm
 ·exact Kd.R_base h.oL k hk.symm
 ·exact Kd.R_base h.oC k hk.symm
theorem Bk.box (h : Bk W base vT vL vC T L C) {g : Nat} {cs : Array Value} {t : TypeId} (hb : W.heap[g]? = some (.cells cs t (0, 0))) (ht : t ≠ 50 ∧ t ≠ 3) : ¬ bkOwn vT vL vC g := by
 rintro (hk | hk | hk)
 ·exact Kd.R_ne h.oT hb (Ne.symm ht.1) hk
 ·exact Kd.R_ne h.oL hb (Ne.symm ht.2) hk
 ·exact Kd.R_ne h.oC hb (Ne.symm ht.2) hk
theorem Bk.kept {uT uL uC : Value} (h : Bk W base vT vL vC T L C) (hk : Kept W W' (bkOwn uT uL uC)) (hd : ∀ k, bkOwn vT vL vC k → ¬ bkOwn uT uL uC k) : Bk W' base vT vL vC T L C :=
 ⟨Kd.R_kept h.oT hk (fun k h_ => hd k (.inl h_)), Kd.R_kept h.oL hk (fun k h_ => hd k (.inr (.inl h_))), Kd.R_kept h.oC hk (fun k h_ => hd k (.inr (.inr h_))), h.ne⟩
end
section
variable {w0 w W W' : World} {g gr g5 : Nat} {b : List Int} {i h i' h' : Int} {vT vL vC : Value} {T T' : List S50} {L C L' C' : List Int}
structure Da (w0 w W : World) (g gr : Nat) (b : List Int) (i h : Int) : Prop where
 cur : IsS87 w0 W g b i h
 bel : Below w0.heap.size w0 W
 kep : KeepBut w W g none
 hr : W.heap[gr]? = some (.cells #[.slice none 0 0, .slice none 0 0, .slice none 0 0] 29 (0, 0))
 ge : w.heap.size ≤ gr
 ws : w0.heap.size ≤ w.heap.size
theorem Da.start (hI : IsS87 w0 w g b i h) (hB : Below w0.heap.size w0 w) (hg : gr = w.heap.size) (hr : W.heap[gr]? = some (.cells #[.slice none 0 0, .slice none 0 0, .slice none 0 0] 29 (0, 0))) (hk : Below w.heap.size w W) : Da w0 w W g gr b i h :=
 ⟨hI.below hk, hB.trans (hk.mono hB.size), KeepBut.of_below hk g none, hr, Nat.le_of_eq hg.symm, hB.size⟩
theorem Da.neg (a : Da w0 w W g gr b i h) : g ≠ gr := a.cur.ne_blk a.hr (by decide)
theorem Da.below (a : Da w0 w W g gr b i h) (hB : Below W.heap.size W W') : Da w0 w W' g gr b i h :=
 ⟨a.cur.below hB, a.bel.trans (hB.mono a.bel.size), a.kep.trans (KeepBut.of_below hB g none) (.inl rfl), blk_below a.hr hB, a.ge, a.ws⟩
theorem Da.cursor (a : Da w0 w W g gr b i h) (hi : IsS87 w0 W' g b i' h') (hb : Below w0.heap.size w0 W') (hk : KeepBut W W' g none) : Da w0 w W' g gr b i' h' :=
 ⟨hi, hb, a.kep.trans hk (.inl rfl), hk.blk a.hr (Ne.symm a.neg) (by simp), a.ge, a.ws⟩
theorem Da.far {p : Addr} (a : Da w0 w W g gr b i h) (hp : w.heap.size ≤ p.block) (hg : g ≠ p.block) (hr : gr ≠ p.block) (u : Value) : Da w0 w (W.setCell p u) g gr b i h :=
 ⟨a.cur.far hg u, a.bel.setCell (Nat.le_trans a.ws hp) u, keep_far a.kep hp u, blk_far a.hr hr u, a.ge, a.ws⟩
theorem Da.grown {row : Option Nat} (a : Da w0 w W g gr b i h) (hB : Below w.heap.size W W') (hG : W.grownBy W' row) (hg : some g ≠ row) (hr : some gr ≠ row) : Da w0 w W' g gr b i h :=
 ⟨a.cur.grown hG hg, a.bel.trans (hB.mono a.ws), ⟨Nat.le_trans a.kep.1 hB.size, fun k hk hne hr_ => (hB.block k hk).trans (a.kep.2 k hk hne hr_)⟩, blk_grown a.hr hG hr, a.ge, a.ws⟩
theorem R_cur {α : Type} {kd : Kd α} {e base : Nat} {ok : Nat → Prop} {v : Value} {xs : List α} (hI : IsS87 w0 W g b i h) (o : Kd.R kd e W base ok v xs) (ht : ∀ q, q ∈ e :: kd.E → q ≠ 87) (hk : KeepBut W W' g none) : Kd.R kd e W' base ok v xs :=
 Kd.R_mono (Kd.R_keep (IsS87.apart hI o ht) hk (fun _ h => h.2)) (fun _ h => h.1)
structure Dr (w0 w W : World) (g gr g5 : Nat) (b : List Int) (i h : Int) (vT vL vC : Value) (T : List S50) (L C : List Int) : Prop where
 a : Da w0 w W g gr b i h
 hb : W.heap[g5]? = some (.cells #[vT, vL, vC] 29 (0, 0))
 bk : Bk W w.heap.size vT vL vC T L C
 ge : w.heap.size ≤ g5
 ne : gr ≠ g5
theorem Dr.neg (d : Dr w0 w W g gr g5 b i h vT vL vC T L C) : g ≠ g5 := d.a.cur.ne_blk d.hb (by decide)
theorem Dr.below (d : Dr w0 w W g gr g5 b i h vT vL vC T L C) (hB : Below W.heap.size W W') : Dr w0 w W' g gr g5 b i h vT vL vC T L C :=
 ⟨d.a.below hB, blk_below d.hb hB, d.bk.below hB, d.ge, d.ne⟩
theorem Dr.cursor (d : Dr w0 w W g gr g5 b i h vT vL vC T L C) (hi : IsS87 w0 W' g b i' h') (hb : Below w0.heap.size w0 W') (hk : KeepBut W W' g none) : Dr w0 w W' g gr g5 b i' h' vT vL vC T L C :=
 ⟨d.a.cursor hi hb hk, hk.blk d.hb (Ne.symm d.neg) (by simp), ⟨R_cur d.a.cur d.bk.oT (by decide) hk, R_cur d.a.cur d.bk.oL (by decide) hk, R_cur d.a.cur d.bk.oC (by decide) hk, d.bk.ne⟩, d.ge, d.ne⟩
theorem Bk.far {base : Nat} {p : Addr} (k : Bk W base vT vL vC T L C) (hne : ∀ j, bkOwn vT vL vC j → j ≠ p.block) (u : Value) : Bk (W.setCell p u) base vT vL vC T L C :=
 ⟨Kd.R_far k.oT (fun j hj => hne j (.inl hj)) u, Kd.R_far k.oL (fun j hj => hne j (.inr (.inl hj))) u, Kd.R_far k.oC (fun j hj => hne j (.inr (.inr hj))) u, k.ne⟩
theorem Dr.far {p : Addr} (d : Dr w0 w W g gr g5 b i h vT vL vC T L C) (hp : w.heap.size ≤ p.block) (hg : g ≠ p.block) (hr : gr ≠ p.block) (h5 : g5 ≠ p.block) (hk : ∀ j, bkOwn vT vL vC j → j ≠ p.block) (u : Value) : Dr w0 w (W.setCell p u) g gr g5 b i h vT vL vC T L C :=
 ⟨d.a.far hp hg hr u, blk_far d.hb h5 u, d.bk.far hk u, d.ge, d.ne⟩
theorem Da.put {x y z : Value} (a : Da w0 w W g gr b i h) (hb : W.heap[g5]? = some (.cells #[x, y, z] 29 (0, 0))) (ge : w.heap.size ≤ g5) (ne : gr ≠ g5) (hN : Bk W w.heap.size vT vL vC T L C) : Dr w0 w (((W.setCell ⟨g5, 0, none⟩ vT).setCell ⟨g5, 1, none⟩ vL).setCell ⟨g5, 2, none⟩ vC) g gr g5 b i h vT vL vC T L C := by
 have P1 := blk_put hb 0 vT (cs' := #[vT, y, z]) rfl
 have P2 := blk_put P1 1 vL (cs' := #[vT, vL, z]) rfl
 have P3 := blk_put P2 2 vC (cs' := #[vT, vL, vC]) rfl
 have ng : g ≠ g5 := a.cur.ne_blk hb (by decide)
 exact ⟨((a.far (p := ⟨g5, 0, none⟩) ge ng ne vT).far (p := ⟨g5, 1, none⟩) ge ng ne vL).far (p := ⟨g5, 2, none⟩) ge ng ne vC, P3, ((hN.set hb vT).set P1 vL).set P2 vC, ge, ne⟩
theorem Dr.put {uT uL uC : Value} (d : Dr w0 w W g gr g5 b i h vT vL vC T L C) (hN : Bk W w.heap.size uT uL uC T' L' C') : Dr w0 w (((W.setCell ⟨g5, 0, none⟩ uT).setCell ⟨g5, 1, none⟩ uL).setCell ⟨g5, 2, none⟩ uC) g gr g5 b i h uT uL uC T' L' C' :=
 d.a.put d.hb d.ge d.ne hN
theorem Dr.append {v1 : Value} (d : Dr w0 w W g gr g5 b i h vT vL vC T L C) (ho : Kd.R k50 50 W' w.heap.size (fun _ => True) v1 T') (hB : Below w.heap.size W W') (hG : W.grownBy W' vT.ownBlock) :
  W'.heap[g5]? = some (.cells #[vT, vL, vC] 29 (0, 0)) ∧ Dr w0 w (W'.setCell ⟨g5, 0, none⟩ v1) g gr g5 b i h v1 vL vC T' L C := by
 have B := blk_grown d.hb hG (Kd.R_ne d.bk.oT d.hb (by decide))
 have oL := Kd.R_over' d.bk.oL (Kd.R_typed d.bk.oT) (by decide) hG
 have oC := Kd.R_over' d.bk.oC (Kd.R_typed d.bk.oT) (by decide) hG
 have a' := d.a.grown hB hG (d.a.cur.own_ne d.bk.oT (by decide)) (Kd.R_ne d.bk.oT d.a.hr (by decide))
 have ng : g ≠ g5 := a'.cur.ne_blk B (by decide)
 have k' : Bk W' w.heap.size v1 vL vC T' L C := ⟨R_selfT ho, oL, oC, d.bk.ne⟩
 exact ⟨B, a'.far (p := ⟨g5, 0, none⟩) d.ge ng d.ne v1, blk_put B 0 v1 rfl, k'.set B v1, d.ge, d.ne⟩
theorem Dr.line {go n c : Nat} (d : Dr w0 w W g gr g5 b i h vT (.slice (some ⟨go, 0, none⟩) n c) vC T L C) (r x : Int) : Dr w0 w (W.setCell ⟨go, r.toNat, none⟩ (.int .i64 x)) g gr g5 b i h vT (.slice (some ⟨go, 0, none⟩) n c) vC T (L.set r.toNat x) C := by
 have own : (Value.slice (some ⟨go, 0, none⟩) n c).ownBlock = some go := rfl
 have hge : w.heap.size ≤ go := Kd.R_base d.bk.oL go rfl
 obtain ⟨cs, hG⟩ := Kd.R_typed d.bk.oL go rfl
 have n1 : g ≠ go := fun e => d.a.cur.own_ne d.bk.oL (by decide) (by rw [e]; rfl)
 have n2 : gr ≠ go := fun e => Kd.R_ne d.bk.oL d.a.hr (by decide) (by rw [e]; rfl)
 have n3 : g5 ≠ go := fun e => Kd.R_ne d.bk.oL d.hb (by decide) (by rw [e]; rfl)
 refine ⟨d.a.far hge n1 n2 _, blk_far d.hb n3 _, ⟨?_, Kd.R_putn d.bk.oL r x, ?_, d.bk.ne⟩, d.ge, d.ne⟩
 ·exact Kd.R_mono (Kd.R_far (p := ⟨go, r.toNat, none⟩) (Kd.R_types d.bk.oT hG (by decide)) (fun _ hk => hk.2) _) (fun _ hk => hk.1)
 ·exact Kd.R_far (p := ⟨go, r.toNat, none⟩) d.bk.oC (fun j hj e => d.bk.ne j (by rw [e]; rfl) hj) _
theorem Dr.circ {go n c : Nat} (d : Dr w0 w W g gr g5 b i h vT vL (.slice (some ⟨go, 0, none⟩) n c) T L C) (r x : Int) : Dr w0 w (W.setCell ⟨go, r.toNat, none⟩ (.int .i64 x)) g gr g5 b i h vT vL (.slice (some ⟨go, 0, none⟩) n c) T L (C.set r.toNat x) := by
 have hge : w.heap.size ≤ go := Kd.R_base d.bk.oC go rfl
 obtain ⟨cs, hG⟩ := Kd.R_typed d.bk.oC go rfl
 have n1 : g ≠ go := fun e => d.a.cur.own_ne d.bk.oC (by decide) (by rw [e]; rfl)
 have n2 : gr ≠ go := fun e => Kd.R_ne d.bk.oC d.a.hr (by decide) (by rw [e]; rfl)
 have n3 : g5 ≠ go := fun e => Kd.R_ne d.bk.oC d.hb (by decide) (by rw [e]; rfl)
 refine ⟨d.a.far hge n1 n2 _, blk_far d.hb n3 _, ⟨?_, ?_, Kd.R_putn d.bk.oC r x, d.bk.ne⟩, d.ge, d.ne⟩
 ·exact Kd.R_mono (Kd.R_far (p := ⟨go, r.toNat, none⟩) (Kd.R_types d.bk.oT hG (by decide)) (fun _ hk => hk.2) _) (fun _ hk => hk.1)
 ·exact Kd.R_far (p := ⟨go, r.toNat, none⟩) d.bk.oL (fun j hj e => d.bk.ne j hj (by rw [e]; rfl)) _
theorem blk_of {A : Option Addr} {n c m : Nat} (hne : some g ≠ (Value.slice A n c).ownBlock) : ∀ ad, A = some ad → 0 < m → ad.block ≠ g := by
 rintro ad rfl _ rfl
 exact hne (by simp [Value.ownBlock])
end
structure Facts : Prop where
 below : ∀ (b : List Int) (i h n : Int), b.length ≤ 1048576 → 0 ≤ i → i ≤ 1048576 → ∃ v i' h', spec_l1Below.f b i h n = some (v, i', h') ∧ 0 ≤ v ∧ (0 < n → v < n) ∧ (n ≤ 0 → v = 0) ∧ 0 ≤ i' ∧ i' ≤ 1048576
 write : ∀ (T : List S50) (a b : Int), T.length ≤ 30 → 0 ≤ a → a ≤ 30 → 0 ≤ b → b ≤ 30 → ∃ k L C, spec_l18Write.f k T a b = some (T, L, C) ∧ (L.length : Int) = a ∧ (C.length : Int) = b
 add : ∀ (T : List S50) (L C : List Int) (x y z : Int), T.length ≤ 30 → L.length ≤ 30 → C.length ≤ 30 → ∃ k T1 L1 C1 o, spec_Add18.f k T L C x y z = some (T1, L1, C1, o) ∧ T1.length ≤ 30 ∧ L1.length = L.length ∧ C1.length = C.length
section
variable (F : Facts) (b : List Int) (i h : Int) (hb : b.length ≤ 1048576) (h0 : 0 ≤ i) (h1 : i ≤ 1048576)
include F hb h0 h1
theorem Facts.once (n : Int) : ∃ r i' h', spec_l1Once.f b i h n = some (r, i', h') ∧ 0 ≤ i' ∧ i' ≤ 1048576 := by
 obtain ⟨v, i', h', e, _, _, _, p, q⟩ := F.below b i h n hb h0 h1
 exact ⟨_, _, _, by unfold spec_l1Once.f; rw [e]; rfl, p, q⟩
theorem Facts.talk (T : List S50) (L C : List Int) : ∃ x y z i' h', spec_l18DrawTalk.f b i h T L C = some (x, y, z, i', h') ∧ 0 ≤ i' ∧ i' ≤ 1048576 := by
 obtain ⟨v, i1, h1', e1, _, _, _, p1, q1⟩ := F.below b i h L.length hb h0 h1
 obtain ⟨v2, i2, h2, e2, _, _, _, p2, q2⟩ := F.below b i1 h1' L.length hb p1 q1
 obtain ⟨v3, i3, h3, e3, _, _, _, p3, q3⟩ := F.below b i2 h2 (wrap64 ((C.length : Int) + 1)) hb p2 q2
 exact ⟨v, v2, wrap64 (v3 - 1), i3, h3, Option.bind_eq_some_iff.mpr ⟨(v, i1, h1'), e1, Option.bind_eq_some_iff.mpr ⟨(v2, i2, h2), e2, Option.bind_eq_some_iff.mpr ⟨(v3, i3, h3), e3, rfl⟩⟩⟩, p3, q3⟩
end
theorem size_some (l : List Int) (a : Int) : ∃ r, spec_l1Size.f l a = some r ∧ r ≤ a := by
 unfold spec_l1Size.f
 split
 ·exact ⟨_, rfl, Int.le_refl _⟩
 ·exact ⟨_, rfl, by omega⟩
structure Sz (b : List Int) (i : Int) (T : List S50) (L C : List Int) : Prop where
 hb : b.length ≤ 1048576
 i0 : 0 ≤ i
 i1 : i ≤ 1048576
 t : T.length ≤ 30
 l0 : 0 < L.length
 l : L.length ≤ 30
 c : C.length ≤ 30
theorem wrap_small {x : Int} (h0 : -9223372036854775808 ≤ x) (h1 : x ≤ 9223372036854775807) : wrap64 x = x := by
 unfold wrap64; omega
def spec_l18Draw.T15 : Bool × List (List Nat × List Nat) := (true, [([], []), ([0], [0]), ([], []), ([], []), ([3], [3]), ([4], [4]), ([2, 5], [2, 5]), ([], []), ([7, 6], [7]), ([8], [8]), ([1, 6, 0, 1, 2, 3, 4, 5, 6, 7, 8, 9], [1, 6]), ([10, 9, 8, 0, 1, 2, 3, 4, 5, 6, 7, 8, 9], [9, 10])])
def spec_l18Draw.B15 : List Nat := [0, 1, 0, 0, 8, 24, 60, 0, 252, 508, 1023, 2047]
theorem spec_l18Draw.tab15 : rtab .any (opsOf Try.f64 15) = spec_l18Draw.T15 := by kernel_rfl
theorem spec_l18Draw.bits15 : waitsOk spec_l18Draw.T15.2 spec_l18Draw.B15 = true := by kernel_rfl
def spec_l18Draw.T17 : Bool × List (List Nat × List Nat) := (true, [([], []), ([0], [0]), ([], []), ([], []), ([3], [3]), ([4], [4]), ([2, 5], [2, 5]), ([], []), ([7, 6], [7]), ([8], [8]), ([1, 6, 0, 1, 2, 3, 4, 5, 6, 7, 8, 9], [1, 6]), ([10, 9, 8, 0, 1, 2, 3, 4, 5, 6, 7, 8, 9], [9, 10])])
def spec_l18Draw.B17 : List Nat := [0, 1, 0, 0, 8, 24, 60, 0, 252, 508, 1023, 2047]
theorem spec_l18Draw.tab17 : rtab .any (opsOf Try.f64 17) = spec_l18Draw.T17 := by kernel_rfl
theorem spec_l18Draw.bits17 : waitsOk spec_l18Draw.T17.2 spec_l18Draw.B17 = true := by kernel_rfl
theorem store_bk {W : World} {g base : Nat} {vT vL vC a b c x y z : Value} {T : List S50} {L C : List Int} (h : Bk W base vT vL vC T L C) (hG : W.heap[g]? = some (.cells #[a, b, c] 29 (0, 0))) : Bk (((W.setCell ⟨g, 0, none⟩ x).setCell ⟨g, 1, none⟩ y).setCell ⟨g, 2, none⟩ z) base vT vL vC T L C := by
 have P1 := blk_put hG 0 x (cs' := #[x, b, c]) rfl
 have P2 := blk_put P1 1 y (cs' := #[x, y, c]) rfl
 exact ((h.set hG x).set P1 y).set P2 z
theorem put3 {W : World} {g : Nat} {a b c : Value} {t : TypeId} (hG : W.heap[g]? = some (.cells #[a, b, c] t (0, 0))) (x y z : Value) : (((W.setCell ⟨g, 0, none⟩ x).setCell ⟨g, 1, none⟩ y).setCell ⟨g, 2, none⟩ z).heap[g]? = some (.cells #[x, y, z] t (0, 0)) := by
 have P1 := blk_put hG 0 x (cs' := #[x, b, c]) rfl
 have P2 := blk_put P1 1 y (cs' := #[x, y, c]) rfl
 exact blk_put P2 2 z rfl
theorem far3 {W : World} {g k : Nat} {cs : Array Value} {t : TypeId} (hG : W.heap[k]? = some (.cells cs t (0, 0))) (hne : k ≠ g) (x y z : Value) : (((W.setCell ⟨g, 0, none⟩ x).setCell ⟨g, 1, none⟩ y).setCell ⟨g, 2, none⟩ z).heap[k]? = some (.cells cs t (0, 0)) :=
 blk_far (blk_far (blk_far hG hne _) hne _) hne _
theorem Dr.far3 {w0 w W : World} {g gr g5 q : Nat} {b : List Int} {i h : Int} {vT vL vC : Value} {T : List S50} {L C : List Int} (d : Dr w0 w W g gr g5 b i h vT vL vC T L C) (hp : w.heap.size ≤ q) (hg : g ≠ q) (hr : gr ≠ q) (h5 : g5 ≠ q) (hk : ∀ j, bkOwn vT vL vC j → j ≠ q) (x y z : Value) : Dr w0 w (((W.setCell ⟨q, 0, none⟩ x).setCell ⟨q, 1, none⟩ y).setCell ⟨q, 2, none⟩ z) g gr g5 b i h vT vL vC T L C :=
 ((d.far (p := ⟨q, 0, none⟩) hp hg hr h5 hk x).far (p := ⟨q, 1, none⟩) hp hg hr h5 hk y).far (p := ⟨q, 2, none⟩) hp hg hr h5 hk z
theorem Dr.fin {w0 w W : World} {g gr g5 : Nat} {b : List Int} {i h : Int} {vT vL vC : Value} {T : List S50} {L C : List Int} (d : Dr w0 w W g gr g5 b i h vT vL vC T L C) :
  (((W.setCell ⟨gr, 0, none⟩ vT).setCell ⟨gr, 1, none⟩ vL).setCell ⟨gr, 2, none⟩ vC).heap[gr]? = some (.cells #[vT, vL, vC] 29 (0, 0)) ∧ Bk (((W.setCell ⟨gr, 0, none⟩ vT).setCell ⟨gr, 1, none⟩ vL).setCell ⟨gr, 2, none⟩ vC) w.heap.size vT vL vC T L C ∧ IsS87 w0 (((W.setCell ⟨gr, 0, none⟩ vT).setCell ⟨gr, 1, none⟩ vL).setCell ⟨gr, 2, none⟩ vC) g b i h ∧ Below w0.heap.size w0 (((W.setCell ⟨gr, 0, none⟩ vT).setCell ⟨gr, 1, none⟩ vL).setCell ⟨gr, 2, none⟩ vC) ∧ KeepBut w (((W.setCell ⟨gr, 0, none⟩ vT).setCell ⟨gr, 1, none⟩ vL).setCell ⟨gr, 2, none⟩ vC) g none :=
 have ng := d.a.neg
 have g0 : w0.heap.size ≤ gr := Nat.le_trans d.a.ws d.a.ge
 ⟨put3 d.a.hr _ _ _, store_bk d.bk d.a.hr, ((d.a.cur.far (p := ⟨gr, 0, none⟩) ng _).far (p := ⟨gr, 1, none⟩) ng _).far (p := ⟨gr, 2, none⟩) ng _, ((d.a.bel.setCell (p := ⟨gr, 0, none⟩) g0 _).setCell (p := ⟨gr, 1, none⟩) g0 _).setCell (p := ⟨gr, 2, none⟩) g0 _, keep_far (keep_far (keep_far d.a.kep (p := ⟨gr, 0, none⟩) d.a.ge _) (p := ⟨gr, 1, none⟩) d.a.ge _) (p := ⟨gr, 2, none⟩) d.a.ge _⟩
set_option maxHeartbeats 1000000 in
set_option maxRecDepth 100000 in
theorem spec_l18Draw.drawn (F : Facts) (g : Nat) (b : List Int) (ia ha : Int) (A1 : Option Addr) (c1 : Nat) (l1 : List Int) (w0 w : World) (hI : IsS87 w0 w g b ia ha) (hB : Below w0.heap.size w0 w) (hr1 : Kd.C (Kd.int .u8) w0 A1 l1.length l1) (hc1 : l1.length ≤ c1) (hb : b.length ≤ 1048576) (h0 : 0 ≤ ia) (h1 : ia ≤ 1048576) :
  Calls Try.prog 64 #[.pointer (some ⟨g, 0, none⟩), .slice A1 l1.length c1] w fun e w' => ∃ (vT vL vC : Value) (T : List S50) (L C : List Int) (i' h' : Int), e = .returned (.agg #[vT, vL, vC]) ∧ Bk w' w.heap.size vT vL vC T L C ∧ Sz b i' T L C ∧ IsS87 w0 w' g b i' h' ∧ Below w0.heap.size w0 w' ∧ KeepBut w w' g none := by
 have hu29 := Try.underlying29
 have hu50 := Try.underlying50
 obtain ⟨v1, i1, s1, B1, p1, p2, _, p3, p4⟩ := F.below b ia ha 12 hb h0 h1
 obtain ⟨v2, i2, s2, B2, p5, p6, _, p7, p8⟩ := F.below b i1 s1 6 hb p3 p4
 replace p2 := p2 (by omega)
 replace p6 := p6 (by omega)
 obtain ⟨Y, hY⟩ : ∃ Y : List S50, Y = [] := ⟨_, rfl⟩
 have hw1 : wrap64 (1 + v1) = 1 + v1 := wrap_small (by omega) (by omega)
 obtain ⟨k, L0, C0, B3, lL, lC⟩ := F.write Y (wrap64 (1 + v1)) v2 (by rw [hY]; simp) (by omega) (by omega) p5 (by omega)
 obtain ⟨z, B4, hz⟩ := size_some l1 14
 obtain ⟨v3, i3, s3, B5, p9, p10, p11, p12, p13⟩ := F.below b i2 s2 z hb p7 p8
 have hv3 : v3 ≤ 14 := by
  by_cases hp : 0 < z
  ·have := p10 hp; omega
  ·have := p11 (by omega); omega
 have hS : Sz b i3 Y L0 C0 := ⟨hb, p12, p13, by rw [hY]; simp, by omega, by omega, by omega⟩
 replace hY := mk0 hY
 replace B1 := mk0 B1
 replace B2 := mk0 B2
 replace B3 := mk0 B3
 replace B4 := mk0 B4
 replace B5 := mk0 B5
 replace hv3 := mk0 (show 0 ≤ v3 ∧ v3 ≤ 14 from ⟨p9, hv3⟩)
 clear p1 p2 p3 p4 p5 p6 p7 p8 p9 p10 p11 p12 p13 lL lC hw1 hz h0 h1
 go_enter Try.func64, Try.ntmps64
 go_upto_region 2 with (first
  | ((with_reducible refine gate_dst (N := 4) rfl ?_); (try (refine gate_guard (by rfl) ?_; dsimp only)); refine box_event ?hg (N := 4) ?hd (cs := #[.slice none 0 0, .slice none 0 0, .slice none 0 0]) (t := 29) ?hr ?_; (case hd | hg => rfl); (case hr => first | (go_simp; done) | (go_simp; rfl)); intro gr hg wb hbox kf; have hA := Da.start hI hB hg hbox kf; clear hg hbox kf)
  | ((with_reducible refine gate_dst (N := 11) rfl ?_); (try (refine gate_guard (by rfl) ?_; dsimp only)); refine Kd.R_lit k50 _ 50 ?hg (N := 11) ?hd (xs := ([] : List (S50))) (inner := []) (ok := fun _ => True) (okp := fun _ => True) ?hr ?hp (fun _ hk => hk) trivial (Below.refl _ _) (Nat.le_refl _) (by simp) ?_; (case hd | hg => rfl); (case hr => first | (go_simp; done) | (go_simp; rfl)); (case hp => exact (Reps.none _ _)); intro vY wy oT0 kf hg_ hnew_; clear hg_ hnew_; (first | rw [← hY.out] at oT0 | (simp only [Int.reduceToNat] at oT0; rw [← hY.out] at oT0)); have oT := Kd.R_lower oT0 hA.kep.1; clear oT0; replace hA := hA.below kf; clear kf; obtain ⟨AY, cY, eY⟩ := Kd.R_slice oT; subst eY)
  | (go_at_call 65; (with_reducible refine (spec_l1Below.calls g b ia ha 12 v1 i1 s1 w0 _ hA.cur hA.bel B1.out).mono ?_); rintro e wa ⟨rfl, hi, hb_, hk⟩; replace oT := R_cur hA.cur oT (by decide) hk; replace hA := hA.cursor hi hb_ hk; clear hi hb_ hk)
  | (go_at_call 65; (with_reducible refine (spec_l1Below.calls g b i1 s1 6 v2 i2 s2 w0 _ hA.cur hA.bel B2.out).mono ?_); rintro e wa ⟨rfl, hi, hb_, hk⟩; replace oT := R_cur hA.cur oT (by decide) hk; replace hA := hA.cursor hi hb_ hk; clear hi hb_ hk)
  | (go_at_call 37; (with_reducible refine (spec_l18Write.calls k _ _ Y (wrap64 (1 + v1)) v2 Y L0 C0 _ w.heap.size _ oT (Kd.R_reads' oT).2.2 (Kd.R_reads' oT).2.1 B3.out).mono ?_); rintro e wd ⟨u0, u1, u2, rfl, o0, o1, o2, kf⟩; have hN : Bk wd w.heap.size u0 u1 u2 Y L0 C0 := ⟨R_selfT o0, R_selfI (Kd.R_lower o1 hA.kep.1), R_selfI (Kd.R_lower o2 hA.kep.1), fun k_ hk_ => o1.1 k_ hk_.symm⟩; replace hA := hA.below kf; clear o0 o1 o2 kf oT; obtain ⟨AT, cT, eT⟩ := Kd.R_slice hN.oT; subst eT; obtain ⟨AL, cL, eL⟩ := Kd.R_slice hN.oL; subst eL; obtain ⟨AC, cC, eC⟩ := Kd.R_slice hN.oC; subst eC)
  | ((with_reducible refine gate_dst (N := 5) rfl ?_); (try (refine gate_guard (by rfl) ?_; dsimp only)); refine box_event ?hg (N := 5) ?hd (cs := #[.slice none 0 0, .slice none 0 0, .slice none 0 0]) (t := 29) ?hr ?_; (case hd | hg => rfl); (case hr => first | (go_simp; done) | (go_simp; rfl)); intro g5 hg wb hbox kf; have hge5 : w.heap.size ≤ g5 := by { rw [hg]; exact hA.kep.1 }; have n5 : gr ≠ g5 := by { rw [hg]; exact Nat.ne_of_lt (blk_lt hA.hr) }; replace hA := hA.below kf; replace hN := hN.below kf; clear hg kf; obtain ⟨q0, q1, q2⟩ := cells3 hbox; have z0 := blk_frozen hbox 0; have z1 := blk_frozen hbox 1; have z2 := blk_frozen hbox 2))
 have hD := hA.put hbox hge5 n5 hN
 generalize (((wb.setCell ⟨g5, 0, none⟩ (.slice AT Y.length cT)).setCell ⟨g5, 1, none⟩ (.slice AL L0.length cL)).setCell ⟨g5, 2, none⟩ (.slice AC C0.length cC)) = W1 at hD ⊢
 clear hA hN hbox q0 q1 q2 z0 z1 z2 hge5 n5 B1 B2 B3 hI hB
 go_wp2_with (first
  | (go_at_call 68; (with_reducible refine (spec_l1Size.calls _ _ l1 14 z _ (Kd.C_below hr1 hD.a.bel) hc1 B4.out).mono ?_); rintro e wz ⟨rfl, hz⟩; have kf := below_drawn hz; replace hD := hD.below kf; clear hz kf)
  | (go_at_call 65; (with_reducible refine (spec_l1Below.calls g b i2 s2 z v3 i3 s3 w0 _ hD.a.cur hD.a.bel B5.out).mono ?_); rintro e wa ⟨rfl, hi, hb_, hk⟩; replace hD := hD.cursor hi hb_ hk; clear hi hb_ hk))
 go_loopg [6] v3.toNat (fun gk v6 W => ∃ (x i h : Int) (vT vL vC : Value) (T : List S50) (L C : List Int), v6 = .int .i64 x ∧ Aside0 (x = gk ∧ x ≤ 14) ∧ Aside0 (Dr w0 w W g gr g5 b i h vT vL vC T L C) ∧ Aside0 (Sz b i T L C))
 case atStart => exact ⟨v3, i3, s3, _, _, _, Y, L0, C0, rfl, ⟨by have := hv3.out; omega⟩, ⟨hD⟩, ⟨hS⟩⟩
 case round =>
  clear hS hD hv3 B4 B5 hY
  obtain ⟨x, i, h, vT, vL, vC, T, L, C, rfl, hx, hD0, hS0⟩ := hrel
  have hD := hD0.out
  have hS := hS0.out
  clear hD0 hS0
  obtain ⟨AT, cT, eT⟩ := Kd.R_slice hD.bk.oT
  subst eT
  obtain ⟨AL, cL, eL⟩ := Kd.R_slice hD.bk.oL
  subst eL
  obtain ⟨AC, cC, eC⟩ := Kd.R_slice hD.bk.oC
  subst eC
  have LT := mk0 hS.t
  by_cases c : x > 0
  ·have cb : decide (0 < x) = true := decide_eq_true c
   obtain ⟨g', rfl⟩ : ∃ g', gk = g' + 1 := ⟨gk - 1, by have := hx.out; omega⟩
   have hxw : wrap64 (x - 1) = x - 1 := wrap_small (by omega) (by have := hx.out; omega)
   replace hxw := mk0 hxw
   clear c
   obtain ⟨t0, t1, t2, i1, s1, B1, p1, p2⟩ := F.talk b i h hS.hb hS.i0 hS.i1 T L C
   obtain ⟨k1, T1, L1, C1, o, B2, lT, lL, lC⟩ := F.add T L C t0 t1 t2 hS.t hS.l hS.c
   replace B1 := mk0 B1
   replace B2 := mk0 B2
   have hS1 : Sz b i1 T1 L1 C1 := ⟨hS.hb, p1, p2, lT, by rw [lL]; exact hS.l0, by rw [lL]; exact hS.l, by rw [lC]; exact hS.c⟩
   have hS2 : Sz b i1 T L C := ⟨hS.hb, p1, p2, hS.t, hS.l0, hS.l, hS.c⟩
   clear lT lL lC p1 p2
   obtain ⟨q0, q1, q2⟩ := cells3 hD.hb
   go_upto_region 6 with (first
    | (go_at_call 58; (with_reducible refine (spec_l18DrawTalk.calls g b i h _ _ T _ _ L _ _ C t0 t1 t2 i1 s1 w0 _ hD.a.cur hD.a.bel (fun W_ hk => (Kd.R_reads' (R_cur hD.a.cur hD.bk.oT (by decide) hk)).2.2) (Kd.R_reads' hD.bk.oT).2.1 (Kd.R_reads' hD.bk.oL).2.2 (Kd.R_reads' hD.bk.oL).2.1 (blk_of (hD.a.cur.own_ne hD.bk.oL (by decide))) (Kd.R_reads' hD.bk.oC).2.2 (Kd.R_reads' hD.bk.oC).2.1 (blk_of (hD.a.cur.own_ne hD.bk.oC (by decide))) B1.out).mono ?_); rintro e wa ⟨rfl, hi, hb_, hk⟩; replace hD := hD.cursor hi hb_ hk; clear hi hb_ hk q0 q1 q2)
    | ((with_reducible refine gate_dst (N := 7) rfl ?_); (try (refine gate_guard (by rfl) ?_; dsimp only)); refine box_event ?hg (N := 7) ?hd (cs := #[.int .i64 0, .int .i64 0, .int .i64 0]) (t := 50) ?hr ?_; (case hd | hg => rfl); (case hr => first | (go_simp; done) | (go_simp; rfl)); intro g7 hg wb hbox kf; have hge7 : w.heap.size ≤ g7 := by { rw [hg]; exact hD.a.kep.1 }; have hl7 : ∀ j, bkOwn (.slice AT T.length cT) (.slice AL L.length cL) (.slice AC C.length cC) j → j ≠ g7 := by { rw [hg]; exact fun j hj => Nat.ne_of_lt (hD.bk.lt hj) }; have n7 : g ≠ g7 := by { rw [hg]; exact Nat.ne_of_lt hD.a.cur.lt }; have nr7 : gr ≠ g7 := by { rw [hg]; exact Nat.ne_of_lt (blk_lt hD.a.hr) }; have n57 : g5 ≠ g7 := by { rw [hg]; exact Nat.ne_of_lt (blk_lt hD.hb) }; replace hD := hD.below kf; clear hg kf; obtain ⟨q0, q1, q2⟩ := cells3 hbox; have z0 := blk_frozen hbox 0; have z1 := blk_frozen hbox 1; have z2 := blk_frozen hbox 2))
   have hT := put3 hbox (.int .i64 t0) (.int .i64 t1) (.int .i64 t2)
   replace hD := hD.far3 hge7 n7 nr7 n57 hl7 (.int .i64 t0) (.int .i64 t1) (.int .i64 t2)
   generalize (((wb.setCell ⟨g7, 0, none⟩ (.int .i64 t0)).setCell ⟨g7, 1, none⟩ (.int .i64 t1)).setCell ⟨g7, 2, none⟩ (.int .i64 t2)) = W2 at hD hT ⊢
   clear hbox q0 q1 q2 z0 z1 z2 hl7 B1
   obtain ⟨q0, q1, q2⟩ := cells3 hD.hb
   obtain ⟨r0, r1, r2⟩ := cells3 hT
   go_upto_region 7 with (first
    | (go_at_call 32; (with_reducible refine (spec_Add18.calls k1 _ _ T _ _ L _ _ C t0 t1 t2 T1 L1 C1 o _ (Kd.R_reads' hD.bk.oT).2.2 (Kd.R_reads' hD.bk.oT).2.1 (Kd.R_reads' hD.bk.oL).2.2 (Kd.R_reads' hD.bk.oL).2.1 (Kd.R_reads' hD.bk.oC).2.2 (Kd.R_reads' hD.bk.oC).2.1 B2.out).mono ?_); rintro e wa ⟨u0, u1, u2, rfl, o0, o1, o2, kf⟩; have hN := (Bk.of o0 o1 o2).lower hD.a.kep.1; replace hD := hD.below kf; replace hT := blk_below hT kf; clear o0 o1 o2 kf q0 q1 q2 r0 r1 r2; obtain ⟨A2T, c2T, eT⟩ := Kd.R_slice hN.oT; subst eT; obtain ⟨A2L, c2L, eL⟩ := Kd.R_slice hN.oL; subst eL; obtain ⟨A2C, c2C, eC⟩ := Kd.R_slice hN.oC; subst eC)
    | ((with_reducible refine gate_dst (N := 8) rfl ?_); (try (refine gate_guard (by rfl) ?_; dsimp only)); refine box_event ?hg (N := 8) ?hd (cs := #[.slice none 0 0, .slice none 0 0, .slice none 0 0]) (t := 29) ?hr ?_; (case hd | hg => rfl); (case hr => first | (go_simp; done) | (go_simp; rfl)); intro g8 hg wb hbox kf; have hge8 : w.heap.size ≤ g8 := by { rw [hg]; exact hD.a.kep.1 }; have n8 : g ≠ g8 := by { rw [hg]; exact Nat.ne_of_lt hD.a.cur.lt }; have nr8 : gr ≠ g8 := by { rw [hg]; exact Nat.ne_of_lt (blk_lt hD.a.hr) }; have n58 : g5 ≠ g8 := by { rw [hg]; exact Nat.ne_of_lt (blk_lt hD.hb) }; have n78 : g7 ≠ g8 := by { rw [hg]; exact Nat.ne_of_lt (blk_lt hT) }; replace hD := hD.below kf; replace hT := blk_below hT kf; replace hN := hN.below kf; clear hg kf; obtain ⟨q0, q1, q2⟩ := cells3 hbox; have z0 := blk_frozen hbox 0; have z1 := blk_frozen hbox 1; have z2 := blk_frozen hbox 2))
   have hG8 := put3 hbox (.slice A2T T1.length c2T) (.slice A2L L1.length c2L) (.slice A2C C1.length c2C)
   replace hN := store_bk (x := .slice A2T T1.length c2T) (y := .slice A2L L1.length c2L) (z := .slice A2C C1.length c2C) hN hbox
   replace hT := far3 hT n78 (.slice A2T T1.length c2T) (.slice A2L L1.length c2L) (.slice A2C C1.length c2C)
   replace hD := hD.far3 hge8 n8 nr8 n58 (fun j hj e => hD.bk.box hbox (by decide) (e ▸ hj)) (.slice A2T T1.length c2T) (.slice A2L L1.length c2L) (.slice A2C C1.length c2C)
   generalize (((wb.setCell ⟨g8, 0, none⟩ (.slice A2T T1.length c2T)).setCell ⟨g8, 1, none⟩ (.slice A2L L1.length c2L)).setCell ⟨g8, 2, none⟩ (.slice A2C C1.length c2C)) = W3 at hD hT hN hG8 ⊢
   clear hbox q0 q1 q2 z0 z1 z2 B2
   obtain ⟨q0, q1, q2⟩ := cells3 hD.hb
   cases o
   ·obtain ⟨r, i2, s2, B3, p3, p4⟩ := F.once b i1 s1 hS2.hb hS2.i0 hS2.i1 6
    replace B3 := mk0 B3
    have hS3 : Sz b i2 T L C := ⟨hS.hb, p3, p4, hS.t, hS.l0, hS.l, hS.c⟩
    clear p3 p4 hS1 hS2 hS hN hG8
    cases r
    ·go_wp2_with (first
      | (go_at_call 57; (with_reducible refine (spec_l1Once.calls g b i1 s1 6 false i2 s2 w0 _ hD.a.cur hD.a.bel B3.out).mono ?_); rintro e wa ⟨rfl, hi, hb_, hk⟩; replace hD := hD.cursor hi hb_ hk; clear hi hb_ hk q0 q1 q2; obtain ⟨q0, q1, q2⟩ := cells3 hD.hb))
     go_roundg g'
     case measure => omega
     case rel => exact ⟨wrap64 (x - 1), i2, s2, _, _, _, T, L, C, rfl, ⟨by rw [hxw.out]; have := hx.out; omega⟩, ⟨hD⟩, ⟨hS3⟩⟩
    ·by_cases c30 : (T.length : Int) < 30
     ·have d0 : decide ((T.length : Int) < 30) = true := decide_eq_true c30
      have d1 : decide (T.length < 30) = true := decide_eq_true (by omega)
      obtain ⟨Y, hY⟩ : ∃ Y : List S50, Y = T ++ [(⟨t0, t1, t2⟩ : S50)] := ⟨_, rfl⟩
      have hS4 : Sz b i2 Y L C := ⟨hS3.hb, hS3.i0, hS3.i1, by rw [hY]; simp; omega, hS3.l0, hS3.l, hS3.c⟩
      replace hY := mk0 hY
      clear c30 hS3
      go_wp2_with (first
       | (go_at_call 57; (with_reducible refine (spec_l1Once.calls g b i1 s1 6 true i2 s2 w0 _ hD.a.cur hD.a.bel B3.out).mono ?_); rintro e wa ⟨rfl, hi, hb_, hk⟩; replace hT := hk.blk hT (Ne.symm n7) (by simp); obtain ⟨r0, r1, r2⟩ := cells3 hT; replace hD := hD.cursor hi hb_ hk; clear hi hb_ hk q0 q1 q2; obtain ⟨q0, q1, q2⟩ := cells3 hD.hb)
       | ((with_reducible refine gate_builtin (b := .append) (xs := #[.tmp 46, .tmp 48]) rfl ?_); (try (refine gate_guard (by rfl) ?_; dsimp only)); at_builtin; refine Kd.R_append k50 w.heap.size rfl (.tmp 46) (.tmp 48) 27 50 (.agg #[(.int .i64 0), (.int .i64 0), (.int .i64 0)]) 24 rfl Try.underlying27 info50 rfl (by decide) (by omega) (.slice AT T.length cT) T (⟨t0, t1, t2⟩ : S50) [.int .i64 t0, .int .i64 t1, .int .i64 t2] (fun _ => True) (fun _ => False) rfl rfl ?aP (fun _ hk => hk.elim) ?aF ?aO (Below.refl _ _) ?aS ?aL ?_; (case aP => exact k50_mkM _ _ _ (⟨t0, t1, t2⟩ : S50)); (case aF => exact fun _ _ => trivial); (case aO => exact Kd.R_mono hD.bk.oT (fun _ _ => trivial)); (case aS => exact hD.a.kep.1); (case aL => have := LT.out; omega); intro vN wd ho hb_ hg_ hat; rw [← hY.out] at ho; obtain ⟨AY, cY, eY⟩ := Kd.R_slice ho; subst eY; obtain ⟨hB5, hD'⟩ := hD.append ho hb_ hg_; obtain ⟨q0, q1, q2⟩ := cells3 hB5; have z0 := blk_frozen hB5 0; clear ho hb_ hg_ hat))
      go_roundg g'
      case measure => omega
      case rel => exact ⟨wrap64 (x - 1), i2, s2, _, _, _, Y, L, C, rfl, ⟨by rw [hxw.out]; have := hx.out; omega⟩, ⟨hD'⟩, ⟨hS4⟩⟩
     ·have d0 : decide ((T.length : Int) < 30) = false := decide_eq_false c30
      have d1 : decide (T.length < 30) = false := decide_eq_false (by omega)
      clear c30
      go_wp2_with (first
       | (go_at_call 57; (with_reducible refine (spec_l1Once.calls g b i1 s1 6 true i2 s2 w0 _ hD.a.cur hD.a.bel B3.out).mono ?_); rintro e wa ⟨rfl, hi, hb_, hk⟩; replace hD := hD.cursor hi hb_ hk; clear hi hb_ hk q0 q1 q2; obtain ⟨q0, q1, q2⟩ := cells3 hD.hb))
      go_roundg g'
      case measure => omega
      case rel => exact ⟨wrap64 (x - 1), i2, s2, _, _, _, T, L, C, rfl, ⟨by rw [hxw.out]; have := hx.out; omega⟩, ⟨hD⟩, ⟨hS3⟩⟩
   ·obtain ⟨r0, r1, r2⟩ := cells3 hG8
    have z0 := blk_frozen hD.hb 0
    have z1 := blk_frozen hD.hb 1
    have z2 := blk_frozen hD.hb 2
    go_wp2
    go_roundg g'
    case measure => omega
    case rel => exact ⟨wrap64 (x - 1), i1, s1, _, _, _, T1, L1, C1, rfl, ⟨by rw [hxw.out]; have := hx.out; omega⟩, ⟨hD.put hN⟩, ⟨hS1⟩⟩
  ·have cb : decide (0 < x) = false := decide_eq_false c
   clear c
   obtain ⟨v1, i1, s1, B1, p1, p2, _, p3, p4⟩ := F.below b i h 4 hS.hb hS.i0 hS.i1
   obtain ⟨v2, i2, s2, B2, p5, p6, _, p7, p8⟩ := F.below b i1 s1 2 hS.hb p3 p4
   replace p2 := p2 (by omega)
   replace p6 := p6 (by omega)
   have hm0 : 0 ≤ v1 * v2 := Int.mul_nonneg p1 p5
   have hm1 : v1 * v2 ≤ 3 * 1 := Int.mul_le_mul (by omega) (by omega) p5 (by omega)
   have hmw : wrap64 (v1 * v2) = v1 * v2 := wrap_small (by omega) (by omega)
   have hS2 : Sz b i2 T L C := ⟨hS.hb, p7, p8, hS.t, hS.l0, hS.l, hS.c⟩
   have hm := mk0 (And.intro hmw (And.intro hm0 hm1))
   replace B1 := mk0 B1
   replace B2 := mk0 B2
   clear p1 p2 p3 p4 p5 p6 p7 p8 hm0 hm1 hmw hS hx
   go_wp2_with (first
    | (go_at_call 65; (with_reducible refine (spec_l1Below.calls g b i h 4 v1 i1 s1 w0 _ hD.a.cur hD.a.bel B1.out).mono ?_); rintro e wa ⟨rfl, hi, hb_, hk⟩; replace hD := hD.cursor hi hb_ hk; clear hi hb_ hk)
    | (go_at_call 65; (with_reducible refine (spec_l1Below.calls g b i1 s1 2 v2 i2 s2 w0 _ hD.a.cur hD.a.bel B2.out).mono ?_); rintro e wa ⟨rfl, hi, hb_, hk⟩; replace hD := hD.cursor hi hb_ hk; clear hi hb_ hk))
   go_loopg [10] (v1 * v2).toNat (fun gk v10 W => ∃ (x i h : Int) (vT vL vC : Value) (T : List S50) (L C : List Int), v10 = .int .i64 x ∧ Aside0 (x = gk ∧ x ≤ 14) ∧ Aside0 (Dr w0 w W g gr g5 b i h vT vL vC T L C) ∧ Aside0 (Sz b i T L C))
   case atStart => exact ⟨wrap64 (v1 * v2), i2, s2, _, _, _, T, L, C, rfl, ⟨by have := hm.out; rw [this.1]; omega⟩, ⟨hD⟩, ⟨hS2⟩⟩
   case round =>
    clear hD hS2 hm B1 B2 cb LT
    obtain ⟨x, i, h, vT, vL, vC, T, L, C, rfl, hx, hD0, hS0⟩ := hrel
    have hD := hD0.out
    have hS := hS0.out
    clear hD0 hS0
    obtain ⟨AT, cT, eT⟩ := Kd.R_slice hD.bk.oT
    subst eT
    obtain ⟨AL, cL, eL⟩ := Kd.R_slice hD.bk.oL
    subst eL
    obtain ⟨AC, cC, eC⟩ := Kd.R_slice hD.bk.oC
    subst eC
    by_cases c : x > 0
    ·have cb : decide (0 < x) = true := decide_eq_true c
     obtain ⟨g', rfl⟩ : ∃ g', gk = g' + 1 := ⟨gk - 1, by have := hx.out; omega⟩
     have hxw : wrap64 (x - 1) = x - 1 := wrap_small (by omega) (by have := hx.out; omega)
     replace hxw := mk0 hxw
     clear c
     obtain ⟨r, i1, s1, B1, p1, p2⟩ := F.once b i h hS.hb hS.i0 hS.i1 2
     replace B1 := mk0 B1
     cases r
     ·by_cases c0 : (C.length : Int) > 0
      ·have d0 : decide (0 < (C.length : Int)) = true := decide_eq_true c0
       have d1 : decide (0 < C.length) = true := decide_eq_true (by omega)
       obtain ⟨v2, i2, s2, B2, y1, y2, _, y3, y4⟩ := F.below b i1 s1 (C.length : Int) hS.hb p1 p2
       obtain ⟨v3, i3, s3, B3, y5, y6, _, y7, y8⟩ := F.below b i2 s2 8 hS.hb y3 y4
       have p0 : 0 ≤ v2 := y1
       have p1 : v2 < (C.length : Int) := y2 (by omega)
       have hS3 : Sz b i3 T L (C.set v2.toNat (wrap64 (v3 - 1))) := ⟨hS.hb, y7, y8, hS.t, hS.l0, hS.l, by simpa using hS.c⟩
       replace B2 := mk0 B2
       replace B3 := mk0 B3
       go_wp2_with (first
        | (go_at_call 57; (with_reducible refine (spec_l1Once.calls g b i h 2 false i1 s1 w0 _ hD.a.cur hD.a.bel B1.out).mono ?_); rintro e wa ⟨rfl, hi, hb_, hk⟩; replace hD := hD.cursor hi hb_ hk; clear hi hb_ hk; obtain ⟨q0, q1, q2⟩ := cells3 hD.hb))
       refine start_ (n := 12) (S := fun w' => w'.heap[g5]? = some (.cells #[.slice AT T.length cT, .slice AL L.length cL, .slice AC C.length cC] 29 (0, 0))) (ds := [11]) #[O,O,O,O,O,O,O,O,O,O,O,O] (by kernel_rfl) rfl rfl (blk_drew hD.hb) (fun hS => ?_)
       refine with_tabW spec_l18Draw.tab17 spec_l18Draw.bits17 (fun HT_ HW_ => ?_)
       clear hS
       replace hD := hD.below (below_drew1 (Below.refl _ _))
       generalize World.drew _ = Wd at hD ⊢
       refine pure_ (i := 0) (N := some 77) (v := ?_) (a' := ?_) #[I,O,O,O,O,O,O,O,O,O,O,O] rfl rfl (any_of HT_.out (by kernel_rfl)) (fun _ _ _ h => h) (Or.inl ⟨by rfl, ?_⟩) ?_ ?_
       rotate_left
       ·intro w'
        go_simp
        with_reducible rfl
       rotate_left
       ·simp only [Act.put, sq1, sq2, sq3, i64_w]
        rfl
       refine pure_ (i := 2) (N := some 79) (v := ?_) (a' := ?_) #[I,O,I,O,O,O,O,O,O,O,O,O] rfl rfl (any_of HT_.out (by kernel_rfl)) (fun _ _ _ h => h) (Or.inl ⟨by rfl, ?_⟩) ?_ ?_
       rotate_left
       ·intro w'
        go_simp
        with_reducible rfl
       rotate_left
       ·simp only [Act.put, sq1, sq2, sq3, i64_w]
        rfl
       refine pure_ (i := 3) (N := some 80) (v := ?_) (a' := ?_) #[I,O,I,I,O,O,O,O,O,O,O,O] rfl rfl (any_of HT_.out (by kernel_rfl)) (fun _ _ _ h => h) (Or.inl ⟨by rfl, ?_⟩) ?_ ?_
       rotate_left
       ·intro w'
        go_simp
        with_reducible rfl
       rotate_left
       ·simp only [Act.put, sq1, sq2, sq3, i64_w]
        rfl
       refine pure_ (i := 7) (N := some 84) (v := ?_) (a' := ?_) #[I,O,I,I,O,O,O,I,O,O,O,O] rfl rfl (any_of HT_.out (by kernel_rfl)) (fun _ _ _ h => h) (Or.inl ⟨by rfl, ?_⟩) ?_ ?_
       rotate_left
       ·intro w'
        go_simp
        with_reducible rfl
       rotate_left
       ·simp only [Act.put, sq1, sq2, sq3, i64_w]
        rfl
       refine take_ (i := 1) (N := some 78) (v := ?_) (a' := ?_) #[I,I,I,I,O,O,O,I,O,O,O,O] rfl rfl (take_ofW HT_.out HW_.out (by kernel_rfl)) (fun _ _ _ h => h) (Or.inl ⟨by rfl, ?_⟩) hD.hb ?_ ?_
       rotate_left
       ·intro w' hS'
        obtain ⟨s0, s1, s2⟩ := cells3 hS'
        go_simp
        with_reducible rfl
       rotate_left
       ·simp only [Act.put, sq1, sq2, sq3, i64_w]
        rfl
       refine take_ (i := 4) (N := some 81) (v := ?_) (a' := ?_) #[I,I,I,I,I,O,O,I,O,O,O,O] rfl rfl (take_ofW HT_.out HW_.out (by kernel_rfl)) (fun _ _ _ h => h) (Or.inl ⟨by rfl, ?_⟩) hD.hb ?_ ?_
       rotate_left
       ·intro w' hS'
        obtain ⟨s0, s1, s2⟩ := cells3 hS'
        go_simp
        with_reducible rfl
       rotate_left
       ·simp only [Act.put, sq1, sq2, sq3, i64_w]
        rfl
       refine pure_ (i := 5) (N := some 82) (v := ?_) (a' := ?_) #[I,I,I,I,I,I,O,I,O,O,O,O] rfl rfl (any_of HT_.out (by kernel_rfl)) (fun _ _ _ h => h) (Or.inl ⟨by rfl, ?_⟩) ?_ ?_
       rotate_left
       ·intro w'
        go_simp
        with_reducible rfl
       rotate_left
       ·simp only [Act.put, sq1, sq2, sq3, i64_w]
        rfl
       refine one_ (i := 6) (N := some 83) #[I,I,I,I,I,I,I,I,O,O,O,O] rfl rfl (one_of HT_.out (by kernel_rfl)) (by decide) (fun K hK => ?_)
       refine goes_ Try.func65 (by kernel_rfl) rfl #[.pointer (some ⟨g, 0, none⟩), .int .i64 (C.length : Int)] (by rfl) rfl rfl ar ?_
       with_reducible refine (spec_l1Below.calls g b i1 s1 (C.length : Int) v2 i2 s2 w0 _ hD.a.cur hD.a.bel B2.out).mono ?_
       rintro e wc ⟨rfl, hi, hb_, hk⟩
       refine ⟨_, rfl, ?_⟩
       replace hD := hD.cursor hi hb_ hk
       clear hi hb_ hk
       refine hK.out _ _ hD.hb (fun _ => ?_)
       clear hK K
       refine norm_ (a' := ?_) ?_ ?_
       rotate_left
       ·show Act.put _ (some 83) _ = _
        simp only [Act.put, sq1, sq2, sq3, i64_w]
        rfl
       refine one_ (i := 8) (N := some 85) #[I,I,I,I,I,I,I,I,I,O,O,O] rfl rfl (one_of HT_.out (by kernel_rfl)) (by decide) (fun K hK => ?_)
       refine goes_ Try.func65 (by kernel_rfl) rfl #[.pointer (some ⟨g, 0, none⟩), .int .i64 8] (by rfl) rfl rfl ar ?_
       with_reducible refine (spec_l1Below.calls g b i2 s2 8 v3 i3 s3 w0 _ hD.a.cur hD.a.bel B3.out).mono ?_
       rintro e wc ⟨rfl, hi, hb_, hk⟩
       refine ⟨_, rfl, ?_⟩
       replace hD := hD.cursor hi hb_ hk
       clear hi hb_ hk
       obtain ⟨go, co, eo, _, _, _⟩ := Kd.R_form hD.bk.oC (by omega)
       injection eo with ea en ec
       subst ea
       subst ec
       clear en
       obtain ⟨x0, f0⟩ := Kd.R_celln 0 hD.bk.oC v2 p0 p1
       have p0t := eq_true p0
       have p1t := eq_true p1
       refine hK.out _ _ hD.hb (fun _ => ?_)
       clear hK K
       refine norm_ (a' := ?_) ?_ ?_
       rotate_left
       ·show Act.put _ (some 85) _ = _
        simp only [Act.put, sq1, sq2, sq3, i64_w]
        rfl
       refine pure_ (i := 9) (N := some 86) (v := ?_) (a' := ?_) #[I,I,I,I,I,I,I,I,I,I,O,O] rfl rfl (any_of HT_.out (by kernel_rfl)) (fun _ _ _ h => h) (Or.inl ⟨by rfl, ?_⟩) ?_ ?_
       rotate_left
       ·intro w'
        go_simp
        with_reducible rfl
       rotate_left
       ·simp only [Act.put, sq1, sq2, sq3, i64_w]
        rfl
       refine pure_ (i := 10) (N := some 87) (v := ?_) (a' := ?_) #[I,I,I,I,I,I,I,I,I,I,I,O] rfl rfl (any_of HT_.out (by kernel_rfl)) (fun _ _ _ h => h) (Or.inl ⟨by rfl, ?_⟩) ?_ ?_
       rotate_left
       ·intro w'
        go_simp
        with_reducible rfl
       rotate_left
       ·simp only [Act.put, sq1, sq2, sq3, i64_w]
        rfl
       refine last_ (i := 11) (N := none) #[I,I,I,I,I,I,I,I,I,I,I,I] rfl rfl (one_of HT_.out (by kernel_rfl)) (by decide) (fun K hK => ?_)
       refine skip_ (w1 := ?_) (by rfl) rfl ?_ ?_
       rotate_left
       ·go_simp
        rfl
       refine hK.out _ _ ?_
       clear hK K
       refine done_ (done_of HT_.out (by kernel_rfl)) ?_
       replace hD := hD.circ v2 (wrap64 (v3 - 1))
       go_wp2
       go_roundg g'
       case measure => omega
       case rel => exact ⟨wrap64 (x - 1), i3, s3, _, _, _, T, L, C.set v2.toNat (wrap64 (v3 - 1)), rfl, ⟨by rw [hxw.out]; have := hx.out; omega⟩, ⟨hD⟩, ⟨hS3⟩⟩
      ·have d0 : decide (0 < (C.length : Int)) = false := decide_eq_false c0
       have d1 : decide (0 < C.length) = false := decide_eq_false (by omega)
       have hS1 : Sz b i1 T L C := ⟨hS.hb, p1, p2, hS.t, hS.l0, hS.l, hS.c⟩
       go_wp2_with (first
        | (go_at_call 57; (with_reducible refine (spec_l1Once.calls g b i h 2 false i1 s1 w0 _ hD.a.cur hD.a.bel B1.out).mono ?_); rintro e wa ⟨rfl, hi, hb_, hk⟩; replace hD := hD.cursor hi hb_ hk; clear hi hb_ hk; obtain ⟨q0, q1, q2⟩ := cells3 hD.hb))
       go_roundg g'
       case measure => omega
       case rel => exact ⟨wrap64 (x - 1), i1, s1, _, _, _, T, L, C, rfl, ⟨by rw [hxw.out]; have := hx.out; omega⟩, ⟨hD⟩, ⟨hS1⟩⟩
     ·obtain ⟨v2, i2, s2, B2, y1, y2, _, y3, y4⟩ := F.below b i1 s1 (L.length : Int) hS.hb p1 p2
      obtain ⟨v3, i3, s3, B3, y5, y6, _, y7, y8⟩ := F.below b i2 s2 8 hS.hb y3 y4
      have hl0 := hS.l0
      have p0 : 0 ≤ v2 := y1
      have p1 : v2 < (L.length : Int) := y2 (by omega)
      have hS3 : Sz b i3 T (L.set v2.toNat (wrap64 (v3 - 1))) C := ⟨hS.hb, y7, y8, hS.t, by simpa using hS.l0, by simpa using hS.l, hS.c⟩
      replace B2 := mk0 B2
      replace B3 := mk0 B3
      go_wp2_with (first
       | (go_at_call 57; (with_reducible refine (spec_l1Once.calls g b i h 2 true i1 s1 w0 _ hD.a.cur hD.a.bel B1.out).mono ?_); rintro e wa ⟨rfl, hi, hb_, hk⟩; replace hD := hD.cursor hi hb_ hk; clear hi hb_ hk; obtain ⟨q0, q1, q2⟩ := cells3 hD.hb))
      refine start_ (n := 12) (S := fun w' => w'.heap[g5]? = some (.cells #[.slice AT T.length cT, .slice AL L.length cL, .slice AC C.length cC] 29 (0, 0))) (ds := [11]) #[O,O,O,O,O,O,O,O,O,O,O,O] (by kernel_rfl) rfl rfl (blk_drew hD.hb) (fun hS => ?_)
      refine with_tabW spec_l18Draw.tab15 spec_l18Draw.bits15 (fun HT_ HW_ => ?_)
      clear hS
      replace hD := hD.below (below_drew1 (Below.refl _ _))
      generalize World.drew _ = Wd at hD ⊢
      refine pure_ (i := 0) (N := some 62) (v := ?_) (a' := ?_) #[I,O,O,O,O,O,O,O,O,O,O,O] rfl rfl (any_of HT_.out (by kernel_rfl)) (fun _ _ _ h => h) (Or.inl ⟨by rfl, ?_⟩) ?_ ?_
      rotate_left
      ·intro w'
       go_simp
       with_reducible rfl
      rotate_left
      ·simp only [Act.put, sq1, sq2, sq3, i64_w]
       rfl
      refine pure_ (i := 2) (N := some 64) (v := ?_) (a' := ?_) #[I,O,I,O,O,O,O,O,O,O,O,O] rfl rfl (any_of HT_.out (by kernel_rfl)) (fun _ _ _ h => h) (Or.inl ⟨by rfl, ?_⟩) ?_ ?_
      rotate_left
      ·intro w'
       go_simp
       with_reducible rfl
      rotate_left
      ·simp only [Act.put, sq1, sq2, sq3, i64_w]
       rfl
      refine pure_ (i := 3) (N := some 65) (v := ?_) (a' := ?_) #[I,O,I,I,O,O,O,O,O,O,O,O] rfl rfl (any_of HT_.out (by kernel_rfl)) (fun _ _ _ h => h) (Or.inl ⟨by rfl, ?_⟩) ?_ ?_
      rotate_left
      ·intro w'
       go_simp
       with_reducible rfl
      rotate_left
      ·simp only [Act.put, sq1, sq2, sq3, i64_w]
       rfl
      refine pure_ (i := 7) (N := some 69) (v := ?_) (a' := ?_) #[I,O,I,I,O,O,O,I,O,O,O,O] rfl rfl (any_of HT_.out (by kernel_rfl)) (fun _ _ _ h => h) (Or.inl ⟨by rfl, ?_⟩) ?_ ?_
      rotate_left
      ·intro w'
       go_simp
       with_reducible rfl
      rotate_left
      ·simp only [Act.put, sq1, sq2, sq3, i64_w]
       rfl
      refine take_ (i := 1) (N := some 63) (v := ?_) (a' := ?_) #[I,I,I,I,O,O,O,I,O,O,O,O] rfl rfl (take_ofW HT_.out HW_.out (by kernel_rfl)) (fun _ _ _ h => h) (Or.inl ⟨by rfl, ?_⟩) hD.hb ?_ ?_
      rotate_left
      ·intro w' hS'
       obtain ⟨s0, s1, s2⟩ := cells3 hS'
       go_simp
       with_reducible rfl
      rotate_left
      ·simp only [Act.put, sq1, sq2, sq3, i64_w]
       rfl
      refine take_ (i := 4) (N := some 66) (v := ?_) (a' := ?_) #[I,I,I,I,I,O,O,I,O,O,O,O] rfl rfl (take_ofW HT_.out HW_.out (by kernel_rfl)) (fun _ _ _ h => h) (Or.inl ⟨by rfl, ?_⟩) hD.hb ?_ ?_
      rotate_left
      ·intro w' hS'
       obtain ⟨s0, s1, s2⟩ := cells3 hS'
       go_simp
       with_reducible rfl
      rotate_left
      ·simp only [Act.put, sq1, sq2, sq3, i64_w]
       rfl
      refine pure_ (i := 5) (N := some 67) (v := ?_) (a' := ?_) #[I,I,I,I,I,I,O,I,O,O,O,O] rfl rfl (any_of HT_.out (by kernel_rfl)) (fun _ _ _ h => h) (Or.inl ⟨by rfl, ?_⟩) ?_ ?_
      rotate_left
      ·intro w'
       go_simp
       with_reducible rfl
      rotate_left
      ·simp only [Act.put, sq1, sq2, sq3, i64_w]
       rfl
      refine one_ (i := 6) (N := some 68) #[I,I,I,I,I,I,I,I,O,O,O,O] rfl rfl (one_of HT_.out (by kernel_rfl)) (by decide) (fun K hK => ?_)
      refine goes_ Try.func65 (by kernel_rfl) rfl #[.pointer (some ⟨g, 0, none⟩), .int .i64 (L.length : Int)] (by rfl) rfl rfl ar ?_
      with_reducible refine (spec_l1Below.calls g b i1 s1 (L.length : Int) v2 i2 s2 w0 _ hD.a.cur hD.a.bel B2.out).mono ?_
      rintro e wc ⟨rfl, hi, hb_, hk⟩
      refine ⟨_, rfl, ?_⟩
      replace hD := hD.cursor hi hb_ hk
      clear hi hb_ hk
      refine hK.out _ _ hD.hb (fun _ => ?_)
      clear hK K
      refine norm_ (a' := ?_) ?_ ?_
      rotate_left
      ·show Act.put _ (some 68) _ = _
       simp only [Act.put, sq1, sq2, sq3, i64_w]
       rfl
      refine one_ (i := 8) (N := some 70) #[I,I,I,I,I,I,I,I,I,O,O,O] rfl rfl (one_of HT_.out (by kernel_rfl)) (by decide) (fun K hK => ?_)
      refine goes_ Try.func65 (by kernel_rfl) rfl #[.pointer (some ⟨g, 0, none⟩), .int .i64 8] (by rfl) rfl rfl ar ?_
      with_reducible refine (spec_l1Below.calls g b i2 s2 8 v3 i3 s3 w0 _ hD.a.cur hD.a.bel B3.out).mono ?_
      rintro e wc ⟨rfl, hi, hb_, hk⟩
      refine ⟨_, rfl, ?_⟩
      replace hD := hD.cursor hi hb_ hk
      clear hi hb_ hk
      obtain ⟨go, co, eo, _, _, _⟩ := Kd.R_form hD.bk.oL (by omega)
      injection eo with ea en ec
      subst ea
      subst ec
      clear en
      obtain ⟨x0, f0⟩ := Kd.R_celln 0 hD.bk.oL v2 p0 p1
      have p0t := eq_true p0
      have p1t := eq_true p1
      refine hK.out _ _ hD.hb (fun _ => ?_)
      clear hK K
      refine norm_ (a' := ?_) ?_ ?_
      rotate_left
      ·show Act.put _ (some 70) _ = _
       simp only [Act.put, sq1, sq2, sq3, i64_w]
       rfl
      refine pure_ (i := 9) (N := some 71) (v := ?_) (a' := ?_) #[I,I,I,I,I,I,I,I,I,I,O,O] rfl rfl (any_of HT_.out (by kernel_rfl)) (fun _ _ _ h => h) (Or.inl ⟨by rfl, ?_⟩) ?_ ?_
      rotate_left
      ·intro w'
       go_simp
       with_reducible rfl
      rotate_left
      ·simp only [Act.put, sq1, sq2, sq3, i64_w]
       rfl
      refine pure_ (i := 10) (N := some 72) (v := ?_) (a' := ?_) #[I,I,I,I,I,I,I,I,I,I,I,O] rfl rfl (any_of HT_.out (by kernel_rfl)) (fun _ _ _ h => h) (Or.inl ⟨by rfl, ?_⟩) ?_ ?_
      rotate_left
      ·intro w'
       go_simp
       with_reducible rfl
      rotate_left
      ·simp only [Act.put, sq1, sq2, sq3, i64_w]
       rfl
      refine last_ (i := 11) (N := none) #[I,I,I,I,I,I,I,I,I,I,I,I] rfl rfl (one_of HT_.out (by kernel_rfl)) (by decide) (fun K hK => ?_)
      refine skip_ (w1 := ?_) (by rfl) rfl ?_ ?_
      rotate_left
      ·go_simp
       rfl
      refine hK.out _ _ ?_
      clear hK K
      refine done_ (done_of HT_.out (by kernel_rfl)) ?_
      replace hD := hD.line v2 (wrap64 (v3 - 1))
      go_wp2
      go_roundg g'
      case measure => omega
      case rel => exact ⟨wrap64 (x - 1), i3, s3, _, _, _, T, L.set v2.toNat (wrap64 (v3 - 1)), C, rfl, ⟨by rw [hxw.out]; have := hx.out; omega⟩, ⟨hD⟩, ⟨hS3⟩⟩
    ·have cb : decide (0 < x) = false := decide_eq_false c
     clear c
     obtain ⟨q0, q1, q2⟩ := cells3 hD.hb
     obtain ⟨r0, r1, r2⟩ := cells3 hD.a.hr
     have z0 := blk_frozen hD.a.hr 0
     have z1 := blk_frozen hD.a.hr 1
     have z2 := blk_frozen hD.a.hr 2
     go_wp2
     obtain ⟨hR, hbk, hcur, hbel, hkep⟩ := hD.fin
     refine bodyPost_ret (results_cell_row rfl _ _ gr 29 #[.slice AT T.length cT, .slice AL L.length cL, .slice AC C.length cC] (0, 0) _ rfl hR Try.underlying29 rfl (by kernel_rfl)) rfl ?_
     exact ⟨_, _, _, T, L, C, i, h, rfl, hbk, hS, hcur, hbel, hkep⟩
end Go.Proofs.Ytngnkfpciloamaa.MFnBooked
