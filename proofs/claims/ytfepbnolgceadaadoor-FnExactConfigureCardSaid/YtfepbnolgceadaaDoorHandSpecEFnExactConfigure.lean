/- What spec.l19Do and spec.Configure answer, and that the code comes to it. -/
import Derived.Test.YtfepbnolgceadaaDoorHandConfWEFnExactConfigure
import Derived.Test.YtfepbnolgceadaaDoorHandConfCEFnExactConfigure
import Derived.Test.YtfepbnolgceadaaDoorHandConfEFnExactConfigure
import Derived.Test.YtfepbnolgceadaaDoorMFnExactConfigurex6
import Derived.Test.YtfepbnolgceadaaDoorMFnExactConfigurex5
import Derived.Test.YtfepbnolgceadaaDoorMFnExactConfigurex4
import Derived.Test.YtfepbnolgceadaaDoorHandValueFnExactConfigure
import Derived.Deep.RegionLaw
import Derived.RegionTactic
import Derived.ChangeAlike
import Derived.BigRegion
import Derived.StillTailTactics
import Derived.StillTactics
namespace Go.Proofs.YtfepbnolgceadaaDoor.MFnExactConfigure
open Go.Proofs.YtfepbnolgceadaaDoor
open Go Go.RowKit Go.Maps Go.WideMaps Go.Proofs.YtfepbnolgceadaaDoor.Mine Go.Proofs.YtfepbnolgceadaaDoor.Hand Go.Proofs.YtfepbnolgceadaaDoorW.PrintWords Go.Proofs.YtfepbnolgceadaaDoorW.PrintLast Go.Proofs.YtfepbnolgceadaaDoorW.PrintMore
attribute [local go_sem] max2_int min2_int max_two min_two max_three min_three max_four min_four
set_option linter.unusedVariables false
set_option linter.unusedSimpArgs false
open Go.Sort
namespace Hand
/-! ### the reference's state -/
abbrev Hd := Option Addr × Nat × Nat
def hdV (h : Hd) : Value := .slice h.1 h.2.1 h.2.2
/-- The values of a row of slices. -/
def kS : Kd Hd := Kd.scalar hdV (fun _ => rfl)
/-- Settings as the reference holds them. -/
structure Fit (L : List S38) : Prop where
 good : Good L
 wv : ∀ x ∈ L, wordB x.f0 = true ∧ valueB x.f1 = true
structure Cs (w W : World) (vN : Value) (L : List S38) (vK : Value) (Hs : List Hd) (Ks : List (List S38)) : Prop where
 bel : Below w.heap.size w W
 now : Kd.R k38 38 W w.heap.size (fun _ => True) vN L
 row : Kd.R kS 25 W w.heap.size (fun k => some k = vK.ownBlock) vK Hs
 len : Hs.length = Ks.length
 ks : ∀ p ∈ Hs.zip Ks, Kd.R k38 38 W w.heap.size (fun _ => True) (hdV p.1) p.2 ∧ Fit p.2
 fit : Fit L
theorem R_set {W : World} {α : Type} {kd : Kd α} {e base g : Nat} {ok : Nat → Prop} {v : Value} {xs : List α} {t : TypeId} {cs : Array Value} (h : Kd.R kd e W base ok v xs) (hb : W.heap[g]? = some (.cells cs t (0, 0))) (hne : ∀ q, q ∈ e :: kd.E → q ≠ t) (j : Nat) (x : Value) : Kd.R kd e (W.setCell ⟨g, j, none⟩ x) base ok v xs :=
 Kd.R_mono (Kd.R_far (p := ⟨g, j, none⟩) (Kd.R_types h hb hne) (fun _ hk => hk.2) x) (fun _ h_ => h_.1)
section
variable {w W W' : World} {vN vK v1 : Value} {L L' K2 : List S38} {Hs : List Hd} {h2 : Hd} {Ks : List (List S38)} {A : Option Addr} {n cp g : Nat} {cs : Array Value}
theorem Cs.below (c : Cs w W vN L vK Hs Ks) (hB : Below W.heap.size W W') : Cs w W' vN L vK Hs Ks :=
 ⟨below_step c.bel hB, Kd.R_below c.now hB, Kd.R_below c.row hB, c.len, fun p hp => ⟨Kd.R_below (c.ks p hp).1 hB, (c.ks p hp).2⟩, c.fit⟩
/-- A box of the call's own is written. -/
theorem Cs.put (c : Cs w W vN L vK Hs Ks) (hb : W.heap[g]? = some (.cells cs 77 (0, 0))) (hg : w.heap.size ≤ g) (j : Nat) (x : Value) : Cs w (W.setCell ⟨g, j, none⟩ x) vN L vK Hs Ks :=
 ⟨below_set c.bel hg, R_set c.now hb (by decide) j x, R_set c.row hb (by decide) j x, c.len, fun p hp => ⟨R_set (c.ks p hp).1 hb (by decide) j x, (c.ks p hp).2⟩, c.fit⟩
theorem Cs.turn (c : Cs w W vN L vK Hs Ks) (hr : Kd.R k38 38 W w.heap.size (fun _ => True) v1 L') (hf : Fit L') : Cs w W v1 L' vK Hs Ks :=
 ⟨c.bel, hr, c.row, c.len, c.ks, hf⟩
/-- The settings are kept, too. -/
theorem Cs.push (c : Cs w W (hdV h2) L vK Hs Ks) (hr : Kd.R kS 25 W' w.heap.size (fun _ => True) v1 (Hs ++ [h2])) (hb : Below w.heap.size W W') (hG : W.grownBy W' vK.ownBlock) : Cs w W' (hdV h2) L v1 (Hs ++ [h2]) (Ks ++ [L]) := by
 have tK := Kd.R_typed c.row
 have ov : ∀ {v : Value} {M : List S38}, Kd.R k38 38 W w.heap.size (fun _ => True) v M → Kd.R k38 38 W' w.heap.size (fun _ => True) v M := fun h => Kd.R_over' h tK (by decide) hG
 refine ⟨c.bel.trans hb, ov c.now, ⟨fun k hk => hk.symm, hr.2.imp_ (fun _ _ hp => hp)⟩, by simp [c.len], fun p hp => ?_, c.fit⟩
 rw [List.zip_append c.len] at hp
 rcases List.mem_append.mp hp with hp | hp
 ·exact ⟨ov (c.ks p hp).1, (c.ks p hp).2⟩
 ·simp only [List.zip_cons_cons, List.zip_nil_right, List.mem_singleton] at hp
  subst hp
  exact ⟨ov c.now, c.fit⟩
theorem rowS_pop {base : Nat} (h : Kd.R kS 25 W base (fun k => some k = (Value.slice A n cp).ownBlock) (.slice A n cp) Hs) : Kd.R kS 25 W base (fun k => some k = (Value.slice A (Hs.length - 1) cp).ownBlock) (.slice A (Hs.length - 1) cp) Hs.dropLast := by
 have h := Kd.R_take (m := Hs.length - 1) h (Nat.sub_le _ _)
 rw [← List.dropLast_eq_take] at h
 cases A <;> exact h
theorem Cs.pop (c : Cs w W vN L (.slice A n cp) Hs Ks) : Cs w W vN L (.slice A (Hs.length - 1) cp) Hs.dropLast Ks.dropLast := by
 refine ⟨c.bel, c.now, rowS_pop c.row, by simp [c.len], fun p hp => c.ks p ?_, c.fit⟩
 have e : Hs.dropLast.zip Ks.dropLast = (Hs.zip Ks).take (Hs.length - 1) := by
  rw [List.dropLast_eq_take, List.dropLast_eq_take, ← c.len, List.zip, List.take_zipWith]
 rw [e] at hp
 exact List.mem_of_mem_take hp
theorem Cs.back (c : Cs w W vN L (.slice A n cp) (Hs ++ [h2]) (Ks ++ [K2])) : Cs w W (hdV h2) K2 (.slice A Hs.length cp) Hs Ks := by
 have hl : Hs.length = Ks.length := by have := c.len; simp at this; exact this
 have hz : (Hs ++ [h2]).zip (Ks ++ [K2]) = Hs.zip Ks ++ [(h2, K2)] := by rw [List.zip_append hl]; rfl
 obtain ⟨g1, g2⟩ := c.ks (h2, K2) (by rw [hz]; simp)
 have hr := rowS_pop c.row
 simp only [List.length_append, List.length_singleton, Nat.add_sub_cancel, List.dropLast_concat] at hr
 exact ⟨c.bel, g1, hr, hl, fun p hp => c.ks p (by rw [hz]; simp [hp]), g2⟩
theorem Cs.last (c : Cs w W vN L (.slice A n cp) (Hs ++ [h2]) Ks) : ∃ ad, A = some ad ∧ W.cell? (ad.add Hs.length) = some (hdV h2) := by
 obtain ⟨A', c', he, _, hC⟩ := Kd.R_reads c.row
 injection he with h1 h2 h3
 subst h1
 obtain ⟨ad, e, hc⟩ := ReadsOf.at_ (Kd.reads_of_C (enc := hdV) (d := (none, 0, 0)) (h1 := fun _ => rfl) hC) (Hs.length : Int) (by omega) (by simp; omega)
 refine ⟨ad, e, ?_⟩
 rw [Int.toNat_natCast] at hc
 rw [hc]
 simp [rdOf]
end
/-- Where a name stands. -/
def atS (L : List S38) (n : ByteArray) : Int := if L.findIdx (fun s => decide (s.f0 = n)) < L.length then (L.findIdx (fun s => decide (s.f0 = n)) : Int) else -1
/-- What the reference's small functions answer. -/
structure Plain : Prop where
 word : ∀ s : ByteArray, s.size ≤ 3000 → ∃ k, spec_WordOk.f k s = some (wordB s)
 value : ∀ s : ByteArray, s.size ≤ 3000 → ∃ k, spec_l19Value.f k s = some (valueB s)
 split : ∀ s : ByteArray, s.size ≤ 3000 → ∃ k, spec_l4Split.f k s 32 = some (pieces s)
 place : ∀ (L : List S38) (n : ByteArray), Good L → ∃ k, spec_l19At.f k L n = some (atS L n)
 set : ∀ (L : List S38) (x : S38), Good L → ∃ k, spec_l19Set.f k L x.f0 x.f1 = some (setS L x)
 unset : ∀ (L : List S38) (n : ByteArray), Good L → 0 ≤ atS L n → spec_l19Unset.f L (atS L n) = some (delS L n)
/-- What stands in spec.l19Do: the state's box gb, the answer's box gr, the pieces of the line. -/
structure Ds (w0 w W : World) (gb gr : Nat) (a b x y vN : Value) (L : List S38) (vK : Value) (Hs : List Hd) (Ks : List (List S38)) (vS : Value) (ps : List ByteArray) (vK0 : Value) : Prop where
 cs : Cs w0 W vN L vK Hs Ks
 bx : W.heap[gb]? = some (.cells #[a, b] 77 (0, 0))
 br : W.heap[gr]? = some (.cells #[x, y] 77 (0, 0))
 kept : Kept w W (fun k => some k = vK0.ownBlock)
 gb_ge : w.heap.size ≤ gb
 gr_ge : w.heap.size ≤ gr
 ne : gb ≠ gr
 ps : Kd.R Kd.string 9 W w.heap.size (fun _ => True) vS ps
 w0w : w0.heap.size ≤ w.heap.size
section
variable {w0 w W W' : World} {gb gr : Nat} {a b x y vN vK vS vK0 v1 : Value} {L L' : List S38} {Hs Hs' : List Hd} {Ks Ks' : List (List S38)} {ps : List ByteArray} {h2 : Hd}
theorem Ds.below (d : Ds w0 w W gb gr a b x y vN L vK Hs Ks vS ps vK0) (hB : Below W.heap.size W W') : Ds w0 w W' gb gr a b x y vN L vK Hs Ks vS ps vK0 :=
 ⟨d.cs.below hB, blk_below d.bx hB, blk_below d.br hB, d.kept.below hB, d.gb_ge, d.gr_ge, d.ne, Kd.R_below d.ps hB, d.w0w⟩
theorem Ds.drew (d : Ds w0 w W gb gr a b x y vN L vK Hs Ks vS ps vK0) : Ds w0 w W.drew gb gr a b x y vN L vK Hs Ks vS ps vK0 := d.below (below_drew1 (Below.refl _ _))
/-- The state's box is written. -/
theorem Ds.put0 (d : Ds w0 w W gb gr a b x y vN L vK Hs Ks vS ps vK0) (u : Value) : Ds w0 w (W.setCell ⟨gb, 0, none⟩ u) gb gr u b x y vN L vK Hs Ks vS ps vK0 :=
 ⟨d.cs.put d.bx (Nat.le_trans d.w0w d.gb_ge) 0 u, blk_put d.bx 0 u rfl, blk_far d.br (fun e => d.ne e.symm) u, d.kept.setCell (.inr d.gb_ge) u, d.gb_ge, d.gr_ge, d.ne, R_set d.ps d.bx (by decide) 0 u, d.w0w⟩
theorem Ds.put1 (d : Ds w0 w W gb gr a b x y vN L vK Hs Ks vS ps vK0) (u : Value) : Ds w0 w (W.setCell ⟨gb, 1, none⟩ u) gb gr a u x y vN L vK Hs Ks vS ps vK0 :=
 ⟨d.cs.put d.bx (Nat.le_trans d.w0w d.gb_ge) 1 u, blk_put d.bx 1 u rfl, blk_far d.br (fun e => d.ne e.symm) u, d.kept.setCell (.inr d.gb_ge) u, d.gb_ge, d.gr_ge, d.ne, R_set d.ps d.bx (by decide) 1 u, d.w0w⟩
/-- The answer's box is written. -/
theorem Ds.ans0 (d : Ds w0 w W gb gr a b x y vN L vK Hs Ks vS ps vK0) (u : Value) : Ds w0 w (W.setCell ⟨gr, 0, none⟩ u) gb gr a b u y vN L vK Hs Ks vS ps vK0 :=
 ⟨d.cs.put d.br (Nat.le_trans d.w0w d.gr_ge) 0 u, blk_far d.bx (fun e => d.ne e) u, blk_put d.br 0 u rfl, d.kept.setCell (.inr d.gr_ge) u, d.gb_ge, d.gr_ge, d.ne, R_set d.ps d.br (by decide) 0 u, d.w0w⟩
theorem Ds.ans1 (d : Ds w0 w W gb gr a b x y vN L vK Hs Ks vS ps vK0) (u : Value) : Ds w0 w (W.setCell ⟨gr, 1, none⟩ u) gb gr a b x u vN L vK Hs Ks vS ps vK0 :=
 ⟨d.cs.put d.br (Nat.le_trans d.w0w d.gr_ge) 1 u, blk_far d.bx (fun e => d.ne e) u, blk_put d.br 1 u rfl, d.kept.setCell (.inr d.gr_ge) u, d.gb_ge, d.gr_ge, d.ne, R_set d.ps d.br (by decide) 1 u, d.w0w⟩
theorem Ds.ans (d : Ds w0 w W gb gr a b x y vN L vK Hs Ks vS ps vK0) (p q : Value) : Ds w0 w ((W.setCell ⟨gr, 0, none⟩ p).setCell ⟨gr, 1, none⟩ q) gb gr a b p q vN L vK Hs Ks vS ps vK0 := (d.ans0 p).ans1 q
/-- What is kept grows. -/
theorem Ds.push (d : Ds w0 w W gb gr a b x y (hdV h2) L vK Hs Ks vS ps vK) (hr : Kd.R kS 25 W' w0.heap.size (fun _ => True) v1 (Hs ++ [h2])) (hb : Below w0.heap.size W W') (hG : W.grownBy W' vK.ownBlock) :
  Ds w0 w W' gb gr a b x y (hdV h2) L v1 (Hs ++ [h2]) (Ks ++ [L]) vS ps vK :=
 ⟨d.cs.push hr hb hG, blk_grown d.bx hG (Kd.R_ne d.cs.row d.bx (by decide)), blk_grown d.br hG (Kd.R_ne d.cs.row d.br (by decide)), Kept.of_grown hG d.kept (fun k hk => .inl hk.symm), d.gb_ge, d.gr_ge, d.ne, Kd.R_over' d.ps (Kd.R_typed d.cs.row) (by decide) hG, d.w0w⟩
theorem Ds.with_ {vN' vK' : Value} (d : Ds w0 w W gb gr a b x y vN L vK Hs Ks vS ps vK0) (c : Cs w0 W vN' L' vK' Hs' Ks') : Ds w0 w W gb gr a b x y vN' L' vK' Hs' Ks' vS ps vK0 :=
 ⟨c, d.bx, d.br, d.kept, d.gb_ge, d.gr_ge, d.ne, d.ps, d.w0w⟩
end
/-- What spec.l19Do answers of a line. -/
def DoPost (w0 w : World) (vK0 : Value) (L : List S38) (Ks : List (List S38)) (line : ByteArray) (e : Ending) (w' : World) : Prop :=
 ∃ (A1 : Option Addr) (n1 c1 : Nat) (A2 : Option Addr) (n2 c2 : Nat) (ok : Bool), e = .returned (.tuple #[.agg #[.slice A1 n1 c1, .slice A2 n2 c2], .bool ok]) ∧ Kept w w' (fun k => some k = vK0.ownBlock) ∧ Below w0.heap.size w0 w' ∧
  ((∃ s Hs', doI wordB valueB L Ks line = some s ∧ ok = true ∧ Cs w0 w' (.slice A1 n1 c1) s.1 (.slice A2 n2 c2) Hs' s.2) ∨ (doI wordB valueB L Ks line = none ∧ ok = false))
theorem Ds.no {w0 w W : World} {gb gr : Nat} {a b x y vN vK vS vK0 : Value} {A1 A2 : Option Addr} {n1 c1 n2 c2 : Nat} {L : List S38} {Hs : List Hd} {Ks : List (List S38)} {ps : List ByteArray} {L1 : List S38} {Ks1 : List (List S38)} {line : ByteArray} (d : Ds w0 w W gb gr a b x y vN L vK Hs Ks vS ps vK0) (hn : doI wordB valueB L1 Ks1 line = none) :
  DoPost w0 w vK0 L1 Ks1 line (.returned (.tuple #[.agg #[.slice A1 n1 c1, .slice A2 n2 c2], .bool false])) W :=
 ⟨_, _, _, _, _, _, false, rfl, d.kept, d.cs.bel, .inr ⟨hn, rfl⟩⟩
theorem Ds.yes {w0 w W : World} {gb gr : Nat} {a b x y vS vK0 : Value} {A1 A2 : Option Addr} {n1 c1 n2 c2 : Nat} {L : List S38} {Hs : List Hd} {Ks : List (List S38)} {ps : List ByteArray} {L1 : List S38} {Ks1 : List (List S38)} {line : ByteArray} (d : Ds w0 w W gb gr a b x y (.slice A1 n1 c1) L (.slice A2 n2 c2) Hs Ks vS ps vK0) (hs : doI wordB valueB L1 Ks1 line = some (L, Ks)) :
  DoPost w0 w vK0 L1 Ks1 line (.returned (.tuple #[.agg #[.slice A1 n1 c1, .slice A2 n2 c2], .bool true])) W :=
 ⟨_, _, _, _, _, _, true, rfl, d.kept, d.cs.bel, .inl ⟨(L, Ks), Hs, hs, rfl, d.cs⟩⟩
theorem info25 : (Tryd.prog.info? 25).map (fun i => (i.zero, i.size, i.bytes)) = some (some (.slice none 0 0), 1, 24) := by kernel_rfl
theorem atS_iff (L : List S38) (n : ByteArray) : 0 ≤ atS L n ↔ (getS L n).2 = true := by
 unfold atS getS
 cases h : L.find? (fun s => decide (s.f0 = n)) with
 | none =>
  have : ¬ L.findIdx (fun s => decide (s.f0 = n)) < L.length := fun hl => by
   have h1 := List.findIdx_getElem (w := hl)
   have h2 := List.find?_eq_none.mp h _ (List.getElem_mem hl)
   exact absurd h1 h2
  rw [if_neg this]
  simp
 | some s =>
  have h1 := List.find?_some h
  have h2 := List.mem_of_find?_eq_some h
  have : L.findIdx (fun s => decide (s.f0 = n)) < L.length := List.findIdx_lt_length_of_exists ⟨s, h2, h1⟩
  rw [if_pos this]
  simp
theorem atS_lt (L : List S38) (n : ByteArray) (h : 0 ≤ atS L n) : atS L n < L.length := by
 unfold atS at h ⊢
 by_cases c : L.findIdx (fun s => decide (s.f0 = n)) < L.length
 ·rw [if_pos c]; omega
 ·rw [if_neg c] at h; omega
theorem atS_ge (L : List S38) (n : ByteArray) : -1 ≤ atS L n := by
 unfold atS
 split <;> omega
theorem atS_get (L : List S38) (n : ByteArray) (h : 0 ≤ atS L n) : (rd_T38 L (atS L n)).f0 = n ∧ (rd_T38 L (atS L n)).f1 = (getS L n).1 := by
 have hg := (atS_iff L n).mp h
 unfold atS at h ⊢
 by_cases c : L.findIdx (fun s => decide (s.f0 = n)) < L.length
 ·rw [if_pos c]
  have e1 : rd_T38 L ((L.findIdx (fun s => decide (s.f0 = n)) : Nat) : Int) = L[L.findIdx (fun s => decide (s.f0 = n))] := by simp [rd_T38, c]
  have h1 := List.findIdx_getElem (w := c)
  have h2 : L.find? (fun s => decide (s.f0 = n)) = some L[L.findIdx (fun s => decide (s.f0 = n))] := by
   rw [List.find?_eq_some_iff_getElem]
   exact ⟨h1, _, c, rfl, fun j hj => by have := List.not_of_lt_findIdx hj; simpa using this⟩
  rw [e1]
  refine ⟨by simpa using h1, ?_⟩
  unfold getS
  rw [h2]
 ·rw [if_neg c] at h; omega
theorem getS_mem {L : List S38} {n : ByteArray} (h : (getS L n).2 = true) : ∃ s ∈ L, s.f0 = n ∧ s.f1 = (getS L n).1 := by
 unfold getS at h ⊢
 cases hf : L.find? (fun s => decide (s.f0 = n)) with
 | none => rw [hf] at h; simp at h
 | some s => exact ⟨s, List.mem_of_find?_eq_some hf, by simpa using List.find?_some hf, rfl⟩
theorem Fit.word {L : List S38} (f : Fit L) {n : ByteArray} (h : (getS L n).2 = true) : wordB n = true ∧ valueB (getS L n).1 = true := by
 obtain ⟨s, hs, h1, h2⟩ := getS_mem h
 rw [← h2, ← h1]
 exact f.wv s hs
theorem Fit.del {L : List S38} (f : Fit L) (n : ByteArray) : Fit (delS L n) := ⟨f.good.del n, fun x hx => f.wv x (List.mem_filter.mp hx).1⟩
theorem Fit.set {L : List S38} (f : Fit L) (x : S38) (hc : (getS L x.f0).2 = true ∨ L.length < 40) (hs : x.f0.size ≤ 1048576 ∧ x.f1.size ≤ 1048576) (hw : wordB x.f0 = true) (hv : valueB x.f1 = true) : Fit (setS L x) := by
 refine ⟨f.good.set x hc hs, fun y hy => ?_⟩
 rcases insA_mem x y _ hy with rfl | hy
 ·exact ⟨hw, hv⟩
 ·exact f.wv y (List.mem_filter.mp hy).1
theorem setS_new (L : List S38) (x : S38) (h : ¬ (getS L x.f0).2 = true) : (setS L x).length = L.length + 1 := by
 have : delS L x.f0 = L := List.filter_eq_self.mpr fun s hs => by
  have hne : s.f0 ≠ x.f0 := fun e => h (by
   unfold getS
   cases hf : L.find? (fun s => decide (s.f0 = x.f0)) with
   | none => exact absurd (List.find?_eq_none.mp hf s hs) (by simpa using e)
   | some y => rfl)
  simp [hne]
 unfold setS
 rw [insA_len, this]
/-- The order of the last statement's operations (a table, checked by the kernel). -/
def doT30 : Bool × List (List Nat × List Nat) := (true, [([], []), ([], []), ([1], [1]), ([2], [2]), ([3], [3]), ([4, 3], [3, 4]), ([3], [3]), ([5, 6, 3], [3, 5, 6]), ([7, 3], [3, 7]), ([8, 3], [3, 8]), ([3], [3]), ([10, 3], [3, 10]), ([11, 3], [3, 11]), ([9, 12, 3], [3, 9, 12]), ([3, 13], [3, 13]), ([0, 3, 0], [0]), ([14, 15, 0, 1, 2, 3, 4, 5, 6, 7, 8, 9, 10, 11, 12, 13, 14, 15], [14])])
def doB30 : List Nat := [0, 0, 2, 6, 14, 30, 14, 126, 254, 510, 14, 1038, 3086, 8190, 16382, 15, 65535]
theorem do_tab30 : rtab .any (opsOf Tryd.f40 30) = doT30 := by kernel_rfl
theorem do_bits30 : waitsOk doT30.2 doB30 = true := by kernel_rfl

theorem below_drawn {W W' : World} (h : Drawn0 W W') : Below W.heap.size W W' := by
 obtain ⟨m, rfl⟩ := h
 exact pw_below_drewN (Below.refl _ _) _
theorem piece_at {W : World} {base : Nat} {ok : Nat → Prop} {A : Option Addr} {n c : Nat} {ps : List ByteArray} (h : Kd.R Kd.string 9 W base ok (.slice A n c) ps) (i : Nat) {p : ByteArray} (hp : ps[i]? = some p) : ∃ ad, A = some ad ∧ W.cell? (ad.add i) = some (.string p) := by
 obtain ⟨hi, hv⟩ := List.getElem?_eq_some_iff.mp hp
 have hn : n = ps.length := (Kd.R_reads' h).1
 subst hn
 obtain ⟨ad, e, hx⟩ := Kd.at_string (Kd.R_reads' h).2.2 (i : Int) (by omega) (by omega)
 refine ⟨ad, e, ?_⟩
 rw [Int.toNat_natCast] at hx
 rw [hx]
 simp [rdOf, hi, hv]
set_option maxHeartbeats 4000000 in
set_option maxRecDepth 100000 in
theorem do_one0 (F : Plain) (w0 w : World) (vN vK : Value) (L : List S38) (Hs : List Hd) (Ks : List (List S38)) (line : ByteArray) (c : Cs w0 w vN L vK Hs Ks) (hk4 : Ks.length ≤ 4) (hs : line.size ≤ 3000) (hP : pieces line = [line]) (hKs : Ks = []) :
  Calls Tryd.prog 40 #[.agg #[vN, vK], .string line] w (DoPost w0 w vK L Ks line) := by
 obtain ⟨AN, cN, eN⟩ := Kd.R_slice c.now
 subst eN
 obtain ⟨AK, cK, eK⟩ := Kd.R_slice c.row
 rw [c.len] at eK
 subst eK
 obtain ⟨ks, hsp⟩ := F.split line hs
 have CSP := Aside0.mk (fun W => spec_l4Split.calls ks line 32 (pieces line) W hsp)
 have HC := Aside0.mk c
 have hw0 := c.bel.size
 clear c hsp
 go_enter Tryd.func40, Tryd.ntmps40
 go_upto_region 2 with (first
  | ((with_reducible refine gate_dst (N := 2) rfl ?_); refine box_event ?hg (N := 2) ?hd (cs := #[.slice AN L.length cN, .slice AK Ks.length cK]) (t := 77) ?hr ?_; (case hd => rfl); (case hg => rfl); (case hr => first | (go_simp; done) | (go_simp; rfl)); intro gb hgb w1 hbx hb1; have HGB := Aside0.mk hgb; have HBX := Aside0.mk hbx; have HB1 := Aside0.mk hb1; clear hgb hbx hb1)
  | ((with_reducible refine gate_dst (N := 4) rfl ?_); refine box_event ?hg (N := 4) ?hd (cs := #[.slice none 0 0, .slice none 0 0]) (t := 77) ?hr ?_; (case hd => rfl); (case hg => rfl); (case hr => first | (go_simp; done) | (go_simp; rfl)); intro gr hgr w2 hbr hb2; have HGR := Aside0.mk hgr; have HBR := Aside0.mk hbr; have HB2 := Aside0.mk hb2; clear hgr hbr hb2)
  | (go_at_call 62; (with_reducible refine (CSP.out _).mono ?_); rintro e w3 ⟨v3, rfl, hps, hb3⟩))
 have hgb := HGB.out
 have hbx := HBX.out
 have hb1 := HB1.out
 have hgr := HGR.out
 have hbr := HBR.out
 have hb2 := HB2.out
 have hb12 := hb1.trans (hb2.mono hb1.size)
 have D : Ds w0 w w3 gb gr (.slice AN L.length cN) (.slice AK Ks.length cK) (.slice none 0 0) (.slice none 0 0) (.slice AN L.length cN) L (.slice AK Ks.length cK) Hs Ks v3 (pieces line) (.slice AK Ks.length cK) :=
  ⟨((HC.out.below hb1).below hb2).below hb3, blk_below (blk_below hbx hb2) hb3, blk_below hbr hb3, Kept.of_below (below_step hb12 hb3) _, Nat.le_of_eq hgb.symm, by rw [hgr]; exact hb1.size, Nat.ne_of_lt (by rw [hgr]; exact blk_lt hbx), Kd.R_lower hps hb12.size, hw0⟩
 clear hbx hbr hps hb1 hb2 hb3 hb12 hgb hgr HC CSP HGB HBX HB1 HGR HBR HB2
 obtain ⟨AS, cS, eS⟩ := Kd.R_slice D.ps
 subst eS
 obtain ⟨adS, eA, hx0⟩ : ∃ ad, AS = some ad ∧ w3.cell? (ad.add 0) = some (.string line) := piece_at D.ps 0 (by rw [hP]; rfl)
 subst eA
 try rw [Addr.add_zero'] at hx0
 have hm : (pieces line).length = 1 := by rw [hP]; rfl
 rw [hm]
 rw [hm] at D
 obtain rfl := hKs
 have hHl := D.cs.len
 obtain rfl : Hs = [] := List.length_eq_zero_iff.mp hHl
 rw [show ([] : List (List S38)).length = 0 from rfl] at D
 rw [show ([] : List (List S38)).length = 0 from rfl]
 have HDO := Aside0.mk (doI1 (L := L) (Ks := []) hm)
 clear hHl
 have qa : w3.cell? ⟨gb, 0, none⟩ = some (.slice AN L.length cN) := (blk_cell D.bx 0).trans rfl
 have qb : w3.cell? ⟨gb, 1, none⟩ = some (.slice AK 0 cK) := (blk_cell D.bx 1).trans rfl
 have qc : w3.cell? ⟨gr, 0, none⟩ = some (.slice none 0 0) := (blk_cell D.br 0).trans rfl
 have qd : w3.cell? ⟨gr, 1, none⟩ = some (.slice none 0 0) := (blk_cell D.br 1).trans rfl
 have fa := blk_frozen D.bx 0
 have fb := blk_frozen D.bx 1
 have fc := blk_frozen D.br 0
 have fd := blk_frozen D.br 1
 have hn1 := D.ne
 have hn2 := fun e : gr = gb => D.ne e.symm
 have HD := Aside0.mk D
 clear D
 go_wp2_with (first | ((with_reducible refine gate_builtin (b := .append) (xs := #[.tmp 27, .tmp 30]) rfl ?_); at_builtin; refine Kd.R_append kS (w0 := w3) w0.heap.size rfl (.tmp 27) (.tmp 30) 75 25 (.slice none 0 0) 24 rfl Tryd.underlying75 info25 rfl (by decide) (by omega) (.slice AK 0 cK) [] (AN, L.length, cN) [.slice AN L.length cN] (fun _ => True) (fun _ => False) rfl rfl ?aP (fun _ hk => hk.elim) ?aF ?aO (Below.refl _ _) ?aS ?aL ?_; (case aP => rfl); (case aF => exact fun _ _ => trivial); (case aO => exact Kd.R_mono HD.out.cs.row (fun _ _ => trivial)); (case aS => exact HD.out.cs.bel.size); (case aL => simp); intro v7 w7 hr7 hb7 hg7 hat7; obtain ⟨A7, c7, e7⟩ := Kd.R_slice hr7; replace e7 : v7 = .slice A7 1 c7 := e7; subst e7; have D7 := HD.out.push (h2 := (AN, L.length, cN)) hr7 hb7 hg7; clear hr7 hb7 hg7 hat7 qa qb qc qd fa fb fc fd; have qa7 : w7.cell? ⟨gb, 0, none⟩ = some (.slice AN L.length cN) := (blk_cell D7.bx 0).trans rfl; have qb7 : w7.cell? ⟨gb, 1, none⟩ = some (.slice AK 0 cK) := (blk_cell D7.bx 1).trans rfl; have qc7 : w7.cell? ⟨gr, 0, none⟩ = some (.slice none 0 0) := (blk_cell D7.br 0).trans rfl; have qd7 : w7.cell? ⟨gr, 1, none⟩ = some (.slice none 0 0) := (blk_cell D7.br 1).trans rfl; have fa7 := blk_frozen D7.bx 0; have fb7 := blk_frozen D7.bx 1; have fc7 := blk_frozen D7.br 0; have fd7 := blk_frozen D7.br 1; have HD7 := Aside0.mk D7; clear D7))
 ·rename_i h1
  have D9 := (HD7.out.put1 (.slice A7 1 c7)).ans (.slice AN L.length cN) (.slice A7 1 c7)
  have hd : doI wordB valueB L [] line = some (L, [] ++ [L]) := HDO.out.trans (by rw [if_pos ((toList_lit _ _).mp h1), if_pos (by decide)])
  refine bodyPost_ret (results_ct rfl _ _ gr 77 #[.slice AN L.length cN, .slice A7 1 c7] (0, 0) _ rfl D9.br Tryd.underlying77 rfl (by kernel_rfl)) rfl ?_
  exact D9.yes hd
 ·rename_i h1 h2
  have D9 := HD.out.ans (.slice AN L.length cN) (.slice AK 0 cK)
  have hd : doI wordB valueB L [] line = none := HDO.out.trans (by rw [if_neg (fun e => h1 ((toList_lit _ _).mpr e)), if_pos (.inl ((toList_lit _ _).mp h2)), if_neg (by decide)])
  refine bodyPost_ret (results_ct rfl _ _ gr 77 #[.slice AN L.length cN, .slice AK 0 cK] (0, 0) _ rfl D9.br Tryd.underlying77 rfl (by kernel_rfl)) rfl ?_
  exact D9.no hd
 ·rename_i h1 h2 h3
  have D9 := HD.out.ans (.slice AN L.length cN) (.slice AK 0 cK)
  have hd : doI wordB valueB L [] line = none := HDO.out.trans (by rw [if_neg (fun e => h1 ((toList_lit _ _).mpr e)), if_pos (.inr ((toList_lit _ _).mp h3)), if_neg (by decide)])
  refine bodyPost_ret (results_ct rfl _ _ gr 77 #[.slice AN L.length cN, .slice AK 0 cK] (0, 0) _ rfl D9.br Tryd.underlying77 rfl (by kernel_rfl)) rfl ?_
  exact D9.no hd
 ·rename_i h1 h2 h3
  have D9 := HD.out.ans (.slice AN L.length cN) (.slice AK 0 cK)
  have hd : doI wordB valueB L [] line = none := HDO.out.trans (by rw [if_neg (fun e => h1 ((toList_lit _ _).mpr e)), if_neg (fun e => e.elim (fun e => h2 ((toList_lit _ _).mpr e)) (fun e => h3 ((toList_lit _ _).mpr e)))])
  refine bodyPost_ret (results_ct rfl _ _ gr 77 #[.slice AN L.length cN, .slice AK 0 cK] (0, 0) _ rfl D9.br Tryd.underlying77 rfl (by kernel_rfl)) rfl ?_
  exact D9.no hd

set_option maxHeartbeats 4000000 in
set_option maxRecDepth 100000 in
theorem do_one1 (F : Plain) (w0 w : World) (vN vK : Value) (L : List S38) (Hs : List Hd) (Ks : List (List S38)) (line : ByteArray) (c : Cs w0 w vN L vK Hs Ks) (hk4 : Ks.length ≤ 4) (hs : line.size ≤ 3000) (hP : pieces line = [line]) (hKs : Ks ≠ []) :
  Calls Tryd.prog 40 #[.agg #[vN, vK], .string line] w (DoPost w0 w vK L Ks line) := by
 obtain ⟨AN, cN, eN⟩ := Kd.R_slice c.now
 subst eN
 obtain ⟨AK, cK, eK⟩ := Kd.R_slice c.row
 rw [c.len] at eK
 subst eK
 obtain ⟨ks, hsp⟩ := F.split line hs
 have CSP := Aside0.mk (fun W => spec_l4Split.calls ks line 32 (pieces line) W hsp)
 have HC := Aside0.mk c
 have hw0 := c.bel.size
 clear c hsp
 go_enter Tryd.func40, Tryd.ntmps40
 go_upto_region 2 with (first
  | ((with_reducible refine gate_dst (N := 2) rfl ?_); refine box_event ?hg (N := 2) ?hd (cs := #[.slice AN L.length cN, .slice AK Ks.length cK]) (t := 77) ?hr ?_; (case hd => rfl); (case hg => rfl); (case hr => first | (go_simp; done) | (go_simp; rfl)); intro gb hgb w1 hbx hb1; have HGB := Aside0.mk hgb; have HBX := Aside0.mk hbx; have HB1 := Aside0.mk hb1; clear hgb hbx hb1)
  | ((with_reducible refine gate_dst (N := 4) rfl ?_); refine box_event ?hg (N := 4) ?hd (cs := #[.slice none 0 0, .slice none 0 0]) (t := 77) ?hr ?_; (case hd => rfl); (case hg => rfl); (case hr => first | (go_simp; done) | (go_simp; rfl)); intro gr hgr w2 hbr hb2; have HGR := Aside0.mk hgr; have HBR := Aside0.mk hbr; have HB2 := Aside0.mk hb2; clear hgr hbr hb2)
  | (go_at_call 62; (with_reducible refine (CSP.out _).mono ?_); rintro e w3 ⟨v3, rfl, hps, hb3⟩))
 have hgb := HGB.out
 have hbx := HBX.out
 have hb1 := HB1.out
 have hgr := HGR.out
 have hbr := HBR.out
 have hb2 := HB2.out
 have hb12 := hb1.trans (hb2.mono hb1.size)
 have D : Ds w0 w w3 gb gr (.slice AN L.length cN) (.slice AK Ks.length cK) (.slice none 0 0) (.slice none 0 0) (.slice AN L.length cN) L (.slice AK Ks.length cK) Hs Ks v3 (pieces line) (.slice AK Ks.length cK) :=
  ⟨((HC.out.below hb1).below hb2).below hb3, blk_below (blk_below hbx hb2) hb3, blk_below hbr hb3, Kept.of_below (below_step hb12 hb3) _, Nat.le_of_eq hgb.symm, by rw [hgr]; exact hb1.size, Nat.ne_of_lt (by rw [hgr]; exact blk_lt hbx), Kd.R_lower hps hb12.size, hw0⟩
 clear hbx hbr hps hb1 hb2 hb3 hb12 hgb hgr HC CSP HGB HBX HB1 HGR HBR HB2
 obtain ⟨AS, cS, eS⟩ := Kd.R_slice D.ps
 subst eS
 obtain ⟨adS, eA, hx0⟩ : ∃ ad, AS = some ad ∧ w3.cell? (ad.add 0) = some (.string line) := piece_at D.ps 0 (by rw [hP]; rfl)
 subst eA
 try rw [Addr.add_zero'] at hx0
 have hm : (pieces line).length = 1 := by rw [hP]; rfl
 rw [hm]
 rw [hm] at D
 obtain ⟨K1, K2, rfl⟩ : ∃ K1 K2, Ks = K1 ++ [K2] := ⟨Ks.dropLast, Ks.getLast hKs, (List.dropLast_concat_getLast hKs).symm⟩
 have hHl := D.cs.len
 have hHs : Hs ≠ [] := fun e => by rw [e] at hHl; simp at hHl
 obtain ⟨H1, ⟨A2, n2, c2⟩, rfl⟩ : ∃ H1 h2, Hs = H1 ++ [h2] := ⟨Hs.dropLast, Hs.getLast hHs, (List.dropLast_concat_getLast hHs).symm⟩
 have hHK : H1.length = K1.length := by simpa using hHl
 have hll : (K1 ++ [K2]).length = K1.length + 1 := by simp
 have hlh : (H1 ++ [(A2, n2, c2)]).length = K1.length + 1 := by simp [hHK]
 rw [hll] at D hk4
 rw [hll]
 obtain ⟨adK, rfl, hlast⟩ := D.cs.last
 rw [hHK] at hlast
 obtain ⟨q, hq⟩ : ∃ q, K1.length = q := ⟨_, rfl⟩
 rw [hq] at hlast hk4 D ⊢
 replace hlast : w3.cell? (adK.add q) = some (.slice A2 n2 c2) := hlast
 have hcap : q + 1 ≤ cK := by
   obtain ⟨A', c', he, hc', _⟩ := Kd.R_reads D.cs.row
   injection he with e1 e2 e3
   rw [e3, e2]; exact hc'
 have hq1 : ∀ m : Nat, m = q → wrap64 (((m : Int) + 1) - 1) = (m : Int) := fun m hm => (w64 (by omega) (by omega)).trans (by omega)
 have hdo := doI1 (L := L) (Ks := K1 ++ [K2]) hm
 have HDO := Aside0.mk hdo
 have HQ := Aside0.mk hq
 have HHK := Aside0.mk hHK
 have HLL := Aside0.mk hll
 have HLH := Aside0.mk hlh
 clear hHs hKs hq hHK hll hlh hHl hdo
 have qa : w3.cell? ⟨gb, 0, none⟩ = some (.slice AN L.length cN) := (blk_cell D.bx 0).trans rfl
 have qb : w3.cell? ⟨gb, 1, none⟩ = some (.slice (some adK) (q + 1) cK) := (blk_cell D.bx 1).trans rfl
 have qc : w3.cell? ⟨gr, 0, none⟩ = some (.slice none 0 0) := (blk_cell D.br 0).trans rfl
 have qd : w3.cell? ⟨gr, 1, none⟩ = some (.slice none 0 0) := (blk_cell D.br 1).trans rfl
 have fa := blk_frozen D.bx 0
 have fb := blk_frozen D.bx 1
 have fc := blk_frozen D.br 0
 have fd := blk_frozen D.br 1
 have hn1 := D.ne
 have hn2 := fun e : gr = gb => D.ne e.symm
 have HD := Aside0.mk D
 clear D
 go_wp2_with (first | ((with_reducible refine gate_builtin (b := .append) (xs := #[.tmp 27, .tmp 30]) rfl ?_); at_builtin; refine Kd.R_append kS (w0 := w3) w0.heap.size rfl (.tmp 27) (.tmp 30) 75 25 (.slice none 0 0) 24 rfl Tryd.underlying75 info25 rfl (by decide) (by omega) (.slice (some adK) (q + 1) cK) (H1 ++ [(A2, n2, c2)]) (AN, L.length, cN) [.slice AN L.length cN] (fun _ => True) (fun _ => False) rfl rfl ?aP (fun _ hk => hk.elim) ?aF ?aO (Below.refl _ _) ?aS ?aL ?_; (case aP => rfl); (case aF => exact fun _ _ => trivial); (case aO => exact Kd.R_mono HD.out.cs.row (fun _ _ => trivial)); (case aS => exact HD.out.cs.bel.size); (case aL => rw [HLH.out, HQ.out]; omega); intro v7 w7 hr7 hb7 hg7 hat7; obtain ⟨A7, c7, e7⟩ := Kd.R_slice hr7; rw [show ((H1 ++ [(A2, n2, c2)]) ++ [(AN, L.length, cN)]).length = q + 2 from by rw [List.length_append, HLH.out, HQ.out]; rfl] at e7; subst e7; have D7 := HD.out.push (h2 := (AN, L.length, cN)) hr7 hb7 hg7; clear hr7 hb7 hg7 hat7 qa qb qc qd fa fb fc fd; have qa7 : w7.cell? ⟨gb, 0, none⟩ = some (.slice AN L.length cN) := (blk_cell D7.bx 0).trans rfl; have qb7 : w7.cell? ⟨gb, 1, none⟩ = some (.slice (some adK) (q + 1) cK) := (blk_cell D7.bx 1).trans rfl; have qc7 : w7.cell? ⟨gr, 0, none⟩ = some (.slice none 0 0) := (blk_cell D7.br 0).trans rfl; have qd7 : w7.cell? ⟨gr, 1, none⟩ = some (.slice none 0 0) := (blk_cell D7.br 1).trans rfl; have fa7 := blk_frozen D7.bx 0; have fb7 := blk_frozen D7.bx 1; have fc7 := blk_frozen D7.br 0; have fd7 := blk_frozen D7.br 1; have HD7 := Aside0.mk D7; clear D7))
 ·rename_i h1 h2
  have D9 := (HD7.out.put1 (.slice A7 (q + 2) c7)).ans (.slice AN L.length cN) (.slice A7 (q + 2) c7)
  have hd : doI wordB valueB L (K1 ++ [K2]) line = some (L, (K1 ++ [K2]) ++ [L]) := HDO.out.trans (by rw [if_pos ((toList_lit _ _).mp h1), if_pos (by rw [HLL.out, HQ.out]; omega)])
  refine bodyPost_ret (results_ct rfl _ _ gr 77 #[.slice AN L.length cN, .slice A7 (q + 2) c7] (0, 0) _ rfl D9.br Tryd.underlying77 rfl (by kernel_rfl)) rfl ?_
  rw [HLL.out, HQ.out]
  exact D9.yes hd
 ·rename_i h1 h2
  have D9 := HD.out.ans (.slice AN L.length cN) (.slice (some adK) (q + 1) cK)
  have hd : doI wordB valueB L (K1 ++ [K2]) line = none := HDO.out.trans (by rw [if_pos ((toList_lit _ _).mp h1), if_neg (by rw [HLL.out, HQ.out]; omega)])
  refine bodyPost_ret (results_ct rfl _ _ gr 77 #[.slice AN L.length cN, .slice (some adK) (q + 1) cK] (0, 0) _ rfl D9.br Tryd.underlying77 rfl (by kernel_rfl)) rfl ?_
  rw [HLL.out, HQ.out]
  exact D9.no hd
 ·rename_i h1 h2
  have D9 := ((HD.out.put1 (.slice (some adK) q cK)).with_ (vN' := .slice AN L.length cN) (L' := L) (vK' := .slice (some adK) q cK) (Hs' := H1) (Ks' := K1) (by have h_ := (HD.out.put1 (.slice (some adK) q cK)).cs.pop; rw [HLH.out, Nat.add_sub_cancel, HQ.out, List.dropLast_concat, List.dropLast_concat] at h_; exact h_)).ans (.slice AN L.length cN) (.slice (some adK) q cK)
  have hd : doI wordB valueB L (K1 ++ [K2]) line = some (L, K1) := HDO.out.trans (by rw [if_neg (fun e => h1 ((toList_lit _ _).mpr e)), if_pos (.inl ((toList_lit _ _).mp h2)), if_pos (by rw [HLL.out]; exact Nat.succ_pos _), if_neg (fun e => absurd (((toList_lit _ _).mp h2).symm.trans e) (by decide)), List.dropLast_concat])
  refine bodyPost_ret (results_ct rfl _ _ gr 77 #[.slice AN L.length cN, .slice (some adK) q cK] (0, 0) _ rfl D9.br Tryd.underlying77 rfl (by kernel_rfl)) rfl ?_
  rw [HLL.out, HQ.out]
  exact D9.yes hd
 ·rename_i h1 h2 h3
  have D9 := (((HD.out.put0 (.slice A2 n2 c2)).put1 (.slice (some adK) q cK)).with_ (vN' := .slice A2 n2 c2) (L' := K2) (vK' := .slice (some adK) q cK) (Hs' := H1) (Ks' := K1) (by have h_ := ((HD.out.put0 (.slice A2 n2 c2)).put1 (.slice (some adK) q cK)).cs.back; rw [HHK.out, HQ.out] at h_; exact h_)).ans (.slice A2 n2 c2) (.slice (some adK) q cK)
  have hd : doI wordB valueB L (K1 ++ [K2]) line = some (K2, K1) := HDO.out.trans (by rw [if_neg (fun e => h1 ((toList_lit _ _).mpr e)), if_pos (.inr ((toList_lit _ _).mp h3)), if_pos (by rw [HLL.out]; exact Nat.succ_pos _), if_pos ((toList_lit _ _).mp h3), List.dropLast_concat, List.getLastD_concat])
  refine bodyPost_ret (results_ct rfl _ _ gr 77 #[.slice A2 n2 c2, .slice (some adK) q cK] (0, 0) _ rfl D9.br Tryd.underlying77 rfl (by kernel_rfl)) rfl ?_
  rw [HLL.out, HQ.out]
  exact D9.yes hd
 ·rename_i h1 h2 h3
  have D9 := HD.out.ans (.slice AN L.length cN) (.slice (some adK) (q + 1) cK)
  have hd : doI wordB valueB L (K1 ++ [K2]) line = none := HDO.out.trans (by rw [if_neg (fun e => h1 ((toList_lit _ _).mpr e)), if_neg (fun e => e.elim (fun e => h2 ((toList_lit _ _).mpr e)) (fun e => h3 ((toList_lit _ _).mpr e)))])
  refine bodyPost_ret (results_ct rfl _ _ gr 77 #[.slice AN L.length cN, .slice (some adK) (q + 1) cK] (0, 0) _ rfl D9.br Tryd.underlying77 rfl (by kernel_rfl)) rfl ?_
  rw [HLL.out, HQ.out]
  exact D9.no hd

set_option maxHeartbeats 4000000 in
set_option maxRecDepth 100000 in
theorem do_two (F : Plain) (w0 w : World) (vN vK : Value) (L : List S38) (Hs : List Hd) (Ks : List (List S38)) (line : ByteArray) (c : Cs w0 w vN L vK Hs Ks) (hk4 : Ks.length ≤ 4) (hs : line.size ≤ 3000) (p0 p1 : ByteArray) (hP : pieces line = [p0, p1]) :
  Calls Tryd.prog 40 #[.agg #[vN, vK], .string line] w (DoPost w0 w vK L Ks line) := by
 obtain ⟨AN, cN, eN⟩ := Kd.R_slice c.now
 subst eN
 obtain ⟨AK, cK, eK⟩ := Kd.R_slice c.row
 rw [c.len] at eK
 subst eK
 obtain ⟨ks, hsp⟩ := F.split line hs
 have CSP := Aside0.mk (fun W => spec_l4Split.calls ks line 32 (pieces line) W hsp)
 have HC := Aside0.mk c
 have hw0 := c.bel.size
 clear c hsp
 go_enter Tryd.func40, Tryd.ntmps40
 go_upto_region 2 with (first
  | ((with_reducible refine gate_dst (N := 2) rfl ?_); refine box_event ?hg (N := 2) ?hd (cs := #[.slice AN L.length cN, .slice AK Ks.length cK]) (t := 77) ?hr ?_; (case hd => rfl); (case hg => rfl); (case hr => first | (go_simp; done) | (go_simp; rfl)); intro gb hgb w1 hbx hb1; have HGB := Aside0.mk hgb; have HBX := Aside0.mk hbx; have HB1 := Aside0.mk hb1; clear hgb hbx hb1)
  | ((with_reducible refine gate_dst (N := 4) rfl ?_); refine box_event ?hg (N := 4) ?hd (cs := #[.slice none 0 0, .slice none 0 0]) (t := 77) ?hr ?_; (case hd => rfl); (case hg => rfl); (case hr => first | (go_simp; done) | (go_simp; rfl)); intro gr hgr w2 hbr hb2; have HGR := Aside0.mk hgr; have HBR := Aside0.mk hbr; have HB2 := Aside0.mk hb2; clear hgr hbr hb2)
  | (go_at_call 62; (with_reducible refine (CSP.out _).mono ?_); rintro e w3 ⟨v3, rfl, hps, hb3⟩))
 have hgb := HGB.out
 have hbx := HBX.out
 have hb1 := HB1.out
 have hgr := HGR.out
 have hbr := HBR.out
 have hb2 := HB2.out
 have hb12 := hb1.trans (hb2.mono hb1.size)
 have D : Ds w0 w w3 gb gr (.slice AN L.length cN) (.slice AK Ks.length cK) (.slice none 0 0) (.slice none 0 0) (.slice AN L.length cN) L (.slice AK Ks.length cK) Hs Ks v3 (pieces line) (.slice AK Ks.length cK) :=
  ⟨((HC.out.below hb1).below hb2).below hb3, blk_below (blk_below hbx hb2) hb3, blk_below hbr hb3, Kept.of_below (below_step hb12 hb3) _, Nat.le_of_eq hgb.symm, by rw [hgr]; exact hb1.size, Nat.ne_of_lt (by rw [hgr]; exact blk_lt hbx), Kd.R_lower hps hb12.size, hw0⟩
 clear hbx hbr hps hb1 hb2 hb3 hb12 hgb hgr HC CSP HGB HBX HB1 HGR HBR HB2
 obtain ⟨AS, cS, eS⟩ := Kd.R_slice D.ps
 subst eS
 obtain ⟨adS, eA, hx0⟩ : ∃ ad, AS = some ad ∧ w3.cell? (ad.add 0) = some (.string p0) := piece_at D.ps 0 (by rw [hP]; rfl)
 subst eA
 have hx1 : w3.cell? ⟨adS.block, adS.off + 1, none⟩ = some (.string p1) := by
   obtain ⟨a_, e_, h_⟩ := piece_at D.ps 1 (p := p1) (by rw [hP]; rfl)
   rw [Option.some.inj e_]; exact h_
 try rw [Addr.add_zero'] at hx0
 have hpz : p1.size ≤ 3000 := by have h_ := piece_size line 1; rw [hP] at h_; exact Nat.le_trans h_ hs
 have HP := Aside0.mk hP
 have HF := Aside0.mk F
 obtain ⟨kw, hkw⟩ := F.word p1 hpz
 have CW := Aside0.mk (fun W => spec_WordOk.calls kw p1 (wordB p1) W hkw)
 obtain ⟨ka, hka⟩ := F.place L p1 D.cs.fit.good
 have hFit := Aside0.mk D.cs.fit
 have hge := atS_ge L p1
 have hiff := Aside0.mk (atS_iff L p1)
 have hltA := Aside0.mk (atS_lt L p1)
 have hm : (pieces line).length = 2 := by rw [hP]; rfl
 rw [hm]
 rw [hm] at D
 have HM := Aside0.mk hm
 clear hm hkw hP F
 have qa : w3.cell? ⟨gb, 0, none⟩ = some (.slice AN L.length cN) := (blk_cell D.bx 0).trans rfl
 have qb : w3.cell? ⟨gb, 1, none⟩ = some (.slice AK Ks.length cK) := (blk_cell D.bx 1).trans rfl
 have qc : w3.cell? ⟨gr, 0, none⟩ = some (.slice none 0 0) := (blk_cell D.br 0).trans rfl
 have qd : w3.cell? ⟨gr, 1, none⟩ = some (.slice none 0 0) := (blk_cell D.br 1).trans rfl
 have fa := blk_frozen D.bx 0
 have fb := blk_frozen D.bx 1
 have fc := blk_frozen D.br 0
 have fd := blk_frozen D.br 1
 have hn1 := D.ne
 have hn2 := fun e : gr = gb => D.ne e.symm
 have HD := Aside0.mk D
 clear D
 have HDO := Aside0.mk (doI2 (L := L) (Ks := Ks) HP.out)
 cases hwb : wordB p1
 ·rw [hwb] at CW
  go_wp2_with (first | (go_at_call 42; (with_reducible refine (CW.out _).mono ?_); rintro e w4 ⟨rfl, hz4⟩; have hb4 := below_drawn hz4; clear hz4; have D_ := HD.out.below hb4; replace hx0 := (hb4.cell (World.block_lt_of_cell? w3 _ hx0)).trans hx0; replace hx1 := (hb4.cell (World.block_lt_of_cell? w3 _ hx1)).trans hx1; clear qa qb qc qd fa fb fc fd; have qa : w4.cell? ⟨gb, 0, none⟩ = some (.slice AN L.length cN) := (blk_cell D_.bx 0).trans rfl; have qb : w4.cell? ⟨gb, 1, none⟩ = some (.slice AK Ks.length cK) := (blk_cell D_.bx 1).trans rfl; have qc : w4.cell? ⟨gr, 0, none⟩ = some (.slice none 0 0) := (blk_cell D_.br 0).trans rfl; have qd : w4.cell? ⟨gr, 1, none⟩ = some (.slice none 0 0) := (blk_cell D_.br 1).trans rfl; have fa := blk_frozen D_.bx 0; have fb := blk_frozen D_.bx 1; have fc := blk_frozen D_.br 0; have fd := blk_frozen D_.br 1; have HD4 := Aside0.mk D_; clear D_; clear hb4))
  have D9 := HD4.out.ans (.slice AN L.length cN) (.slice AK Ks.length cK)
  have hd : doI wordB valueB L Ks line = none := HDO.out.trans (by by_cases c : p0 = tUnset; (rw [if_pos c, if_neg (fun h => by have := (hFit.out.word h).1; rw [hwb] at this; cases this)]); (rw [if_neg c]))
  refine bodyPost_ret (results_ct rfl _ _ gr 77 #[.slice AN L.length cN, .slice AK Ks.length cK] (0, 0) _ rfl D9.br Tryd.underlying77 rfl (by kernel_rfl)) rfl ?_
  exact D9.no hd
 ·rw [hwb] at CW
  obtain ⟨t, ht⟩ : ∃ t, atS L p1 = t := ⟨_, rfl⟩
  rw [ht] at hka hge hiff hltA
  have HT := Aside0.mk ht
  have HKA := Aside0.mk hka
  clear ht hka
  go_upto_region 17 with (first | (go_at_call 42; (with_reducible refine (CW.out _).mono ?_); rintro e w4 ⟨rfl, hz4⟩; have hb4 := below_drawn hz4; clear hz4; have D_ := HD.out.below hb4; replace hx0 := (hb4.cell (World.block_lt_of_cell? w3 _ hx0)).trans hx0; replace hx1 := (hb4.cell (World.block_lt_of_cell? w3 _ hx1)).trans hx1; clear qa qb qc qd fa fb fc fd; have qa : w4.cell? ⟨gb, 0, none⟩ = some (.slice AN L.length cN) := (blk_cell D_.bx 0).trans rfl; have qb : w4.cell? ⟨gb, 1, none⟩ = some (.slice AK Ks.length cK) := (blk_cell D_.bx 1).trans rfl; have qc : w4.cell? ⟨gr, 0, none⟩ = some (.slice none 0 0) := (blk_cell D_.br 0).trans rfl; have qd : w4.cell? ⟨gr, 1, none⟩ = some (.slice none 0 0) := (blk_cell D_.br 1).trans rfl; have fa := blk_frozen D_.bx 0; have fb := blk_frozen D_.bx 1; have fc := blk_frozen D_.br 0; have fd := blk_frozen D_.br 1; have HD4 := Aside0.mk D_; clear D_; clear hb4))
  go_still_tail 5, (by kernel_rfl)
  show wpList _ _ _ _ _ (World.drew _)
  have D_ := HD4.out.drew
  replace hx0 : w4.drew.cell? _ = _ := hx0
  replace hx1 : w4.drew.cell? _ = _ := hx1
  clear qa qb qc qd fa fb fc fd
  have qa : w4.drew.cell? ⟨gb, 0, none⟩ = some (.slice AN L.length cN) := (blk_cell D_.bx 0).trans rfl
  have qb : w4.drew.cell? ⟨gb, 1, none⟩ = some (.slice AK Ks.length cK) := (blk_cell D_.bx 1).trans rfl
  have qc : w4.drew.cell? ⟨gr, 0, none⟩ = some (.slice none 0 0) := (blk_cell D_.br 0).trans rfl
  have qd : w4.drew.cell? ⟨gr, 1, none⟩ = some (.slice none 0 0) := (blk_cell D_.br 1).trans rfl
  have fa := blk_frozen D_.bx 0
  have fb := blk_frozen D_.bx 1
  have fc := blk_frozen D_.br 0
  have fd := blk_frozen D_.br 1
  generalize w4.drew = w5 at D_ hx0 hx1 qa qb qc qd fa fb fc fd ⊢
  have HD5 := Aside0.mk D_
  clear D_
  by_cases ht0 : 0 ≤ t
  ·have htn : (t < 0) = False := eq_false (by omega)
   have HUN := Aside0.mk (HF.out.unset L p1 hFit.out.good (by rw [HT.out]; exact ht0))
   rw [HT.out] at HUN
   go_wp2_with (first | (go_at_call 63; (with_reducible refine (spec_l19At.calls ka AN cN L p1 t _ (Kd.R_reads' HD5.out.cs.now).2.2 (Kd.R_reads' HD5.out.cs.now).2.1 HKA.out).mono ?_); rintro e w6 ⟨rfl, hz6⟩; have hb6 := below_drawn hz6; clear hz6; have D_ := HD5.out.below hb6; replace hx0 := (hb6.cell (World.block_lt_of_cell? w5 _ hx0)).trans hx0; replace hx1 := (hb6.cell (World.block_lt_of_cell? w5 _ hx1)).trans hx1; clear qa qb qc qd fa fb fc fd; have qa : w6.cell? ⟨gb, 0, none⟩ = some (.slice AN L.length cN) := (blk_cell D_.bx 0).trans rfl; have qb : w6.cell? ⟨gb, 1, none⟩ = some (.slice AK Ks.length cK) := (blk_cell D_.bx 1).trans rfl; have qc : w6.cell? ⟨gr, 0, none⟩ = some (.slice none 0 0) := (blk_cell D_.br 0).trans rfl; have qd : w6.cell? ⟨gr, 1, none⟩ = some (.slice none 0 0) := (blk_cell D_.br 1).trans rfl; have fa := blk_frozen D_.bx 0; have fb := blk_frozen D_.bx 1; have fc := blk_frozen D_.br 0; have fd := blk_frozen D_.br 1; have HD6 := Aside0.mk D_; clear D_; clear hb6) | (go_at_call 64; (with_reducible refine (spec_l19Unset.calls AN cN L t (delS L p1) _ (Kd.R_reads' HD6.out.cs.now).2.2 (Kd.R_reads' HD6.out.cs.now).2.1 HUN.out).mono ?_); rintro e w8 ⟨v8, rfl, hr8, hb8⟩; obtain ⟨A8, c8, e8⟩ := Kd.R_slice hr8; obtain ⟨nd, hnd⟩ : ∃ nd, (delS L p1).length = nd := ⟨_, rfl⟩; rw [hnd] at e8; clear hnd; subst e8; have D_ := HD6.out.below hb8; have D8 := D_.with_ (D_.cs.turn (Kd.R_lower hr8 HD6.out.cs.bel.size) (hFit.out.del p1)); clear D_ qa qb qc qd fa fb fc fd hr8 hb8; have qa : w8.cell? ⟨gb, 0, none⟩ = some (.slice AN L.length cN) := (blk_cell D8.bx 0).trans rfl; have qb : w8.cell? ⟨gb, 1, none⟩ = some (.slice AK Ks.length cK) := (blk_cell D8.bx 1).trans rfl; have qc : w8.cell? ⟨gr, 0, none⟩ = some (.slice none 0 0) := (blk_cell D8.br 0).trans rfl; have qd : w8.cell? ⟨gr, 1, none⟩ = some (.slice none 0 0) := (blk_cell D8.br 1).trans rfl; have fa := blk_frozen D8.bx 0; have fb := blk_frozen D8.bx 1; have fc := blk_frozen D8.br 0; have fd := blk_frozen D8.br 1; have HD8 := Aside0.mk D8; clear D8))
   ·rename_i h1
    have D9 := ((HD8.out.put0 (.slice A8 nd c8)).ans (.slice A8 nd c8) (.slice AK Ks.length cK))
    have hd : doI wordB valueB L Ks line = some (delS L p1, Ks) := HDO.out.trans (by rw [if_pos ((toList_lit _ _).mp h1), if_pos (hiff.out.mp ht0)])
    refine bodyPost_ret (results_ct rfl _ _ gr 77 #[.slice A8 nd c8, .slice AK Ks.length cK] (0, 0) _ rfl D9.br Tryd.underlying77 rfl (by kernel_rfl)) rfl ?_
    exact D9.yes hd
   ·rename_i h1
    have D9 := HD6.out.ans (.slice AN L.length cN) (.slice AK Ks.length cK)
    have hd : doI wordB valueB L Ks line = none := HDO.out.trans (by rw [if_neg (fun e => h1 ((toList_lit _ _).mpr e))])
    refine bodyPost_ret (results_ct rfl _ _ gr 77 #[.slice AN L.length cN, .slice AK Ks.length cK] (0, 0) _ rfl D9.br Tryd.underlying77 rfl (by kernel_rfl)) rfl ?_
    exact D9.no hd
  ·have htn : (t < 0) = True := eq_true (by omega)
   go_wp2_with (first | (go_at_call 63; (with_reducible refine (spec_l19At.calls ka AN cN L p1 t _ (Kd.R_reads' HD5.out.cs.now).2.2 (Kd.R_reads' HD5.out.cs.now).2.1 HKA.out).mono ?_); rintro e w6 ⟨rfl, hz6⟩; have hb6 := below_drawn hz6; clear hz6; have D_ := HD5.out.below hb6; replace hx0 := (hb6.cell (World.block_lt_of_cell? w5 _ hx0)).trans hx0; replace hx1 := (hb6.cell (World.block_lt_of_cell? w5 _ hx1)).trans hx1; clear qa qb qc qd fa fb fc fd; have qa : w6.cell? ⟨gb, 0, none⟩ = some (.slice AN L.length cN) := (blk_cell D_.bx 0).trans rfl; have qb : w6.cell? ⟨gb, 1, none⟩ = some (.slice AK Ks.length cK) := (blk_cell D_.bx 1).trans rfl; have qc : w6.cell? ⟨gr, 0, none⟩ = some (.slice none 0 0) := (blk_cell D_.br 0).trans rfl; have qd : w6.cell? ⟨gr, 1, none⟩ = some (.slice none 0 0) := (blk_cell D_.br 1).trans rfl; have fa := blk_frozen D_.bx 0; have fb := blk_frozen D_.bx 1; have fc := blk_frozen D_.br 0; have fd := blk_frozen D_.br 1; have HD6 := Aside0.mk D_; clear D_; clear hb6))
   ·rename_i h1
    have D9 := HD6.out.ans (.slice AN L.length cN) (.slice AK Ks.length cK)
    have hd : doI wordB valueB L Ks line = none := HDO.out.trans (by rw [if_pos ((toList_lit _ _).mp h1), if_neg (fun h => absurd (hiff.out.mpr h) (by omega))])
    refine bodyPost_ret (results_ct rfl _ _ gr 77 #[.slice AN L.length cN, .slice AK Ks.length cK] (0, 0) _ rfl D9.br Tryd.underlying77 rfl (by kernel_rfl)) rfl ?_
    exact D9.no hd
   ·rename_i h1
    have D9 := HD6.out.ans (.slice AN L.length cN) (.slice AK Ks.length cK)
    have hd : doI wordB valueB L Ks line = none := HDO.out.trans (by rw [if_neg (fun e => h1 ((toList_lit _ _).mpr e))])
    refine bodyPost_ret (results_ct rfl _ _ gr 77 #[.slice AN L.length cN, .slice AK Ks.length cK] (0, 0) _ rfl D9.br Tryd.underlying77 rfl (by kernel_rfl)) rfl ?_
    exact D9.no hd

set_option maxHeartbeats 4000000 in
set_option maxRecDepth 100000 in
theorem do_four (F : Plain) (w0 w : World) (vN vK : Value) (L : List S38) (Hs : List Hd) (Ks : List (List S38)) (line : ByteArray) (c : Cs w0 w vN L vK Hs Ks) (hk4 : Ks.length ≤ 4) (hs : line.size ≤ 3000) (p0 p1 p2 p3 : ByteArray) (pr : List ByteArray) (hP : pieces line = p0 :: p1 :: p2 :: p3 :: pr) :
  Calls Tryd.prog 40 #[.agg #[vN, vK], .string line] w (DoPost w0 w vK L Ks line) := by
 obtain ⟨AN, cN, eN⟩ := Kd.R_slice c.now
 subst eN
 obtain ⟨AK, cK, eK⟩ := Kd.R_slice c.row
 rw [c.len] at eK
 subst eK
 obtain ⟨ks, hsp⟩ := F.split line hs
 have CSP := Aside0.mk (fun W => spec_l4Split.calls ks line 32 (pieces line) W hsp)
 have HC := Aside0.mk c
 have hw0 := c.bel.size
 clear c hsp
 go_enter Tryd.func40, Tryd.ntmps40
 go_upto_region 2 with (first
  | ((with_reducible refine gate_dst (N := 2) rfl ?_); refine box_event ?hg (N := 2) ?hd (cs := #[.slice AN L.length cN, .slice AK Ks.length cK]) (t := 77) ?hr ?_; (case hd => rfl); (case hg => rfl); (case hr => first | (go_simp; done) | (go_simp; rfl)); intro gb hgb w1 hbx hb1; have HGB := Aside0.mk hgb; have HBX := Aside0.mk hbx; have HB1 := Aside0.mk hb1; clear hgb hbx hb1)
  | ((with_reducible refine gate_dst (N := 4) rfl ?_); refine box_event ?hg (N := 4) ?hd (cs := #[.slice none 0 0, .slice none 0 0]) (t := 77) ?hr ?_; (case hd => rfl); (case hg => rfl); (case hr => first | (go_simp; done) | (go_simp; rfl)); intro gr hgr w2 hbr hb2; have HGR := Aside0.mk hgr; have HBR := Aside0.mk hbr; have HB2 := Aside0.mk hb2; clear hgr hbr hb2)
  | (go_at_call 62; (with_reducible refine (CSP.out _).mono ?_); rintro e w3 ⟨v3, rfl, hps, hb3⟩))
 have hgb := HGB.out
 have hbx := HBX.out
 have hb1 := HB1.out
 have hgr := HGR.out
 have hbr := HBR.out
 have hb2 := HB2.out
 have hb12 := hb1.trans (hb2.mono hb1.size)
 have D : Ds w0 w w3 gb gr (.slice AN L.length cN) (.slice AK Ks.length cK) (.slice none 0 0) (.slice none 0 0) (.slice AN L.length cN) L (.slice AK Ks.length cK) Hs Ks v3 (pieces line) (.slice AK Ks.length cK) :=
  ⟨((HC.out.below hb1).below hb2).below hb3, blk_below (blk_below hbx hb2) hb3, blk_below hbr hb3, Kept.of_below (below_step hb12 hb3) _, Nat.le_of_eq hgb.symm, by rw [hgr]; exact hb1.size, Nat.ne_of_lt (by rw [hgr]; exact blk_lt hbx), Kd.R_lower hps hb12.size, hw0⟩
 clear hbx hbr hps hb1 hb2 hb3 hb12 hgb hgr HC CSP HGB HBX HB1 HGR HBR HB2
 obtain ⟨AS, cS, eS⟩ := Kd.R_slice D.ps
 subst eS
 obtain ⟨adS, eA, hx0⟩ : ∃ ad, AS = some ad ∧ w3.cell? (ad.add 0) = some (.string p0) := piece_at D.ps 0 (by rw [hP]; rfl)
 subst eA
 have hx1 : w3.cell? ⟨adS.block, adS.off + 1, none⟩ = some (.string p1) := by
   obtain ⟨a_, e_, h_⟩ := piece_at D.ps 1 (p := p1) (by rw [hP]; rfl)
   rw [Option.some.inj e_]; exact h_
 try rw [Addr.add_zero'] at hx0
 have hpz : p1.size ≤ 3000 := by have h_ := piece_size line 1; rw [hP] at h_; exact Nat.le_trans h_ hs
 have HP := Aside0.mk hP
 have HF := Aside0.mk F
 obtain ⟨kw, hkw⟩ := F.word p1 hpz
 have CW := Aside0.mk (fun W => spec_WordOk.calls kw p1 (wordB p1) W hkw)
 obtain ⟨ka, hka⟩ := F.place L p1 D.cs.fit.good
 have hFit := Aside0.mk D.cs.fit
 have hge := atS_ge L p1
 have hiff := Aside0.mk (atS_iff L p1)
 have hltA := Aside0.mk (atS_lt L p1)
 obtain ⟨m, hm⟩ : ∃ m, (pieces line).length = m := ⟨_, rfl⟩
 have hm4 : 4 ≤ m := by rw [← hm, hP]; simp
 rw [hm]
 rw [hm] at D
 have HM := Aside0.mk hm
 clear hm hkw hP F
 have qa : w3.cell? ⟨gb, 0, none⟩ = some (.slice AN L.length cN) := (blk_cell D.bx 0).trans rfl
 have qb : w3.cell? ⟨gb, 1, none⟩ = some (.slice AK Ks.length cK) := (blk_cell D.bx 1).trans rfl
 have qc : w3.cell? ⟨gr, 0, none⟩ = some (.slice none 0 0) := (blk_cell D.br 0).trans rfl
 have qd : w3.cell? ⟨gr, 1, none⟩ = some (.slice none 0 0) := (blk_cell D.br 1).trans rfl
 have fa := blk_frozen D.bx 0
 have fb := blk_frozen D.bx 1
 have fc := blk_frozen D.br 0
 have fd := blk_frozen D.br 1
 have hn1 := D.ne
 have hn2 := fun e : gr = gb => D.ne e.symm
 have HD := Aside0.mk D
 clear D
 have HDO : Aside0 (doI wordB valueB L Ks line = none) := ⟨doI4 (by rw [HM.out]; exact hm4)⟩
 have hm1 : ((m : Int) = 1) = False := eq_false (by omega)
 have hm2 : ((m : Int) = 2) = False := eq_false (by omega)
 have hm3 : ((m : Int) = 3) = False := eq_false (by omega)
 have hi1 : ((1 : Int) < (m : Int)) = True := eq_true (by omega)
 have hi2 : (1 < m) = True := eq_true (by omega)
 cases hwb : wordB p1
 ·rw [hwb] at CW
  go_wp2_with (first | (go_at_call 42; (with_reducible refine (CW.out _).mono ?_); rintro e w4 ⟨rfl, hz4⟩; have hb4 := below_drawn hz4; clear hz4; have D_ := HD.out.below hb4; replace hx0 := (hb4.cell (World.block_lt_of_cell? w3 _ hx0)).trans hx0; replace hx1 := (hb4.cell (World.block_lt_of_cell? w3 _ hx1)).trans hx1; clear qa qb qc qd fa fb fc fd; have qa : w4.cell? ⟨gb, 0, none⟩ = some (.slice AN L.length cN) := (blk_cell D_.bx 0).trans rfl; have qb : w4.cell? ⟨gb, 1, none⟩ = some (.slice AK Ks.length cK) := (blk_cell D_.bx 1).trans rfl; have qc : w4.cell? ⟨gr, 0, none⟩ = some (.slice none 0 0) := (blk_cell D_.br 0).trans rfl; have qd : w4.cell? ⟨gr, 1, none⟩ = some (.slice none 0 0) := (blk_cell D_.br 1).trans rfl; have fa := blk_frozen D_.bx 0; have fb := blk_frozen D_.bx 1; have fc := blk_frozen D_.br 0; have fd := blk_frozen D_.br 1; have HD4 := Aside0.mk D_; clear D_; clear hb4))
  have D9 := HD4.out.ans (.slice AN L.length cN) (.slice AK Ks.length cK)
  have hd : doI wordB valueB L Ks line = none := HDO.out
  refine bodyPost_ret (results_ct rfl _ _ gr 77 #[.slice AN L.length cN, .slice AK Ks.length cK] (0, 0) _ rfl D9.br Tryd.underlying77 rfl (by kernel_rfl)) rfl ?_
  exact D9.no hd
 ·rw [hwb] at CW
  obtain ⟨t, ht⟩ : ∃ t, atS L p1 = t := ⟨_, rfl⟩
  rw [ht] at hka hge hiff hltA
  have HT := Aside0.mk ht
  have HKA := Aside0.mk hka
  clear ht hka
  go_upto_region 17 with (first | (go_at_call 42; (with_reducible refine (CW.out _).mono ?_); rintro e w4 ⟨rfl, hz4⟩; have hb4 := below_drawn hz4; clear hz4; have D_ := HD.out.below hb4; replace hx0 := (hb4.cell (World.block_lt_of_cell? w3 _ hx0)).trans hx0; replace hx1 := (hb4.cell (World.block_lt_of_cell? w3 _ hx1)).trans hx1; clear qa qb qc qd fa fb fc fd; have qa : w4.cell? ⟨gb, 0, none⟩ = some (.slice AN L.length cN) := (blk_cell D_.bx 0).trans rfl; have qb : w4.cell? ⟨gb, 1, none⟩ = some (.slice AK Ks.length cK) := (blk_cell D_.bx 1).trans rfl; have qc : w4.cell? ⟨gr, 0, none⟩ = some (.slice none 0 0) := (blk_cell D_.br 0).trans rfl; have qd : w4.cell? ⟨gr, 1, none⟩ = some (.slice none 0 0) := (blk_cell D_.br 1).trans rfl; have fa := blk_frozen D_.bx 0; have fb := blk_frozen D_.bx 1; have fc := blk_frozen D_.br 0; have fd := blk_frozen D_.br 1; have HD4 := Aside0.mk D_; clear D_; clear hb4))
  go_still_tail 5, (by kernel_rfl)
  show wpList _ _ _ _ _ (World.drew _)
  have D_ := HD4.out.drew
  replace hx0 : w4.drew.cell? _ = _ := hx0
  replace hx1 : w4.drew.cell? _ = _ := hx1
  clear qa qb qc qd fa fb fc fd
  have qa : w4.drew.cell? ⟨gb, 0, none⟩ = some (.slice AN L.length cN) := (blk_cell D_.bx 0).trans rfl
  have qb : w4.drew.cell? ⟨gb, 1, none⟩ = some (.slice AK Ks.length cK) := (blk_cell D_.bx 1).trans rfl
  have qc : w4.drew.cell? ⟨gr, 0, none⟩ = some (.slice none 0 0) := (blk_cell D_.br 0).trans rfl
  have qd : w4.drew.cell? ⟨gr, 1, none⟩ = some (.slice none 0 0) := (blk_cell D_.br 1).trans rfl
  have fa := blk_frozen D_.bx 0
  have fb := blk_frozen D_.bx 1
  have fc := blk_frozen D_.br 0
  have fd := blk_frozen D_.br 1
  generalize w4.drew = w5 at D_ hx0 hx1 qa qb qc qd fa fb fc fd ⊢
  have HD5 := Aside0.mk D_
  clear D_
  go_wp2_with (first | (go_at_call 63; (with_reducible refine (spec_l19At.calls ka AN cN L p1 t _ (Kd.R_reads' HD5.out.cs.now).2.2 (Kd.R_reads' HD5.out.cs.now).2.1 HKA.out).mono ?_); rintro e w6 ⟨rfl, hz6⟩; have hb6 := below_drawn hz6; clear hz6; have D_ := HD5.out.below hb6; replace hx0 := (hb6.cell (World.block_lt_of_cell? w5 _ hx0)).trans hx0; replace hx1 := (hb6.cell (World.block_lt_of_cell? w5 _ hx1)).trans hx1; clear qa qb qc qd fa fb fc fd; have qa : w6.cell? ⟨gb, 0, none⟩ = some (.slice AN L.length cN) := (blk_cell D_.bx 0).trans rfl; have qb : w6.cell? ⟨gb, 1, none⟩ = some (.slice AK Ks.length cK) := (blk_cell D_.bx 1).trans rfl; have qc : w6.cell? ⟨gr, 0, none⟩ = some (.slice none 0 0) := (blk_cell D_.br 0).trans rfl; have qd : w6.cell? ⟨gr, 1, none⟩ = some (.slice none 0 0) := (blk_cell D_.br 1).trans rfl; have fa := blk_frozen D_.bx 0; have fb := blk_frozen D_.bx 1; have fc := blk_frozen D_.br 0; have fd := blk_frozen D_.br 1; have HD6 := Aside0.mk D_; clear D_; clear hb6))
  have D9 := HD6.out.ans (.slice AN L.length cN) (.slice AK Ks.length cK)
  have hd : doI wordB valueB L Ks line = none := HDO.out
  refine bodyPost_ret (results_ct rfl _ _ gr 77 #[.slice AN L.length cN, .slice AK Ks.length cK] (0, 0) _ rfl D9.br Tryd.underlying77 rfl (by kernel_rfl)) rfl ?_
  exact D9.no hd

set_option maxHeartbeats 4000000 in
set_option maxRecDepth 100000 in
theorem do_three (F : Plain) (w0 w : World) (vN vK : Value) (L : List S38) (Hs : List Hd) (Ks : List (List S38)) (line : ByteArray) (c : Cs w0 w vN L vK Hs Ks) (hk4 : Ks.length ≤ 4) (hs : line.size ≤ 3000) (p0 p1 p2 : ByteArray) (hP : pieces line = [p0, p1, p2]) :
  Calls Tryd.prog 40 #[.agg #[vN, vK], .string line] w (DoPost w0 w vK L Ks line) := by
 obtain ⟨AN, cN, eN⟩ := Kd.R_slice c.now
 subst eN
 obtain ⟨AK, cK, eK⟩ := Kd.R_slice c.row
 rw [c.len] at eK
 subst eK
 obtain ⟨ks, hsp⟩ := F.split line hs
 have CSP := Aside0.mk (fun W => spec_l4Split.calls ks line 32 (pieces line) W hsp)
 have HC := Aside0.mk c
 have hw0 := c.bel.size
 clear c hsp
 go_enter Tryd.func40, Tryd.ntmps40
 go_upto_region 2 with (first
  | ((with_reducible refine gate_dst (N := 2) rfl ?_); refine box_event ?hg (N := 2) ?hd (cs := #[.slice AN L.length cN, .slice AK Ks.length cK]) (t := 77) ?hr ?_; (case hd => rfl); (case hg => rfl); (case hr => first | (go_simp; done) | (go_simp; rfl)); intro gb hgb w1 hbx hb1; have HGB := Aside0.mk hgb; have HBX := Aside0.mk hbx; have HB1 := Aside0.mk hb1; clear hgb hbx hb1)
  | ((with_reducible refine gate_dst (N := 4) rfl ?_); refine box_event ?hg (N := 4) ?hd (cs := #[.slice none 0 0, .slice none 0 0]) (t := 77) ?hr ?_; (case hd => rfl); (case hg => rfl); (case hr => first | (go_simp; done) | (go_simp; rfl)); intro gr hgr w2 hbr hb2; have HGR := Aside0.mk hgr; have HBR := Aside0.mk hbr; have HB2 := Aside0.mk hb2; clear hgr hbr hb2)
  | (go_at_call 62; (with_reducible refine (CSP.out _).mono ?_); rintro e w3 ⟨v3, rfl, hps, hb3⟩))
 have hgb := HGB.out
 have hbx := HBX.out
 have hb1 := HB1.out
 have hgr := HGR.out
 have hbr := HBR.out
 have hb2 := HB2.out
 have hb12 := hb1.trans (hb2.mono hb1.size)
 have D : Ds w0 w w3 gb gr (.slice AN L.length cN) (.slice AK Ks.length cK) (.slice none 0 0) (.slice none 0 0) (.slice AN L.length cN) L (.slice AK Ks.length cK) Hs Ks v3 (pieces line) (.slice AK Ks.length cK) :=
  ⟨((HC.out.below hb1).below hb2).below hb3, blk_below (blk_below hbx hb2) hb3, blk_below hbr hb3, Kept.of_below (below_step hb12 hb3) _, Nat.le_of_eq hgb.symm, by rw [hgr]; exact hb1.size, Nat.ne_of_lt (by rw [hgr]; exact blk_lt hbx), Kd.R_lower hps hb12.size, hw0⟩
 clear hbx hbr hps hb1 hb2 hb3 hb12 hgb hgr HC CSP HGB HBX HB1 HGR HBR HB2
 obtain ⟨AS, cS, eS⟩ := Kd.R_slice D.ps
 subst eS
 obtain ⟨adS, eA, hx0⟩ : ∃ ad, AS = some ad ∧ w3.cell? (ad.add 0) = some (.string p0) := piece_at D.ps 0 (by rw [hP]; rfl)
 subst eA
 have hx1 : w3.cell? ⟨adS.block, adS.off + 1, none⟩ = some (.string p1) := by
   obtain ⟨a_, e_, h_⟩ := piece_at D.ps 1 (p := p1) (by rw [hP]; rfl)
   rw [Option.some.inj e_]; exact h_
 have hx2 : w3.cell? ⟨adS.block, adS.off + 2, none⟩ = some (.string p2) := by
   obtain ⟨a_, e_, h_⟩ := piece_at D.ps 2 (p := p2) (by rw [hP]; rfl)
   rw [Option.some.inj e_]; exact h_
 try rw [Addr.add_zero'] at hx0
 have hpz : p1.size ≤ 3000 := by have h_ := piece_size line 1; rw [hP] at h_; exact Nat.le_trans h_ hs
 have HP := Aside0.mk hP
 have HF := Aside0.mk F
 obtain ⟨kw, hkw⟩ := F.word p1 hpz
 have CW := Aside0.mk (fun W => spec_WordOk.calls kw p1 (wordB p1) W hkw)
 obtain ⟨ka, hka⟩ := F.place L p1 D.cs.fit.good
 have hFit := Aside0.mk D.cs.fit
 have hge := atS_ge L p1
 have hiff := Aside0.mk (atS_iff L p1)
 have hltA := Aside0.mk (atS_lt L p1)
 have hm : (pieces line).length = 3 := by rw [hP]; rfl
 rw [hm]
 rw [hm] at D
 have HM := Aside0.mk hm
 clear hm hkw hP F
 have qa : w3.cell? ⟨gb, 0, none⟩ = some (.slice AN L.length cN) := (blk_cell D.bx 0).trans rfl
 have qb : w3.cell? ⟨gb, 1, none⟩ = some (.slice AK Ks.length cK) := (blk_cell D.bx 1).trans rfl
 have qc : w3.cell? ⟨gr, 0, none⟩ = some (.slice none 0 0) := (blk_cell D.br 0).trans rfl
 have qd : w3.cell? ⟨gr, 1, none⟩ = some (.slice none 0 0) := (blk_cell D.br 1).trans rfl
 have fa := blk_frozen D.bx 0
 have fb := blk_frozen D.bx 1
 have fc := blk_frozen D.br 0
 have fd := blk_frozen D.br 1
 have hn1 := D.ne
 have hn2 := fun e : gr = gb => D.ne e.symm
 have HD := Aside0.mk D
 clear D
 have HDO := Aside0.mk (doI3 (L := L) (Ks := Ks) HP.out)
 have hpy : p2.size ≤ 3000 := by have h_ := piece_size line 2; rw [HP.out] at h_; exact Nat.le_trans h_ hs
 obtain ⟨kv, hkv⟩ := HF.out.value p2 hpy
 have CVL := Aside0.mk (fun W => spec_l19Value.calls kv p2 (valueB p2) W hkv)
 clear hkv
 cases hwb : wordB p1
 ·rw [hwb] at CW
  go_wp2_with (first | (go_at_call 42; (with_reducible refine (CW.out _).mono ?_); rintro e w4 ⟨rfl, hz4⟩; have hb4 := below_drawn hz4; clear hz4; have D_ := HD.out.below hb4; replace hx0 := (hb4.cell (World.block_lt_of_cell? w3 _ hx0)).trans hx0; replace hx1 := (hb4.cell (World.block_lt_of_cell? w3 _ hx1)).trans hx1; replace hx2 := (hb4.cell (World.block_lt_of_cell? w3 _ hx2)).trans hx2; clear qa qb qc qd fa fb fc fd; have qa : w4.cell? ⟨gb, 0, none⟩ = some (.slice AN L.length cN) := (blk_cell D_.bx 0).trans rfl; have qb : w4.cell? ⟨gb, 1, none⟩ = some (.slice AK Ks.length cK) := (blk_cell D_.bx 1).trans rfl; have qc : w4.cell? ⟨gr, 0, none⟩ = some (.slice none 0 0) := (blk_cell D_.br 0).trans rfl; have qd : w4.cell? ⟨gr, 1, none⟩ = some (.slice none 0 0) := (blk_cell D_.br 1).trans rfl; have fa := blk_frozen D_.bx 0; have fb := blk_frozen D_.bx 1; have fc := blk_frozen D_.br 0; have fd := blk_frozen D_.br 1; have HD4 := Aside0.mk D_; clear D_; clear hb4))
  have D9 := HD4.out.ans (.slice AN L.length cN) (.slice AK Ks.length cK)
  have hd : doI wordB valueB L Ks line = none := HDO.out.trans (by by_cases c : p0 = tSet; (rw [if_pos c, if_neg (fun h => by rw [hwb] at h; exact absurd h.1 (by decide))]); (rw [if_neg c]; by_cases c2 : p0 = tNeed; (rw [if_pos c2, if_neg (fun h => by have := (hFit.out.word h.1).1; rw [hwb] at this; cases this)]); (rw [if_neg c2])))
  refine bodyPost_ret (results_ct rfl _ _ gr 77 #[.slice AN L.length cN, .slice AK Ks.length cK] (0, 0) _ rfl D9.br Tryd.underlying77 rfl (by kernel_rfl)) rfl ?_
  exact D9.no hd
 ·rw [hwb] at CW
  obtain ⟨t, ht⟩ : ∃ t, atS L p1 = t := ⟨_, rfl⟩
  rw [ht] at hka hge hiff hltA
  have HT := Aside0.mk ht
  have HKA := Aside0.mk hka
  clear ht hka
  go_upto_region 17 with (first | (go_at_call 42; (with_reducible refine (CW.out _).mono ?_); rintro e w4 ⟨rfl, hz4⟩; have hb4 := below_drawn hz4; clear hz4; have D_ := HD.out.below hb4; replace hx0 := (hb4.cell (World.block_lt_of_cell? w3 _ hx0)).trans hx0; replace hx1 := (hb4.cell (World.block_lt_of_cell? w3 _ hx1)).trans hx1; replace hx2 := (hb4.cell (World.block_lt_of_cell? w3 _ hx2)).trans hx2; clear qa qb qc qd fa fb fc fd; have qa : w4.cell? ⟨gb, 0, none⟩ = some (.slice AN L.length cN) := (blk_cell D_.bx 0).trans rfl; have qb : w4.cell? ⟨gb, 1, none⟩ = some (.slice AK Ks.length cK) := (blk_cell D_.bx 1).trans rfl; have qc : w4.cell? ⟨gr, 0, none⟩ = some (.slice none 0 0) := (blk_cell D_.br 0).trans rfl; have qd : w4.cell? ⟨gr, 1, none⟩ = some (.slice none 0 0) := (blk_cell D_.br 1).trans rfl; have fa := blk_frozen D_.bx 0; have fb := blk_frozen D_.bx 1; have fc := blk_frozen D_.br 0; have fd := blk_frozen D_.br 1; have HD4 := Aside0.mk D_; clear D_; clear hb4))
  go_still_tail 5, (by kernel_rfl)
  show wpList _ _ _ _ _ (World.drew _)
  have D_ := HD4.out.drew
  replace hx0 : w4.drew.cell? _ = _ := hx0
  replace hx1 : w4.drew.cell? _ = _ := hx1
  replace hx2 : w4.drew.cell? _ = _ := hx2
  clear qa qb qc qd fa fb fc fd
  have qa : w4.drew.cell? ⟨gb, 0, none⟩ = some (.slice AN L.length cN) := (blk_cell D_.bx 0).trans rfl
  have qb : w4.drew.cell? ⟨gb, 1, none⟩ = some (.slice AK Ks.length cK) := (blk_cell D_.bx 1).trans rfl
  have qc : w4.drew.cell? ⟨gr, 0, none⟩ = some (.slice none 0 0) := (blk_cell D_.br 0).trans rfl
  have qd : w4.drew.cell? ⟨gr, 1, none⟩ = some (.slice none 0 0) := (blk_cell D_.br 1).trans rfl
  have fa := blk_frozen D_.bx 0
  have fb := blk_frozen D_.bx 1
  have fc := blk_frozen D_.br 0
  have fd := blk_frozen D_.br 1
  generalize w4.drew = w5 at D_ hx0 hx1 hx2 qa qb qc qd fa fb fc fd ⊢
  have HD5 := Aside0.mk D_
  clear D_
  cases hvb : valueB p2
  ·rw [hvb] at CVL
   go_wp2_with (first | (go_at_call 63; (with_reducible refine (spec_l19At.calls ka AN cN L p1 t _ (Kd.R_reads' HD5.out.cs.now).2.2 (Kd.R_reads' HD5.out.cs.now).2.1 HKA.out).mono ?_); rintro e w6 ⟨rfl, hz6⟩; have hb6 := below_drawn hz6; clear hz6; have D_ := HD5.out.below hb6; replace hx0 := (hb6.cell (World.block_lt_of_cell? w5 _ hx0)).trans hx0; replace hx1 := (hb6.cell (World.block_lt_of_cell? w5 _ hx1)).trans hx1; replace hx2 := (hb6.cell (World.block_lt_of_cell? w5 _ hx2)).trans hx2; clear qa qb qc qd fa fb fc fd; have qa : w6.cell? ⟨gb, 0, none⟩ = some (.slice AN L.length cN) := (blk_cell D_.bx 0).trans rfl; have qb : w6.cell? ⟨gb, 1, none⟩ = some (.slice AK Ks.length cK) := (blk_cell D_.bx 1).trans rfl; have qc : w6.cell? ⟨gr, 0, none⟩ = some (.slice none 0 0) := (blk_cell D_.br 0).trans rfl; have qd : w6.cell? ⟨gr, 1, none⟩ = some (.slice none 0 0) := (blk_cell D_.br 1).trans rfl; have fa := blk_frozen D_.bx 0; have fb := blk_frozen D_.bx 1; have fc := blk_frozen D_.br 0; have fd := blk_frozen D_.br 1; have HD6 := Aside0.mk D_; clear D_; clear hb6) | (go_at_call 43; (with_reducible refine (CVL.out _).mono ?_); rintro e w7 ⟨rfl, hz7⟩; have hb7 := below_drawn hz7; clear hz7; have D_ := HD6.out.below hb7; replace hx0 := (hb7.cell (World.block_lt_of_cell? w6 _ hx0)).trans hx0; replace hx1 := (hb7.cell (World.block_lt_of_cell? w6 _ hx1)).trans hx1; replace hx2 := (hb7.cell (World.block_lt_of_cell? w6 _ hx2)).trans hx2; clear qa qb qc qd fa fb fc fd; have qa : w7.cell? ⟨gb, 0, none⟩ = some (.slice AN L.length cN) := (blk_cell D_.bx 0).trans rfl; have qb : w7.cell? ⟨gb, 1, none⟩ = some (.slice AK Ks.length cK) := (blk_cell D_.bx 1).trans rfl; have qc : w7.cell? ⟨gr, 0, none⟩ = some (.slice none 0 0) := (blk_cell D_.br 0).trans rfl; have qd : w7.cell? ⟨gr, 1, none⟩ = some (.slice none 0 0) := (blk_cell D_.br 1).trans rfl; have fa := blk_frozen D_.bx 0; have fb := blk_frozen D_.bx 1; have fc := blk_frozen D_.br 0; have fd := blk_frozen D_.br 1; have HD7 := Aside0.mk D_; clear D_; clear hb7))
   have D9 := HD7.out.ans (.slice AN L.length cN) (.slice AK Ks.length cK)
   have hd : doI wordB valueB L Ks line = none := HDO.out.trans (by by_cases c : p0 = tSet; (rw [if_pos c, if_neg (fun h => by rw [hvb] at h; exact absurd h.2.1 (by decide))]); (rw [if_neg c]; by_cases c2 : p0 = tNeed; (rw [if_pos c2, if_neg (fun h => by have := (hFit.out.word h.1).2; rw [h.2, hvb] at this; cases this)]); (rw [if_neg c2])))
   refine bodyPost_ret (results_ct rfl _ _ gr 77 #[.slice AN L.length cN, .slice AK Ks.length cK] (0, 0) _ rfl D9.br Tryd.underlying77 rfl (by kernel_rfl)) rfl ?_
   exact D9.no hd
  ·rw [hvb] at CVL
   by_cases hse : p0.toList = [115, 101, 116]
   ·obtain ⟨kt, hkt⟩ := HF.out.set L ⟨p1, p2⟩ hFit.out.good
    have HST := Aside0.mk hkt
    clear hkt
    go_upto_region 27 with (first | (go_at_call 63; (with_reducible refine (spec_l19At.calls ka AN cN L p1 t _ (Kd.R_reads' HD5.out.cs.now).2.2 (Kd.R_reads' HD5.out.cs.now).2.1 HKA.out).mono ?_); rintro e w6 ⟨rfl, hz6⟩; have hb6 := below_drawn hz6; clear hz6; have D_ := HD5.out.below hb6; replace hx0 := (hb6.cell (World.block_lt_of_cell? w5 _ hx0)).trans hx0; replace hx1 := (hb6.cell (World.block_lt_of_cell? w5 _ hx1)).trans hx1; replace hx2 := (hb6.cell (World.block_lt_of_cell? w5 _ hx2)).trans hx2; clear qa qb qc qd fa fb fc fd; have qa : w6.cell? ⟨gb, 0, none⟩ = some (.slice AN L.length cN) := (blk_cell D_.bx 0).trans rfl; have qb : w6.cell? ⟨gb, 1, none⟩ = some (.slice AK Ks.length cK) := (blk_cell D_.bx 1).trans rfl; have qc : w6.cell? ⟨gr, 0, none⟩ = some (.slice none 0 0) := (blk_cell D_.br 0).trans rfl; have qd : w6.cell? ⟨gr, 1, none⟩ = some (.slice none 0 0) := (blk_cell D_.br 1).trans rfl; have fa := blk_frozen D_.bx 0; have fb := blk_frozen D_.bx 1; have fc := blk_frozen D_.br 0; have fd := blk_frozen D_.br 1; have HD6 := Aside0.mk D_; clear D_; clear hb6) | (go_at_call 43; (with_reducible refine (CVL.out _).mono ?_); rintro e w7 ⟨rfl, hz7⟩; have hb7 := below_drawn hz7; clear hz7; have D_ := HD6.out.below hb7; replace hx0 := (hb7.cell (World.block_lt_of_cell? w6 _ hx0)).trans hx0; replace hx1 := (hb7.cell (World.block_lt_of_cell? w6 _ hx1)).trans hx1; replace hx2 := (hb7.cell (World.block_lt_of_cell? w6 _ hx2)).trans hx2; clear qa qb qc qd fa fb fc fd; have qa : w7.cell? ⟨gb, 0, none⟩ = some (.slice AN L.length cN) := (blk_cell D_.bx 0).trans rfl; have qb : w7.cell? ⟨gb, 1, none⟩ = some (.slice AK Ks.length cK) := (blk_cell D_.bx 1).trans rfl; have qc : w7.cell? ⟨gr, 0, none⟩ = some (.slice none 0 0) := (blk_cell D_.br 0).trans rfl; have qd : w7.cell? ⟨gr, 1, none⟩ = some (.slice none 0 0) := (blk_cell D_.br 1).trans rfl; have fa := blk_frozen D_.bx 0; have fb := blk_frozen D_.bx 1; have fc := blk_frozen D_.br 0; have fd := blk_frozen D_.br 1; have HD7 := Aside0.mk D_; clear D_; clear hb7))
    go_still_tail 9, (by kernel_rfl)
    show wpList _ _ _ _ _ (World.drew _)
    have D_ := HD7.out.drew
    replace hx0 : w7.drew.cell? _ = _ := hx0
    replace hx1 : w7.drew.cell? _ = _ := hx1
    replace hx2 : w7.drew.cell? _ = _ := hx2
    clear qa qb qc qd fa fb fc fd
    have qa : w7.drew.cell? ⟨gb, 0, none⟩ = some (.slice AN L.length cN) := (blk_cell D_.bx 0).trans rfl
    have qb : w7.drew.cell? ⟨gb, 1, none⟩ = some (.slice AK Ks.length cK) := (blk_cell D_.bx 1).trans rfl
    have qc : w7.drew.cell? ⟨gr, 0, none⟩ = some (.slice none 0 0) := (blk_cell D_.br 0).trans rfl
    have qd : w7.drew.cell? ⟨gr, 1, none⟩ = some (.slice none 0 0) := (blk_cell D_.br 1).trans rfl
    have fa := blk_frozen D_.bx 0
    have fb := blk_frozen D_.bx 1
    have fc := blk_frozen D_.br 0
    have fd := blk_frozen D_.br 1
    generalize w7.drew = w8 at D_ hx0 hx1 hx2 qa qb qc qd fa fb fc fd ⊢
    have HD8 := Aside0.mk D_
    clear D_
    go_upto_region 28 with (first | (go_at_call 50; (with_reducible refine (spec_l19Set.calls kt AN cN L p1 p2 (setS L ⟨p1, p2⟩) _ (Kd.R_reads' HD8.out.cs.now).2.2 (Kd.R_reads' HD8.out.cs.now).2.1 HST.out).mono ?_); rintro e w9 ⟨v9, rfl, hr9, hb9⟩; obtain ⟨A9, c9, e9⟩ := Kd.R_slice hr9; obtain ⟨ns, hns⟩ : ∃ ns, (setS L ⟨p1, p2⟩).length = ns := ⟨_, rfl⟩; have HNS := Aside0.mk hns; rw [hns] at e9; clear hns; subst e9; have HR9 := Aside0.mk (Kd.R_lower hr9 HD8.out.cs.bel.size); have D_ := HD8.out.below hb9; clear qa qb qc qd fa fb fc fd hr9 hb9; have qa : w9.cell? ⟨gb, 0, none⟩ = some (.slice AN L.length cN) := (blk_cell D_.bx 0).trans rfl; have qb : w9.cell? ⟨gb, 1, none⟩ = some (.slice AK Ks.length cK) := (blk_cell D_.bx 1).trans rfl; have qc : w9.cell? ⟨gr, 0, none⟩ = some (.slice none 0 0) := (blk_cell D_.br 0).trans rfl; have qd : w9.cell? ⟨gr, 1, none⟩ = some (.slice none 0 0) := (blk_cell D_.br 1).trans rfl; have fa := blk_frozen D_.bx 0; have fb := blk_frozen D_.bx 1; have fc := blk_frozen D_.br 0; have fd := blk_frozen D_.br 1; have HD9 := Aside0.mk D_; clear D_))
    have D_ := HD9.out.put0 (.slice A9 ns c9)
    clear qa qb qc qd fa fb fc fd
    have qa : (w9.setCell ⟨gb, 0, none⟩ (.slice A9 ns c9)).cell? ⟨gb, 0, none⟩ = some (.slice A9 ns c9) := (blk_cell D_.bx 0).trans rfl
    have qb : (w9.setCell ⟨gb, 0, none⟩ (.slice A9 ns c9)).cell? ⟨gb, 1, none⟩ = some (.slice AK Ks.length cK) := (blk_cell D_.bx 1).trans rfl
    have qc : (w9.setCell ⟨gb, 0, none⟩ (.slice A9 ns c9)).cell? ⟨gr, 0, none⟩ = some (.slice none 0 0) := (blk_cell D_.br 0).trans rfl
    have qd : (w9.setCell ⟨gb, 0, none⟩ (.slice A9 ns c9)).cell? ⟨gr, 1, none⟩ = some (.slice none 0 0) := (blk_cell D_.br 1).trans rfl
    have fa := blk_frozen D_.bx 0
    have fb := blk_frozen D_.bx 1
    have fc := blk_frozen D_.br 0
    have fd := blk_frozen D_.br 1
    have HRs := R_set HR9.out HD9.out.bx (by decide) 0 (.slice A9 ns c9)
    generalize (w9.setCell ⟨gb, 0, none⟩ (.slice A9 ns c9)) = w10 at D_ HRs qa qb qc qd fa fb fc fd ⊢
    have HR10 := Aside0.mk HRs
    clear HRs
    by_cases hl : ns ≤ 40
    ·have hl1 : ((ns : Int) ≤ 40) = True := eq_true (by omega)
     go_region
     go_wp2_with (fail)
     have HD10 := Aside0.mk D_
     have hcc : (getS L p1).2 = true ∨ L.length < 40 := by
      by_cases c : (getS L p1).2 = true
      ·exact .inl c
      ·have h_ := setS_new L ⟨p1, p2⟩ c; rw [HNS.out] at h_; exact .inr (by omega)
     have hfit := hFit.out.set ⟨p1, p2⟩ hcc ⟨by show p1.size ≤ _; omega, by show p2.size ≤ _; omega⟩ hwb hvb
     have D9 := ((HD10.out.with_ (HD10.out.cs.turn HR10.out hfit)).ans (.slice A9 ns c9) (.slice AK Ks.length cK)).drew
     have hd : doI wordB valueB L Ks line = some (setS L ⟨p1, p2⟩, Ks) := HDO.out.trans (by rw [if_pos ((toList_lit _ _).mp hse), if_pos ⟨hwb, hvb, hcc⟩])
     refine bodyPost_ret (results_ct rfl _ _ gr 77 #[.slice A9 ns c9, .slice AK Ks.length cK] (0, 0) _ rfl D9.br Tryd.underlying77 rfl (by kernel_rfl)) rfl ?_
     exact D9.yes hd
    ·have hl1 : ((ns : Int) ≤ 40) = False := eq_false (by omega)
     go_region
     go_wp2_with (fail)
     have HD10 := Aside0.mk D_
     have hcc : ¬ ((getS L p1).2 = true ∨ L.length < 40) := by
      rintro (c | c)
      ·have h_ := setS_here L ⟨p1, p2⟩ c; rw [HNS.out] at h_; have := hFit.out.good.len; omega
      ·have h_ := setS_len L ⟨p1, p2⟩; rw [HNS.out] at h_; omega
     have D9 := (HD10.out.ans (.slice A9 ns c9) (.slice AK Ks.length cK)).drew
     have hd : doI wordB valueB L Ks line = none := HDO.out.trans (by rw [if_pos ((toList_lit _ _).mp hse), if_neg (fun h => hcc h.2.2)])
     refine bodyPost_ret (results_ct rfl _ _ gr 77 #[.slice A9 ns c9, .slice AK Ks.length cK] (0, 0) _ rfl D9.br Tryd.underlying77 rfl (by kernel_rfl)) rfl ?_
     exact D9.no hd
   ·have hs0 : (p0.toList == [115, 101, 116]) = false := beq_eq_false_iff_ne.mpr hse
    by_cases hne : p0.toList = [110, 101, 101, 100]
    ·by_cases ht0 : 0 ≤ t
     ·by_cases hv : (getS L p1).1 = p2
      ·go_upto_region 30 with (first | (go_at_call 63; (with_reducible refine (spec_l19At.calls ka AN cN L p1 t _ (Kd.R_reads' HD5.out.cs.now).2.2 (Kd.R_reads' HD5.out.cs.now).2.1 HKA.out).mono ?_); rintro e w6 ⟨rfl, hz6⟩; have hb6 := below_drawn hz6; clear hz6; have D_ := HD5.out.below hb6; replace hx0 := (hb6.cell (World.block_lt_of_cell? w5 _ hx0)).trans hx0; replace hx1 := (hb6.cell (World.block_lt_of_cell? w5 _ hx1)).trans hx1; replace hx2 := (hb6.cell (World.block_lt_of_cell? w5 _ hx2)).trans hx2; clear qa qb qc qd fa fb fc fd; have qa : w6.cell? ⟨gb, 0, none⟩ = some (.slice AN L.length cN) := (blk_cell D_.bx 0).trans rfl; have qb : w6.cell? ⟨gb, 1, none⟩ = some (.slice AK Ks.length cK) := (blk_cell D_.bx 1).trans rfl; have qc : w6.cell? ⟨gr, 0, none⟩ = some (.slice none 0 0) := (blk_cell D_.br 0).trans rfl; have qd : w6.cell? ⟨gr, 1, none⟩ = some (.slice none 0 0) := (blk_cell D_.br 1).trans rfl; have fa := blk_frozen D_.bx 0; have fb := blk_frozen D_.bx 1; have fc := blk_frozen D_.br 0; have fd := blk_frozen D_.br 1; have HD6 := Aside0.mk D_; clear D_; clear hb6) | (go_at_call 43; (with_reducible refine (CVL.out _).mono ?_); rintro e w7 ⟨rfl, hz7⟩; have hb7 := below_drawn hz7; clear hz7; have D_ := HD6.out.below hb7; replace hx0 := (hb7.cell (World.block_lt_of_cell? w6 _ hx0)).trans hx0; replace hx1 := (hb7.cell (World.block_lt_of_cell? w6 _ hx1)).trans hx1; replace hx2 := (hb7.cell (World.block_lt_of_cell? w6 _ hx2)).trans hx2; clear qa qb qc qd fa fb fc fd; have qa : w7.cell? ⟨gb, 0, none⟩ = some (.slice AN L.length cN) := (blk_cell D_.bx 0).trans rfl; have qb : w7.cell? ⟨gb, 1, none⟩ = some (.slice AK Ks.length cK) := (blk_cell D_.bx 1).trans rfl; have qc : w7.cell? ⟨gr, 0, none⟩ = some (.slice none 0 0) := (blk_cell D_.br 0).trans rfl; have qd : w7.cell? ⟨gr, 1, none⟩ = some (.slice none 0 0) := (blk_cell D_.br 1).trans rfl; have fa := blk_frozen D_.bx 0; have fb := blk_frozen D_.bx 1; have fc := blk_frozen D_.br 0; have fd := blk_frozen D_.br 1; have HD7 := Aside0.mk D_; clear D_; clear hb7))
       have hgt := atS_get L p1 (by rw [HT.out]; exact ht0)
       rw [HT.out] at hgt
       obtain ⟨adN, eN2, hy0, hy1⟩ := at_T38 (Kd.R_reads' HD7.out.cs.now).2.2 t ht0 (hltA.out ht0)
       subst eN2
       rw [hgt.2] at hy1
       clear hy0
       have htn : (0 ≤ t) = True := eq_true ht0
       have htl : (t < (L.length : Int)) = True := eq_true (hltA.out ht0)
       have hcv : ((getS L p1).1.toList == p2.toList) = true := by rw [toList_beq, decide_eq_true hv]
       have hd1 : (adN.add (t.toNat * 2)).block ≠ gr := by rw [add_block]; exact Kd.own_blk (Kd.R_ne HD7.out.cs.now HD7.out.br (by decide))
       have hd2 : adS.block ≠ gr := Kd.own_blk (Kd.R_ne HD7.out.ps HD7.out.br (by decide))
       refine start_ (n := 17) (S := fun w' => w'.cell? ⟨gb, 0, none⟩ = some (.slice (some adN) L.length cN) ∧ w'.cell? ⟨gb, 1, none⟩ = some (.slice AK Ks.length cK) ∧ w'.cell? ⟨(adN.add (t.toNat * 2)).block, (adN.add (t.toNat * 2)).off + 1, none⟩ = some (.string (getS L p1).1) ∧ w'.cell? ⟨adS.block, adS.off + 2, none⟩ = some (.string p2)) (ds := []) #[false, false, false, false, false, false, false, false, false, false, false, false, false, false, false, false, false] (by kernel_rfl) rfl rfl ⟨qa, qb, hy1, hx2⟩ (fun hHeld => ?_); refine with_tabW do_tab30 do_bits30 (fun HT_ HW_ => ?_)
       have D_ := HD7.out.drew
       have e1_ := blk_frozen D_.br 0
       have e2_ := blk_frozen D_.br 1
       have e3_ : w7.drew.cell? ⟨gr, 0, none⟩ = some (.slice none 0 0) := (blk_cell D_.br 0).trans rfl
       have e4_ : w7.drew.cell? ⟨gr, 1, none⟩ = some (.slice none 0 0) := (blk_cell D_.br 1).trans rfl
       clear qa qb qc qd fa fb fc fd hx0 hx1 hx2 hy1
       generalize w7.drew = w8 at D_ e1_ e2_ e3_ e4_ hHeld ⊢
       have HD8 := Aside0.mk D_
       clear D_
       refine pure_ (i := 1) (N := some 139) (v := ?_) (a' := ?_) #[false, true, false, false, false, false, false, false, false, false, false, false, false, false, false, false, false] rfl rfl (any_of HT_.out (by kernel_rfl)) (fun _ _ _ h => h) (Or.inl ⟨by rfl, ?_⟩) ?_ ?_
       rotate_left
       ·intro w'
        go_simp
        with_reducible rfl
       rotate_left
       ·simp only [Act.put, List.setIfInBounds_toArray, List.set_cons_zero, List.set_cons_succ, i64_w, i32_w]
        rfl
       refine pure_ (i := 2) (N := some 140) (v := ?_) (a' := ?_) #[false, true, true, false, false, false, false, false, false, false, false, false, false, false, false, false, false] rfl rfl (any_of HT_.out (by kernel_rfl)) (fun _ _ _ h => h) (Or.inl ⟨by rfl, ?_⟩) ?_ ?_
       rotate_left
       ·intro w'
        go_simp
        with_reducible rfl
       rotate_left
       ·simp only [Act.put, List.setIfInBounds_toArray, List.set_cons_zero, List.set_cons_succ, i64_w, i32_w]
        rfl
       refine pure_ (i := 3) (N := some 141) (v := ?_) (a' := ?_) #[false, true, true, true, false, false, false, false, false, false, false, false, false, false, false, false, false] rfl rfl (any_of HT_.out (by kernel_rfl)) (fun _ _ _ h => h) (Or.inl ⟨by rfl, ?_⟩) ?_ ?_
       rotate_left
       ·intro w'
        go_simp
        with_reducible rfl
       rotate_left
       ·simp only [Act.put, List.setIfInBounds_toArray, List.set_cons_zero, List.set_cons_succ, i64_w, i32_w]
        rfl
       refine pure_ (i := 4) (N := some 142) (v := ?_) (a' := ?_) #[false, true, true, true, true, false, false, false, false, false, false, false, false, false, false, false, false] rfl rfl (any_of HT_.out (by kernel_rfl)) (fun _ _ _ h => h) (Or.inl ⟨by rfl, ?_⟩) ?_ ?_
       rotate_left
       ·intro w'
        go_simp
        with_reducible rfl
       rotate_left
       ·simp only [Act.put, List.setIfInBounds_toArray, List.set_cons_zero, List.set_cons_succ, i64_w, i32_w]
        rfl
       refine pure_ (i := 6) (N := some 144) (v := ?_) (a' := ?_) #[false, true, true, true, true, false, true, false, false, false, false, false, false, false, false, false, false] rfl rfl (any_of HT_.out (by kernel_rfl)) (fun _ _ _ h => h) (Or.inl ⟨by rfl, ?_⟩) ?_ ?_
       rotate_left
       ·intro w'
        go_simp
        with_reducible rfl
       rotate_left
       ·simp only [Act.put, List.setIfInBounds_toArray, List.set_cons_zero, List.set_cons_succ, i64_w, i32_w]
        rfl
       refine pure_ (i := 10) (N := some 148) (v := ?_) (a' := ?_) #[false, true, true, true, true, false, true, false, false, false, true, false, false, false, false, false, false] rfl rfl (any_of HT_.out (by kernel_rfl)) (fun _ _ _ h => h) (Or.inl ⟨by rfl, ?_⟩) ?_ ?_
       rotate_left
       ·intro w'
        go_simp
        with_reducible rfl
       rotate_left
       ·simp only [Act.put, List.setIfInBounds_toArray, List.set_cons_zero, List.set_cons_succ, i64_w, i32_w]
        rfl
       refine pure_ (i := 11) (N := some 149) (v := ?_) (a' := ?_) #[false, true, true, true, true, false, true, false, false, false, true, true, false, false, false, false, false] rfl rfl (any_of HT_.out (by kernel_rfl)) (fun _ _ _ h => h) (Or.inl ⟨by rfl, ?_⟩) ?_ ?_
       rotate_left
       ·intro w'
        go_simp
        with_reducible rfl
       rotate_left
       ·simp only [Act.put, List.setIfInBounds_toArray, List.set_cons_zero, List.set_cons_succ, i64_w, i32_w]
        rfl
       refine take_ (i := 0) (N := some 138) (v := ?_) (a' := ?_) #[true, true, true, true, true, false, true, false, false, false, true, true, false, false, false, false, false] rfl rfl (take_ofW HT_.out HW_.out (by kernel_rfl)) (fun _ _ _ h => h) (Or.inl ⟨by rfl, ?_⟩) hHeld ?_ ?_
       rotate_left
       ·rintro w' ⟨s0, s1, s2, s3⟩
        go_simp
        with_reducible rfl
       rotate_left
       ·simp only [Act.put, List.setIfInBounds_toArray, List.set_cons_zero, List.set_cons_succ, i64_w, i32_w]
        rfl
       refine take_ (i := 5) (N := some 143) (v := ?_) (a' := ?_) #[true, true, true, true, true, true, true, false, false, false, true, true, false, false, false, false, false] rfl rfl (take_ofW HT_.out HW_.out (by kernel_rfl)) (fun _ _ _ h => h) (Or.inl ⟨by rfl, ?_⟩) hHeld ?_ ?_
       rotate_left
       ·rintro w' ⟨s0, s1, s2, s3⟩
        go_simp
        with_reducible rfl
       rotate_left
       ·simp only [Act.put, List.setIfInBounds_toArray, List.set_cons_zero, List.set_cons_succ, i64_w, i32_w]
        rfl
       refine pure_ (i := 7) (N := some 145) (v := ?_) (a' := ?_) #[true, true, true, true, true, true, true, true, false, false, true, true, false, false, false, false, false] rfl rfl (any_of HT_.out (by kernel_rfl)) (fun _ _ _ h => h) (Or.inl ⟨by rfl, ?_⟩) ?_ ?_
       rotate_left
       ·intro w'
        go_simp
        with_reducible rfl
       rotate_left
       ·simp only [Act.put, List.setIfInBounds_toArray, List.set_cons_zero, List.set_cons_succ, i64_w, i32_w]
        rfl
       refine pure_ (i := 8) (N := some 146) (v := ?_) (a' := ?_) #[true, true, true, true, true, true, true, true, true, false, true, true, false, false, false, false, false] rfl rfl (any_of HT_.out (by kernel_rfl)) (fun _ _ _ h => h) (Or.inl ⟨by rfl, ?_⟩) ?_ ?_
       rotate_left
       ·intro w'
        go_simp
        with_reducible rfl
       rotate_left
       ·simp only [Act.put, List.setIfInBounds_toArray, List.set_cons_zero, List.set_cons_succ, i64_w, i32_w]
        rfl
       refine take_ (i := 9) (N := some 147) (v := ?_) (a' := ?_) #[true, true, true, true, true, true, true, true, true, true, true, true, false, false, false, false, false] rfl rfl (take_ofW HT_.out HW_.out (by kernel_rfl)) (fun _ _ _ h => h) (Or.inl ⟨by rfl, ?_⟩) hHeld ?_ ?_
       rotate_left
       ·rintro w' ⟨s0, s1, s2, s3⟩
        go_simp
        with_reducible rfl
       rotate_left
       ·simp only [Act.put, List.setIfInBounds_toArray, List.set_cons_zero, List.set_cons_succ, i64_w, i32_w]
        rfl
       refine take_ (i := 12) (N := some 150) (v := ?_) (a' := ?_) #[true, true, true, true, true, true, true, true, true, true, true, true, true, false, false, false, false] rfl rfl (take_ofW HT_.out HW_.out (by kernel_rfl)) (fun _ _ _ h => h) (Or.inl ⟨by rfl, ?_⟩) hHeld ?_ ?_
       rotate_left
       ·rintro w' ⟨s0, s1, s2, s3⟩
        go_simp
        with_reducible rfl
       rotate_left
       ·simp only [Act.put, List.setIfInBounds_toArray, List.set_cons_zero, List.set_cons_succ, i64_w, i32_w]
        rfl
       refine pure_ (i := 13) (N := some 151) (v := ?_) (a' := ?_) #[true, true, true, true, true, true, true, true, true, true, true, true, true, true, false, false, false] rfl rfl (any_of HT_.out (by kernel_rfl)) (fun _ _ _ h => h) (Or.inl ⟨by rfl, ?_⟩) ?_ ?_
       rotate_left
       ·intro w'
        go_simp
        with_reducible rfl
       rotate_left
       ·simp only [Act.put, List.setIfInBounds_toArray, List.set_cons_zero, List.set_cons_succ, i64_w, i32_w]
        rfl
       refine pure_ (i := 14) (N := some 152) (v := ?_) (a' := ?_) #[true, true, true, true, true, true, true, true, true, true, true, true, true, true, true, false, false] rfl rfl (any_of HT_.out (by kernel_rfl)) (fun _ _ _ h => h) (Or.inl ⟨by rfl, ?_⟩) ?_ ?_
       rotate_left
       ·intro w'
        go_simp
        with_reducible rfl
       rotate_left
       ·simp only [Act.put, List.setIfInBounds_toArray, List.set_cons_zero, List.set_cons_succ, i64_w, i32_w]
        rfl
       refine one_ (i := 15) (N := none) #[true, true, true, true, true, true, true, true, true, true, true, true, true, true, true, true, false] rfl rfl (one_of HT_.out (by kernel_rfl)) (by decide) (fun K hK => ?_)
       refine skip_ (w1 := ?_) (by rfl) rfl ?_ ?_
       rotate_left
       ·go_simp
        rfl
       refine hK.out _ _ ⟨((cell_far (p := ⟨gr, _, none⟩) hn1 _).trans ((cell_far (p := ⟨gr, _, none⟩) hn1 _).trans (hHeld.1))), ((cell_far (p := ⟨gr, _, none⟩) hn1 _).trans ((cell_far (p := ⟨gr, _, none⟩) hn1 _).trans (hHeld.2.1))), ((cell_far (a := ⟨(adN.add (t.toNat * 2)).block, (adN.add (t.toNat * 2)).off + 1, none⟩) (p := ⟨gr, _, none⟩) hd1 _).trans ((cell_far (a := ⟨(adN.add (t.toNat * 2)).block, (adN.add (t.toNat * 2)).off + 1, none⟩) (p := ⟨gr, _, none⟩) hd1 _).trans (hHeld.2.2.1))), ((cell_far (a := ⟨adS.block, adS.off + 2, none⟩) (p := ⟨gr, _, none⟩) hd2 _).trans ((cell_far (a := ⟨adS.block, adS.off + 2, none⟩) (p := ⟨gr, _, none⟩) hd2 _).trans (hHeld.2.2.2)))⟩ (fun hHeld => ?_)
       clear hK K
       refine pure_ (i := 16) (N := some 5) (v := ?_) (a' := ?_) #[true, true, true, true, true, true, true, true, true, true, true, true, true, true, true, true, true] rfl rfl (any_of HT_.out (by kernel_rfl)) (fun _ _ _ h => h) (Or.inl ⟨by rfl, ?_⟩) ?_ ?_
       rotate_left
       ·intro w'
        go_simp
        with_reducible rfl
       rotate_left
       ·simp only [Act.put, List.setIfInBounds_toArray, List.set_cons_zero, List.set_cons_succ, i64_w, i32_w]
        rfl
       refine done_ (done_of HT_.out (by kernel_rfl)) ?_
       try go_wp2
       have D9 := HD8.out.ans (.slice (some adN) L.length cN) (.slice AK Ks.length cK)
       have hd : doI wordB valueB L Ks line = some (L, Ks) := HDO.out.trans (by rw [if_neg (fun e => hse ((toList_lit _ _).mpr e)), if_pos ((toList_lit _ _).mp hne), if_pos ⟨hiff.out.mp ht0, hv⟩])
       refine bodyPost_ret (results_ct rfl _ _ gr 77 #[.slice (some adN) L.length cN, .slice AK Ks.length cK] (0, 0) _ rfl D9.br Tryd.underlying77 rfl (by kernel_rfl)) rfl ?_
       exact D9.yes hd
      ·go_upto_region 30 with (first | (go_at_call 63; (with_reducible refine (spec_l19At.calls ka AN cN L p1 t _ (Kd.R_reads' HD5.out.cs.now).2.2 (Kd.R_reads' HD5.out.cs.now).2.1 HKA.out).mono ?_); rintro e w6 ⟨rfl, hz6⟩; have hb6 := below_drawn hz6; clear hz6; have D_ := HD5.out.below hb6; replace hx0 := (hb6.cell (World.block_lt_of_cell? w5 _ hx0)).trans hx0; replace hx1 := (hb6.cell (World.block_lt_of_cell? w5 _ hx1)).trans hx1; replace hx2 := (hb6.cell (World.block_lt_of_cell? w5 _ hx2)).trans hx2; clear qa qb qc qd fa fb fc fd; have qa : w6.cell? ⟨gb, 0, none⟩ = some (.slice AN L.length cN) := (blk_cell D_.bx 0).trans rfl; have qb : w6.cell? ⟨gb, 1, none⟩ = some (.slice AK Ks.length cK) := (blk_cell D_.bx 1).trans rfl; have qc : w6.cell? ⟨gr, 0, none⟩ = some (.slice none 0 0) := (blk_cell D_.br 0).trans rfl; have qd : w6.cell? ⟨gr, 1, none⟩ = some (.slice none 0 0) := (blk_cell D_.br 1).trans rfl; have fa := blk_frozen D_.bx 0; have fb := blk_frozen D_.bx 1; have fc := blk_frozen D_.br 0; have fd := blk_frozen D_.br 1; have HD6 := Aside0.mk D_; clear D_; clear hb6) | (go_at_call 43; (with_reducible refine (CVL.out _).mono ?_); rintro e w7 ⟨rfl, hz7⟩; have hb7 := below_drawn hz7; clear hz7; have D_ := HD6.out.below hb7; replace hx0 := (hb7.cell (World.block_lt_of_cell? w6 _ hx0)).trans hx0; replace hx1 := (hb7.cell (World.block_lt_of_cell? w6 _ hx1)).trans hx1; replace hx2 := (hb7.cell (World.block_lt_of_cell? w6 _ hx2)).trans hx2; clear qa qb qc qd fa fb fc fd; have qa : w7.cell? ⟨gb, 0, none⟩ = some (.slice AN L.length cN) := (blk_cell D_.bx 0).trans rfl; have qb : w7.cell? ⟨gb, 1, none⟩ = some (.slice AK Ks.length cK) := (blk_cell D_.bx 1).trans rfl; have qc : w7.cell? ⟨gr, 0, none⟩ = some (.slice none 0 0) := (blk_cell D_.br 0).trans rfl; have qd : w7.cell? ⟨gr, 1, none⟩ = some (.slice none 0 0) := (blk_cell D_.br 1).trans rfl; have fa := blk_frozen D_.bx 0; have fb := blk_frozen D_.bx 1; have fc := blk_frozen D_.br 0; have fd := blk_frozen D_.br 1; have HD7 := Aside0.mk D_; clear D_; clear hb7))
       have hgt := atS_get L p1 (by rw [HT.out]; exact ht0)
       rw [HT.out] at hgt
       obtain ⟨adN, eN2, hy0, hy1⟩ := at_T38 (Kd.R_reads' HD7.out.cs.now).2.2 t ht0 (hltA.out ht0)
       subst eN2
       rw [hgt.2] at hy1
       clear hy0
       have htn : (0 ≤ t) = True := eq_true ht0
       have htl : (t < (L.length : Int)) = True := eq_true (hltA.out ht0)
       have hcv : ((getS L p1).1.toList == p2.toList) = false := by rw [toList_beq, decide_eq_false hv]
       have hd1 : (adN.add (t.toNat * 2)).block ≠ gr := by rw [add_block]; exact Kd.own_blk (Kd.R_ne HD7.out.cs.now HD7.out.br (by decide))
       have hd2 : adS.block ≠ gr := Kd.own_blk (Kd.R_ne HD7.out.ps HD7.out.br (by decide))
       refine start_ (n := 17) (S := fun w' => w'.cell? ⟨gb, 0, none⟩ = some (.slice (some adN) L.length cN) ∧ w'.cell? ⟨gb, 1, none⟩ = some (.slice AK Ks.length cK) ∧ w'.cell? ⟨(adN.add (t.toNat * 2)).block, (adN.add (t.toNat * 2)).off + 1, none⟩ = some (.string (getS L p1).1) ∧ w'.cell? ⟨adS.block, adS.off + 2, none⟩ = some (.string p2)) (ds := []) #[false, false, false, false, false, false, false, false, false, false, false, false, false, false, false, false, false] (by kernel_rfl) rfl rfl ⟨qa, qb, hy1, hx2⟩ (fun hHeld => ?_); refine with_tabW do_tab30 do_bits30 (fun HT_ HW_ => ?_)
       have D_ := HD7.out.drew
       have e1_ := blk_frozen D_.br 0
       have e2_ := blk_frozen D_.br 1
       have e3_ : w7.drew.cell? ⟨gr, 0, none⟩ = some (.slice none 0 0) := (blk_cell D_.br 0).trans rfl
       have e4_ : w7.drew.cell? ⟨gr, 1, none⟩ = some (.slice none 0 0) := (blk_cell D_.br 1).trans rfl
       clear qa qb qc qd fa fb fc fd hx0 hx1 hx2 hy1
       generalize w7.drew = w8 at D_ e1_ e2_ e3_ e4_ hHeld ⊢
       have HD8 := Aside0.mk D_
       clear D_
       refine pure_ (i := 1) (N := some 139) (v := ?_) (a' := ?_) #[false, true, false, false, false, false, false, false, false, false, false, false, false, false, false, false, false] rfl rfl (any_of HT_.out (by kernel_rfl)) (fun _ _ _ h => h) (Or.inl ⟨by rfl, ?_⟩) ?_ ?_
       rotate_left
       ·intro w'
        go_simp
        with_reducible rfl
       rotate_left
       ·simp only [Act.put, List.setIfInBounds_toArray, List.set_cons_zero, List.set_cons_succ, i64_w, i32_w]
        rfl
       refine pure_ (i := 2) (N := some 140) (v := ?_) (a' := ?_) #[false, true, true, false, false, false, false, false, false, false, false, false, false, false, false, false, false] rfl rfl (any_of HT_.out (by kernel_rfl)) (fun _ _ _ h => h) (Or.inl ⟨by rfl, ?_⟩) ?_ ?_
       rotate_left
       ·intro w'
        go_simp
        with_reducible rfl
       rotate_left
       ·simp only [Act.put, List.setIfInBounds_toArray, List.set_cons_zero, List.set_cons_succ, i64_w, i32_w]
        rfl
       refine pure_ (i := 3) (N := some 141) (v := ?_) (a' := ?_) #[false, true, true, true, false, false, false, false, false, false, false, false, false, false, false, false, false] rfl rfl (any_of HT_.out (by kernel_rfl)) (fun _ _ _ h => h) (Or.inl ⟨by rfl, ?_⟩) ?_ ?_
       rotate_left
       ·intro w'
        go_simp
        with_reducible rfl
       rotate_left
       ·simp only [Act.put, List.setIfInBounds_toArray, List.set_cons_zero, List.set_cons_succ, i64_w, i32_w]
        rfl
       refine pure_ (i := 4) (N := some 142) (v := ?_) (a' := ?_) #[false, true, true, true, true, false, false, false, false, false, false, false, false, false, false, false, false] rfl rfl (any_of HT_.out (by kernel_rfl)) (fun _ _ _ h => h) (Or.inl ⟨by rfl, ?_⟩) ?_ ?_
       rotate_left
       ·intro w'
        go_simp
        with_reducible rfl
       rotate_left
       ·simp only [Act.put, List.setIfInBounds_toArray, List.set_cons_zero, List.set_cons_succ, i64_w, i32_w]
        rfl
       refine pure_ (i := 6) (N := some 144) (v := ?_) (a' := ?_) #[false, true, true, true, true, false, true, false, false, false, false, false, false, false, false, false, false] rfl rfl (any_of HT_.out (by kernel_rfl)) (fun _ _ _ h => h) (Or.inl ⟨by rfl, ?_⟩) ?_ ?_
       rotate_left
       ·intro w'
        go_simp
        with_reducible rfl
       rotate_left
       ·simp only [Act.put, List.setIfInBounds_toArray, List.set_cons_zero, List.set_cons_succ, i64_w, i32_w]
        rfl
       refine pure_ (i := 10) (N := some 148) (v := ?_) (a' := ?_) #[false, true, true, true, true, false, true, false, false, false, true, false, false, false, false, false, false] rfl rfl (any_of HT_.out (by kernel_rfl)) (fun _ _ _ h => h) (Or.inl ⟨by rfl, ?_⟩) ?_ ?_
       rotate_left
       ·intro w'
        go_simp
        with_reducible rfl
       rotate_left
       ·simp only [Act.put, List.setIfInBounds_toArray, List.set_cons_zero, List.set_cons_succ, i64_w, i32_w]
        rfl
       refine pure_ (i := 11) (N := some 149) (v := ?_) (a' := ?_) #[false, true, true, true, true, false, true, false, false, false, true, true, false, false, false, false, false] rfl rfl (any_of HT_.out (by kernel_rfl)) (fun _ _ _ h => h) (Or.inl ⟨by rfl, ?_⟩) ?_ ?_
       rotate_left
       ·intro w'
        go_simp
        with_reducible rfl
       rotate_left
       ·simp only [Act.put, List.setIfInBounds_toArray, List.set_cons_zero, List.set_cons_succ, i64_w, i32_w]
        rfl
       refine take_ (i := 0) (N := some 138) (v := ?_) (a' := ?_) #[true, true, true, true, true, false, true, false, false, false, true, true, false, false, false, false, false] rfl rfl (take_ofW HT_.out HW_.out (by kernel_rfl)) (fun _ _ _ h => h) (Or.inl ⟨by rfl, ?_⟩) hHeld ?_ ?_
       rotate_left
       ·rintro w' ⟨s0, s1, s2, s3⟩
        go_simp
        with_reducible rfl
       rotate_left
       ·simp only [Act.put, List.setIfInBounds_toArray, List.set_cons_zero, List.set_cons_succ, i64_w, i32_w]
        rfl
       refine take_ (i := 5) (N := some 143) (v := ?_) (a' := ?_) #[true, true, true, true, true, true, true, false, false, false, true, true, false, false, false, false, false] rfl rfl (take_ofW HT_.out HW_.out (by kernel_rfl)) (fun _ _ _ h => h) (Or.inl ⟨by rfl, ?_⟩) hHeld ?_ ?_
       rotate_left
       ·rintro w' ⟨s0, s1, s2, s3⟩
        go_simp
        with_reducible rfl
       rotate_left
       ·simp only [Act.put, List.setIfInBounds_toArray, List.set_cons_zero, List.set_cons_succ, i64_w, i32_w]
        rfl
       refine pure_ (i := 7) (N := some 145) (v := ?_) (a' := ?_) #[true, true, true, true, true, true, true, true, false, false, true, true, false, false, false, false, false] rfl rfl (any_of HT_.out (by kernel_rfl)) (fun _ _ _ h => h) (Or.inl ⟨by rfl, ?_⟩) ?_ ?_
       rotate_left
       ·intro w'
        go_simp
        with_reducible rfl
       rotate_left
       ·simp only [Act.put, List.setIfInBounds_toArray, List.set_cons_zero, List.set_cons_succ, i64_w, i32_w]
        rfl
       refine pure_ (i := 8) (N := some 146) (v := ?_) (a' := ?_) #[true, true, true, true, true, true, true, true, true, false, true, true, false, false, false, false, false] rfl rfl (any_of HT_.out (by kernel_rfl)) (fun _ _ _ h => h) (Or.inl ⟨by rfl, ?_⟩) ?_ ?_
       rotate_left
       ·intro w'
        go_simp
        with_reducible rfl
       rotate_left
       ·simp only [Act.put, List.setIfInBounds_toArray, List.set_cons_zero, List.set_cons_succ, i64_w, i32_w]
        rfl
       refine take_ (i := 9) (N := some 147) (v := ?_) (a' := ?_) #[true, true, true, true, true, true, true, true, true, true, true, true, false, false, false, false, false] rfl rfl (take_ofW HT_.out HW_.out (by kernel_rfl)) (fun _ _ _ h => h) (Or.inl ⟨by rfl, ?_⟩) hHeld ?_ ?_
       rotate_left
       ·rintro w' ⟨s0, s1, s2, s3⟩
        go_simp
        with_reducible rfl
       rotate_left
       ·simp only [Act.put, List.setIfInBounds_toArray, List.set_cons_zero, List.set_cons_succ, i64_w, i32_w]
        rfl
       refine take_ (i := 12) (N := some 150) (v := ?_) (a' := ?_) #[true, true, true, true, true, true, true, true, true, true, true, true, true, false, false, false, false] rfl rfl (take_ofW HT_.out HW_.out (by kernel_rfl)) (fun _ _ _ h => h) (Or.inl ⟨by rfl, ?_⟩) hHeld ?_ ?_
       rotate_left
       ·rintro w' ⟨s0, s1, s2, s3⟩
        go_simp
        with_reducible rfl
       rotate_left
       ·simp only [Act.put, List.setIfInBounds_toArray, List.set_cons_zero, List.set_cons_succ, i64_w, i32_w]
        rfl
       refine pure_ (i := 13) (N := some 151) (v := ?_) (a' := ?_) #[true, true, true, true, true, true, true, true, true, true, true, true, true, true, false, false, false] rfl rfl (any_of HT_.out (by kernel_rfl)) (fun _ _ _ h => h) (Or.inl ⟨by rfl, ?_⟩) ?_ ?_
       rotate_left
       ·intro w'
        go_simp
        with_reducible rfl
       rotate_left
       ·simp only [Act.put, List.setIfInBounds_toArray, List.set_cons_zero, List.set_cons_succ, i64_w, i32_w]
        rfl
       refine pure_ (i := 14) (N := some 152) (v := ?_) (a' := ?_) #[true, true, true, true, true, true, true, true, true, true, true, true, true, true, true, false, false] rfl rfl (any_of HT_.out (by kernel_rfl)) (fun _ _ _ h => h) (Or.inl ⟨by rfl, ?_⟩) ?_ ?_
       rotate_left
       ·intro w'
        go_simp
        with_reducible rfl
       rotate_left
       ·simp only [Act.put, List.setIfInBounds_toArray, List.set_cons_zero, List.set_cons_succ, i64_w, i32_w]
        rfl
       refine one_ (i := 15) (N := none) #[true, true, true, true, true, true, true, true, true, true, true, true, true, true, true, true, false] rfl rfl (one_of HT_.out (by kernel_rfl)) (by decide) (fun K hK => ?_)
       refine skip_ (w1 := ?_) (by rfl) rfl ?_ ?_
       rotate_left
       ·go_simp
        rfl
       refine hK.out _ _ ⟨((cell_far (p := ⟨gr, _, none⟩) hn1 _).trans ((cell_far (p := ⟨gr, _, none⟩) hn1 _).trans (hHeld.1))), ((cell_far (p := ⟨gr, _, none⟩) hn1 _).trans ((cell_far (p := ⟨gr, _, none⟩) hn1 _).trans (hHeld.2.1))), ((cell_far (a := ⟨(adN.add (t.toNat * 2)).block, (adN.add (t.toNat * 2)).off + 1, none⟩) (p := ⟨gr, _, none⟩) hd1 _).trans ((cell_far (a := ⟨(adN.add (t.toNat * 2)).block, (adN.add (t.toNat * 2)).off + 1, none⟩) (p := ⟨gr, _, none⟩) hd1 _).trans (hHeld.2.2.1))), ((cell_far (a := ⟨adS.block, adS.off + 2, none⟩) (p := ⟨gr, _, none⟩) hd2 _).trans ((cell_far (a := ⟨adS.block, adS.off + 2, none⟩) (p := ⟨gr, _, none⟩) hd2 _).trans (hHeld.2.2.2)))⟩ (fun hHeld => ?_)
       clear hK K
       refine pure_ (i := 16) (N := some 5) (v := ?_) (a' := ?_) #[true, true, true, true, true, true, true, true, true, true, true, true, true, true, true, true, true] rfl rfl (any_of HT_.out (by kernel_rfl)) (fun _ _ _ h => h) (Or.inl ⟨by rfl, ?_⟩) ?_ ?_
       rotate_left
       ·intro w'
        go_simp
        with_reducible rfl
       rotate_left
       ·simp only [Act.put, List.setIfInBounds_toArray, List.set_cons_zero, List.set_cons_succ, i64_w, i32_w]
        rfl
       refine done_ (done_of HT_.out (by kernel_rfl)) ?_
       try go_wp2
       have D9 := HD8.out.ans (.slice (some adN) L.length cN) (.slice AK Ks.length cK)
       have hd : doI wordB valueB L Ks line = none := HDO.out.trans (by rw [if_neg (fun e => hse ((toList_lit _ _).mpr e)), if_pos ((toList_lit _ _).mp hne), if_neg (fun h => hv h.2)])
       refine bodyPost_ret (results_ct rfl _ _ gr 77 #[.slice (some adN) L.length cN, .slice AK Ks.length cK] (0, 0) _ rfl D9.br Tryd.underlying77 rfl (by kernel_rfl)) rfl ?_
       exact D9.no hd
     ·go_upto_region 30 with (first | (go_at_call 63; (with_reducible refine (spec_l19At.calls ka AN cN L p1 t _ (Kd.R_reads' HD5.out.cs.now).2.2 (Kd.R_reads' HD5.out.cs.now).2.1 HKA.out).mono ?_); rintro e w6 ⟨rfl, hz6⟩; have hb6 := below_drawn hz6; clear hz6; have D_ := HD5.out.below hb6; replace hx0 := (hb6.cell (World.block_lt_of_cell? w5 _ hx0)).trans hx0; replace hx1 := (hb6.cell (World.block_lt_of_cell? w5 _ hx1)).trans hx1; replace hx2 := (hb6.cell (World.block_lt_of_cell? w5 _ hx2)).trans hx2; clear qa qb qc qd fa fb fc fd; have qa : w6.cell? ⟨gb, 0, none⟩ = some (.slice AN L.length cN) := (blk_cell D_.bx 0).trans rfl; have qb : w6.cell? ⟨gb, 1, none⟩ = some (.slice AK Ks.length cK) := (blk_cell D_.bx 1).trans rfl; have qc : w6.cell? ⟨gr, 0, none⟩ = some (.slice none 0 0) := (blk_cell D_.br 0).trans rfl; have qd : w6.cell? ⟨gr, 1, none⟩ = some (.slice none 0 0) := (blk_cell D_.br 1).trans rfl; have fa := blk_frozen D_.bx 0; have fb := blk_frozen D_.bx 1; have fc := blk_frozen D_.br 0; have fd := blk_frozen D_.br 1; have HD6 := Aside0.mk D_; clear D_; clear hb6) | (go_at_call 43; (with_reducible refine (CVL.out _).mono ?_); rintro e w7 ⟨rfl, hz7⟩; have hb7 := below_drawn hz7; clear hz7; have D_ := HD6.out.below hb7; replace hx0 := (hb7.cell (World.block_lt_of_cell? w6 _ hx0)).trans hx0; replace hx1 := (hb7.cell (World.block_lt_of_cell? w6 _ hx1)).trans hx1; replace hx2 := (hb7.cell (World.block_lt_of_cell? w6 _ hx2)).trans hx2; clear qa qb qc qd fa fb fc fd; have qa : w7.cell? ⟨gb, 0, none⟩ = some (.slice AN L.length cN) := (blk_cell D_.bx 0).trans rfl; have qb : w7.cell? ⟨gb, 1, none⟩ = some (.slice AK Ks.length cK) := (blk_cell D_.bx 1).trans rfl; have qc : w7.cell? ⟨gr, 0, none⟩ = some (.slice none 0 0) := (blk_cell D_.br 0).trans rfl; have qd : w7.cell? ⟨gr, 1, none⟩ = some (.slice none 0 0) := (blk_cell D_.br 1).trans rfl; have fa := blk_frozen D_.bx 0; have fb := blk_frozen D_.bx 1; have fc := blk_frozen D_.br 0; have fd := blk_frozen D_.br 1; have HD7 := Aside0.mk D_; clear D_; clear hb7))
      have htn : (0 ≤ t) = False := eq_false (by omega)
      refine start_ (n := 17) (S := fun w' => w'.cell? ⟨gb, 0, none⟩ = some (.slice AN L.length cN) ∧ w'.cell? ⟨gb, 1, none⟩ = some (.slice AK Ks.length cK)) (ds := []) #[false, false, false, false, false, false, false, false, false, false, false, false, false, false, false, false, false] (by kernel_rfl) rfl rfl ⟨qa, qb⟩ (fun hHeld => ?_); refine with_tabW do_tab30 do_bits30 (fun HT_ HW_ => ?_)
      have D_ := HD7.out.drew
      have e1_ := blk_frozen D_.br 0
      have e2_ := blk_frozen D_.br 1
      have e3_ : w7.drew.cell? ⟨gr, 0, none⟩ = some (.slice none 0 0) := (blk_cell D_.br 0).trans rfl
      have e4_ : w7.drew.cell? ⟨gr, 1, none⟩ = some (.slice none 0 0) := (blk_cell D_.br 1).trans rfl
      clear qa qb qc qd fa fb fc fd hx0 hx1 hx2
      generalize w7.drew = w8 at D_ e1_ e2_ e3_ e4_ hHeld ⊢
      have HD8 := Aside0.mk D_
      clear D_
      refine pure_ (i := 1) (N := some 139) (v := ?_) (a' := ?_) #[false, true, false, false, false, false, false, false, false, false, false, false, false, false, false, false, false] rfl rfl (any_of HT_.out (by kernel_rfl)) (fun _ _ _ h => h) (Or.inl ⟨by rfl, ?_⟩) ?_ ?_
      rotate_left
      ·intro w'
       go_simp
       with_reducible rfl
      rotate_left
      ·simp only [Act.put, List.setIfInBounds_toArray, List.set_cons_zero, List.set_cons_succ, i64_w, i32_w]
       rfl
      refine pure_ (i := 2) (N := some 140) (v := ?_) (a' := ?_) #[false, true, true, false, false, false, false, false, false, false, false, false, false, false, false, false, false] rfl rfl (any_of HT_.out (by kernel_rfl)) (fun _ _ _ h => h) (Or.inl ⟨by rfl, ?_⟩) ?_ ?_
      rotate_left
      ·intro w'
       go_simp
       with_reducible rfl
      rotate_left
      ·simp only [Act.put, List.setIfInBounds_toArray, List.set_cons_zero, List.set_cons_succ, i64_w, i32_w]
       rfl
      refine pure_ (i := 3) (N := some 141) (v := ?_) (a' := ?_) #[false, true, true, true, false, false, false, false, false, false, false, false, false, false, false, false, false] rfl rfl (any_of HT_.out (by kernel_rfl)) (fun _ _ _ h => h) (Or.inl ⟨by rfl, ?_⟩) ?_ ?_
      rotate_left
      ·intro w'
       go_simp
       with_reducible rfl
      rotate_left
      ·simp only [Act.put, List.setIfInBounds_toArray, List.set_cons_zero, List.set_cons_succ, i64_w, i32_w]
       rfl
      refine pure_ (i := 4) (N := some 142) (v := undef) (a' := ?_) #[false, true, true, true, true, false, false, false, false, false, false, false, false, false, false, false, false] rfl rfl (any_of HT_.out (by kernel_rfl)) (fun _ _ _ h => h) (Or.inr ⟨by rfl, rfl⟩) ?_ ?_
      rotate_left
      ·simp only [Act.put, List.setIfInBounds_toArray, List.set_cons_zero, List.set_cons_succ, i64_w, i32_w]
       rfl
      refine pure_ (i := 5) (N := some 143) (v := undef) (a' := ?_) #[false, true, true, true, true, true, false, false, false, false, false, false, false, false, false, false, false] rfl rfl (any_of HT_.out (by kernel_rfl)) (fun _ _ _ h => h) (Or.inr ⟨by rfl, rfl⟩) ?_ ?_
      rotate_left
      ·simp only [Act.put, List.setIfInBounds_toArray, List.set_cons_zero, List.set_cons_succ, i64_w, i32_w]
       rfl
      refine pure_ (i := 6) (N := some 144) (v := undef) (a' := ?_) #[false, true, true, true, true, true, true, false, false, false, false, false, false, false, false, false, false] rfl rfl (any_of HT_.out (by kernel_rfl)) (fun _ _ _ h => h) (Or.inr ⟨by rfl, rfl⟩) ?_ ?_
      rotate_left
      ·simp only [Act.put, List.setIfInBounds_toArray, List.set_cons_zero, List.set_cons_succ, i64_w, i32_w]
       rfl
      refine pure_ (i := 7) (N := some 145) (v := undef) (a' := ?_) #[false, true, true, true, true, true, true, true, false, false, false, false, false, false, false, false, false] rfl rfl (any_of HT_.out (by kernel_rfl)) (fun _ _ _ h => h) (Or.inr ⟨by rfl, rfl⟩) ?_ ?_
      rotate_left
      ·simp only [Act.put, List.setIfInBounds_toArray, List.set_cons_zero, List.set_cons_succ, i64_w, i32_w]
       rfl
      refine pure_ (i := 8) (N := some 146) (v := undef) (a' := ?_) #[false, true, true, true, true, true, true, true, true, false, false, false, false, false, false, false, false] rfl rfl (any_of HT_.out (by kernel_rfl)) (fun _ _ _ h => h) (Or.inr ⟨by rfl, rfl⟩) ?_ ?_
      rotate_left
      ·simp only [Act.put, List.setIfInBounds_toArray, List.set_cons_zero, List.set_cons_succ, i64_w, i32_w]
       rfl
      refine pure_ (i := 9) (N := some 147) (v := undef) (a' := ?_) #[false, true, true, true, true, true, true, true, true, true, false, false, false, false, false, false, false] rfl rfl (any_of HT_.out (by kernel_rfl)) (fun _ _ _ h => h) (Or.inr ⟨by rfl, rfl⟩) ?_ ?_
      rotate_left
      ·simp only [Act.put, List.setIfInBounds_toArray, List.set_cons_zero, List.set_cons_succ, i64_w, i32_w]
       rfl
      refine pure_ (i := 10) (N := some 148) (v := undef) (a' := ?_) #[false, true, true, true, true, true, true, true, true, true, true, false, false, false, false, false, false] rfl rfl (any_of HT_.out (by kernel_rfl)) (fun _ _ _ h => h) (Or.inr ⟨by rfl, rfl⟩) ?_ ?_
      rotate_left
      ·simp only [Act.put, List.setIfInBounds_toArray, List.set_cons_zero, List.set_cons_succ, i64_w, i32_w]
       rfl
      refine pure_ (i := 11) (N := some 149) (v := undef) (a' := ?_) #[false, true, true, true, true, true, true, true, true, true, true, true, false, false, false, false, false] rfl rfl (any_of HT_.out (by kernel_rfl)) (fun _ _ _ h => h) (Or.inr ⟨by rfl, rfl⟩) ?_ ?_
      rotate_left
      ·simp only [Act.put, List.setIfInBounds_toArray, List.set_cons_zero, List.set_cons_succ, i64_w, i32_w]
       rfl
      refine pure_ (i := 12) (N := some 150) (v := undef) (a' := ?_) #[false, true, true, true, true, true, true, true, true, true, true, true, true, false, false, false, false] rfl rfl (any_of HT_.out (by kernel_rfl)) (fun _ _ _ h => h) (Or.inr ⟨by rfl, rfl⟩) ?_ ?_
      rotate_left
      ·simp only [Act.put, List.setIfInBounds_toArray, List.set_cons_zero, List.set_cons_succ, i64_w, i32_w]
       rfl
      refine pure_ (i := 13) (N := some 151) (v := undef) (a' := ?_) #[false, true, true, true, true, true, true, true, true, true, true, true, true, true, false, false, false] rfl rfl (any_of HT_.out (by kernel_rfl)) (fun _ _ _ h => h) (Or.inr ⟨by rfl, rfl⟩) ?_ ?_
      rotate_left
      ·simp only [Act.put, List.setIfInBounds_toArray, List.set_cons_zero, List.set_cons_succ, i64_w, i32_w]
       rfl
      refine pure_ (i := 14) (N := some 152) (v := ?_) (a' := ?_) #[false, true, true, true, true, true, true, true, true, true, true, true, true, true, true, false, false] rfl rfl (any_of HT_.out (by kernel_rfl)) (fun _ _ _ h => h) (Or.inl ⟨by rfl, ?_⟩) ?_ ?_
      rotate_left
      ·intro w'
       go_simp
       with_reducible rfl
      rotate_left
      ·simp only [Act.put, List.setIfInBounds_toArray, List.set_cons_zero, List.set_cons_succ, i64_w, i32_w]
       rfl
      refine take_ (i := 0) (N := some 138) (v := ?_) (a' := ?_) #[true, true, true, true, true, true, true, true, true, true, true, true, true, true, true, false, false] rfl rfl (take_ofW HT_.out HW_.out (by kernel_rfl)) (fun _ _ _ h => h) (Or.inl ⟨by rfl, ?_⟩) hHeld ?_ ?_
      rotate_left
      ·rintro w' ⟨s0, s1⟩
       go_simp
       with_reducible rfl
      rotate_left
      ·simp only [Act.put, List.setIfInBounds_toArray, List.set_cons_zero, List.set_cons_succ, i64_w, i32_w]
       rfl
      refine one_ (i := 15) (N := none) #[true, true, true, true, true, true, true, true, true, true, true, true, true, true, true, true, false] rfl rfl (one_of HT_.out (by kernel_rfl)) (by decide) (fun K hK => ?_)
      refine skip_ (w1 := ?_) (by rfl) rfl ?_ ?_
      rotate_left
      ·go_simp
       rfl
      refine hK.out _ _ ⟨((cell_far (p := ⟨gr, _, none⟩) hn1 _).trans ((cell_far (p := ⟨gr, _, none⟩) hn1 _).trans (hHeld.1))), ((cell_far (p := ⟨gr, _, none⟩) hn1 _).trans ((cell_far (p := ⟨gr, _, none⟩) hn1 _).trans (hHeld.2)))⟩ (fun hHeld => ?_)
      clear hK K
      refine pure_ (i := 16) (N := some 5) (v := ?_) (a' := ?_) #[true, true, true, true, true, true, true, true, true, true, true, true, true, true, true, true, true] rfl rfl (any_of HT_.out (by kernel_rfl)) (fun _ _ _ h => h) (Or.inl ⟨by rfl, ?_⟩) ?_ ?_
      rotate_left
      ·intro w'
       go_simp
       with_reducible rfl
      rotate_left
      ·simp only [Act.put, List.setIfInBounds_toArray, List.set_cons_zero, List.set_cons_succ, i64_w, i32_w]
       rfl
      refine done_ (done_of HT_.out (by kernel_rfl)) ?_
      try go_wp2
      have D9 := HD8.out.ans (.slice AN L.length cN) (.slice AK Ks.length cK)
      have hd : doI wordB valueB L Ks line = none := HDO.out.trans (by rw [if_neg (fun e => hse ((toList_lit _ _).mpr e)), if_pos ((toList_lit _ _).mp hne), if_neg (fun h => absurd (hiff.out.mpr h.1) (by omega))])
      refine bodyPost_ret (results_ct rfl _ _ gr 77 #[.slice AN L.length cN, .slice AK Ks.length cK] (0, 0) _ rfl D9.br Tryd.underlying77 rfl (by kernel_rfl)) rfl ?_
      exact D9.no hd
    ·have hs1 : (p0.toList == [110, 101, 101, 100]) = false := beq_eq_false_iff_ne.mpr hne
     go_wp2_with (first | (go_at_call 63; (with_reducible refine (spec_l19At.calls ka AN cN L p1 t _ (Kd.R_reads' HD5.out.cs.now).2.2 (Kd.R_reads' HD5.out.cs.now).2.1 HKA.out).mono ?_); rintro e w6 ⟨rfl, hz6⟩; have hb6 := below_drawn hz6; clear hz6; have D_ := HD5.out.below hb6; replace hx0 := (hb6.cell (World.block_lt_of_cell? w5 _ hx0)).trans hx0; replace hx1 := (hb6.cell (World.block_lt_of_cell? w5 _ hx1)).trans hx1; replace hx2 := (hb6.cell (World.block_lt_of_cell? w5 _ hx2)).trans hx2; clear qa qb qc qd fa fb fc fd; have qa : w6.cell? ⟨gb, 0, none⟩ = some (.slice AN L.length cN) := (blk_cell D_.bx 0).trans rfl; have qb : w6.cell? ⟨gb, 1, none⟩ = some (.slice AK Ks.length cK) := (blk_cell D_.bx 1).trans rfl; have qc : w6.cell? ⟨gr, 0, none⟩ = some (.slice none 0 0) := (blk_cell D_.br 0).trans rfl; have qd : w6.cell? ⟨gr, 1, none⟩ = some (.slice none 0 0) := (blk_cell D_.br 1).trans rfl; have fa := blk_frozen D_.bx 0; have fb := blk_frozen D_.bx 1; have fc := blk_frozen D_.br 0; have fd := blk_frozen D_.br 1; have HD6 := Aside0.mk D_; clear D_; clear hb6) | (go_at_call 43; (with_reducible refine (CVL.out _).mono ?_); rintro e w7 ⟨rfl, hz7⟩; have hb7 := below_drawn hz7; clear hz7; have D_ := HD6.out.below hb7; replace hx0 := (hb7.cell (World.block_lt_of_cell? w6 _ hx0)).trans hx0; replace hx1 := (hb7.cell (World.block_lt_of_cell? w6 _ hx1)).trans hx1; replace hx2 := (hb7.cell (World.block_lt_of_cell? w6 _ hx2)).trans hx2; clear qa qb qc qd fa fb fc fd; have qa : w7.cell? ⟨gb, 0, none⟩ = some (.slice AN L.length cN) := (blk_cell D_.bx 0).trans rfl; have qb : w7.cell? ⟨gb, 1, none⟩ = some (.slice AK Ks.length cK) := (blk_cell D_.bx 1).trans rfl; have qc : w7.cell? ⟨gr, 0, none⟩ = some (.slice none 0 0) := (blk_cell D_.br 0).trans rfl; have qd : w7.cell? ⟨gr, 1, none⟩ = some (.slice none 0 0) := (blk_cell D_.br 1).trans rfl; have fa := blk_frozen D_.bx 0; have fb := blk_frozen D_.bx 1; have fc := blk_frozen D_.br 0; have fd := blk_frozen D_.br 1; have HD7 := Aside0.mk D_; clear D_; clear hb7))
     have D9 := HD7.out.ans (.slice AN L.length cN) (.slice AK Ks.length cK)
     have hd : doI wordB valueB L Ks line = none := HDO.out.trans (by rw [if_neg (fun e => hse ((toList_lit _ _).mpr e)), if_neg (fun e => hne ((toList_lit _ _).mpr e))])
     refine bodyPost_ret (results_ct rfl _ _ gr 77 #[.slice AN L.length cN, .slice AK Ks.length cK] (0, 0) _ rfl D9.br Tryd.underlying77 rfl (by kernel_rfl)) rfl ?_
     exact D9.no hd
/-! ### spec.Configure -/
/-- The lines, one by one; none: what was given stays. -/
def confL (L : List S38) (K : List (List S38)) : List ByteArray → ByteArray → Nat → Option (List S38) × Nat
 | [], rest, n => if rest ≠ ⟨#[]⟩ ∨ 0 < K.length then (none, n) else (some L, 0)
 | c :: cs, rest, n => match doI wordB valueB L K c with
  | some s => confL s.1 s.2 cs rest (n + 1)
  | none => (none, n)
theorem do_calls (F : Plain) (w0 w : World) (vN vK : Value) (L : List S38) (Hs : List Hd) (Ks : List (List S38)) (line : ByteArray) (c : Cs w0 w vN L vK Hs Ks) (hk4 : Ks.length ≤ 4) (hs : line.size ≤ 3000) :
  Calls Tryd.prog 40 #[.agg #[vN, vK], .string line] w (DoPost w0 w vK L Ks line) := by
 rcases hP : pieces line with _ | ⟨p0, _ | ⟨p1, _ | ⟨p2, _ | ⟨p3, ps⟩⟩⟩⟩
 ·have := pieces_pos line
  rw [hP] at this
  exact absurd this (by decide)
 ·obtain rfl := (pieces_one hP).symm
  by_cases hK : Ks = []
  ·exact do_one0 F w0 w vN vK L Hs Ks line c hk4 hs hP hK
  ·exact do_one1 F w0 w vN vK L Hs Ks line c hk4 hs hP hK
 ·exact do_two F w0 w vN vK L Hs Ks line c hk4 hs p0 p1 hP
 ·exact do_three F w0 w vN vK L Hs Ks line c hk4 hs p0 p1 p2 hP
 ·exact do_four F w0 w vN vK L Hs Ks line c hk4 hs p0 p1 p2 p3 ps hP
theorem doI_k4 {L L' : List S38} {Ks Ks' : List (List S38)} {line : ByteArray} (h : doI wordB valueB L Ks line = some (L', Ks')) (hk : Ks.length ≤ 4) : Ks'.length ≤ 4 := by
 unfold doI at h
 split at h
 ·split at h
  ·injection h with h; injection h with _ h; rw [← h]; exact hk
  ·cases h
 split at h
 ·split at h
  ·injection h with h; injection h with _ h; rw [← h]; exact hk
  ·cases h
 split at h
 ·split at h
  ·injection h with h; injection h with _ h; rw [← h, List.length_append, List.length_singleton]; omega
  ·cases h
 split at h
 ·split at h
  ·injection h with h; injection h with _ h; rw [← h, List.length_dropLast]; omega
  ·cases h
 split at h
 ·split at h
  ·injection h with h; injection h with _ h; rw [← h]; exact hk
  ·cases h
 ·cases h
/-- What stands beside the state: its box, what was given, the lines. -/
structure Fr (w W : World) (gs : Nat) (a b vF : Value) (l0 : List S38) (vL : Value) (ls : List ByteArray) : Prop where
 bel : Below w.heap.size w W
 bx : W.heap[gs]? = some (.cells #[a, b] 77 (0, 0))
 ge : w.heap.size ≤ gs
 first : Kd.R k38 38 W w.heap.size (fun _ => True) vF l0
 lines : Kd.R Kd.string 9 W w.heap.size (fun _ => True) vL ls
/-- What a line's answer is. -/
def DoR (w W : World) (L : List S38) (Ks : List (List S38)) (line : ByteArray) (vN' vK' : Value) (ok : Bool) : Prop :=
 (∃ s Hs', doI wordB valueB L Ks line = some s ∧ ok = true ∧ Cs w W vN' s.1 vK' Hs' s.2) ∨ (doI wordB valueB L Ks line = none ∧ ok = false)
section
variable {w W W' : World} {gs gn : Nat} {a b vF vL vN vK : Value} {l0 L : List S38} {ls : List ByteArray} {Hs : List Hd} {Ks : List (List S38)} {line : ByteArray} {ok : Bool} {cs : Array Value}
theorem Fr.below (f : Fr w W gs a b vF l0 vL ls) (hB : Below W.heap.size W W') : Fr w W' gs a b vF l0 vL ls :=
 ⟨below_step f.bel hB, blk_below f.bx hB, f.ge, Kd.R_below f.first hB, Kd.R_below f.lines hB⟩
theorem R_past {α : Type} {kd : Kd α} {e base t : Nat} {ok : Nat → Prop} {v u : Value} {xs : List α} (h : Kd.R kd e W base ok v xs) (hk : Kept W W' (fun k => some k = u.ownBlock)) (hty : ∀ k, u.ownBlock = some k → ∃ cells, W.heap[k]? = some (.cells cells t (0, 0))) (ht : ∀ q, q ∈ e :: kd.E → q ≠ t) : Kd.R kd e W' base ok v xs := by
 cases hu : u.ownBlock with
 | none => exact Kd.R_step h (fun k _ hl => hk.2 k hl (by rw [hu]; simp))
 | some g =>
  obtain ⟨cells, hc⟩ := hty g hu
  exact Kd.R_mono (Kd.R_step (Kd.R_types h hc ht) (fun k ho hl => hk.2 k hl (by rw [hu]; intro e; injection e with e; exact ho.2 e))) (fun _ h_ => h_.1)
/-- Past a call of spec.l19Do. -/
theorem Fr.past (f : Fr w W gs a b vF l0 vL ls) (c : Cs w W vN L vK Hs Ks) (hk : Kept W W' (fun k => some k = vK.ownBlock)) (hb : Below w.heap.size w W') : Fr w W' gs a b vF l0 vL ls :=
 ⟨hb, blk_kept f.bx hk (Kd.R_ne c.row f.bx (by decide)), f.ge, R_past f.first hk (Kd.R_typed c.row) (by decide), R_past f.lines hk (Kd.R_typed c.row) (by decide)⟩
/-- Another box is written. -/
theorem Fr.far (f : Fr w W gs a b vF l0 vL ls) (hn : W.heap[gn]? = some (.cells cs 77 (0, 0))) (hg : w.heap.size ≤ gn) (hne : gs ≠ gn) (j : Nat) (x : Value) : Fr w (W.setCell ⟨gn, j, none⟩ x) gs a b vF l0 vL ls :=
 ⟨below_set f.bel hg, blk_far f.bx hne x, f.ge, R_set f.first hn (by decide) j x, R_set f.lines hn (by decide) j x⟩
/-- The state's box is written. -/
theorem Fr.put (f : Fr w W gs a b vF l0 vL ls) (p q : Value) : Fr w ((W.setCell ⟨gs, 0, none⟩ p).setCell ⟨gs, 1, none⟩ q) gs p q vF l0 vL ls := by
 have h1 := blk_put (cs' := #[p, b]) f.bx 0 p rfl
 exact ⟨below_set (below_set f.bel f.ge) f.ge, blk_put h1 1 q rfl, f.ge, R_set (R_set f.first f.bx (by decide) 0 p) h1 (by decide) 1 q, R_set (R_set f.lines f.bx (by decide) 0 p) h1 (by decide) 1 q⟩
theorem DoR.below (h : DoR w W L Ks line vN vK ok) (hB : Below W.heap.size W W') : DoR w W' L Ks line vN vK ok := by
 rcases h with ⟨s, Hs', h1, h2, h3⟩ | h
 ·exact .inl ⟨s, Hs', h1, h2, h3.below hB⟩
 ·exact .inr h
theorem DoR.put (h : DoR w W L Ks line vN vK ok) (hb : W.heap[gn]? = some (.cells cs 77 (0, 0))) (hg : w.heap.size ≤ gn) (j : Nat) (x : Value) : DoR w (W.setCell ⟨gn, j, none⟩ x) L Ks line vN vK ok := by
 rcases h with ⟨s, Hs', h1, h2, h3⟩ | h
 ·exact .inl ⟨s, Hs', h1, h2, h3.put hb hg j x⟩
 ·exact .inr h
end
def spT9 : Bool × List (List Nat × List Nat) := (true, [([], []), ([], []), ([], []), ([1, 2], [1, 2]), ([3], [3]), ([0, 4], [0, 4]), ([5], [5]), ([6], [6]), ([6], [6]), ([], []), ([9, 7, 5, 0, 1, 2, 3, 4, 5, 6, 7, 9], [7, 9]), ([8, 10, 0, 1, 2, 3, 4, 5, 6, 7, 8, 9, 10], [8])])
def spB9 : List Nat := [0, 0, 0, 6, 14, 31, 63, 127, 127, 0, 767, 2047]
theorem sp_tab9 : rtab .any (opsOf Tryd.f16 9) = spT9 := by kernel_rfl
theorem sp_bits9 : waitsOk spT9.2 spB9 = true := by kernel_rfl
set_option maxHeartbeats 4000000 in
set_option maxRecDepth 100000 in
theorem spec_main (F : Plain) (A0 : Option Addr) (c0 : Nat) (l0 : List S38) (text : ByteArray) (w : World) (hr0 : Kd.C k38 w A0 l0.length l0) (hc0 : l0.length ≤ c0)
  (hS : ∀ w1, Below w.heap.size w w1 → Calls Tryd.prog 20 #[.slice A0 l0.length c0] w1 fun e w' => e = .returned (.bool true) ∧ Below w1.heap.size w1 w') (hf0 : Fit l0) (hts : text.size ≤ 3000)
  (ls : List ByteArray) (rest : ByteArray) (hL : ∃ k, spec_l4Lines.f k text = some (ls, rest)) (hls : ∀ c ∈ ls, c.size ≤ 3000) (hln : ls.length ≤ 3000) (heq : confI wordB valueB (text.size + 1) l0 [] text 1 = confL l0 [] ls rest 1) :
  Calls Tryd.prog 16 #[.slice A0 l0.length c0, .string text] w fun e w' => ∃ v, e = .returned (.tuple #[v, .int .i64 (confO l0 text).2]) ∧ Kd.R k38 38 w' w.heap.size (fun _ => True) v (confO l0 text).1 ∧ Below w.heap.size w w' := by
 have hn0 := hf0.good.len
 obtain ⟨kl, hkl⟩ := hL
 have CS := Aside0.mk hS
 have CL := Aside0.mk (fun W => spec_l4Lines.calls kl text ls rest W hkl)
 have HR := Aside0.mk hr0
 have HF := Aside0.mk F
 have HFT := Aside0.mk hf0
 have HLS := Aside0.mk hls
 have HEQ := Aside0.mk heq
 have hq1 : ((3000 : Int) < (text.size : Int)) = False := eq_false (by omega)
 clear hS hkl hr0 F hf0 hls heq
 go_enter Tryd.func16, Tryd.ntmps16
 go_upto_region 6 with (first
  | ((with_reducible refine gate_dst (N := 13) rfl ?_); refine Kd.R_lit k38 _ 38 ?hg (N := 13) ?hd (xs := ([] : List S38)) (inner := []) (ok := fun _ => True) (okp := fun _ => True) ?hr ?hp (fun _ hk => hk) trivial (Below.refl _ _) (Nat.le_refl _) (by simp) ?_; (case hd => rfl); (case hg => rfl); (case hr => first | (go_simp; done) | (go_simp; rfl)); (case hp => exact (Reps.none _ _)); intro v1 w1 ho1 hb1 hg_ hnew_; clear hg_ hnew_; have HO1 := Aside0.mk ho1; have HB1 := Aside0.mk hb1; clear ho1 hb1)
  | ((with_reducible refine gate_builtin (b := .append) (xs := #[.tmp 13, .tmp 14]) rfl ?_); at_builtin; refine Kd.R_append_rows k38 (w0 := w) w.heap.size rfl (.tmp 13) (.tmp 14) 25 38 (.agg #[(.string ⟨#[]⟩), (.string ⟨#[]⟩)]) 32 rfl Tryd.underlying25 info38 rfl (by decide) (by omega) v1 [] l0 _ _ _ (fun _ => True) (fun _ => False) rfl rfl ?aO ?aR (fun _ _ h => h) (fun _ h => h.elim) ?aF ?aB ?aS ?aL ?_; (case aR => exact Kd.C_below HR.out HB1.out); (case aB => exact HB1.out); (case aF => exact fun _ _ => trivial); (case aO => exact HO1.out); (case aS => exact HB1.out.size); (case aL => simp; omega); intro v2 w2 ho2 hb2 hg2 hat2; rw [List.nil_append] at ho2; have HO2 := Aside0.mk ho2; have HB2 := Aside0.mk hb2; clear ho2 hb2 hg2 hat2)
  | (go_at_call 20; (with_reducible refine (CS.out _ HB2.out).mono ?_); rintro e w3 ⟨rfl, hb3⟩; have HB3 := Aside0.mk (below_step HB2.out hb3); have HO3 := Aside0.mk (Kd.R_below HO2.out hb3); clear hb3)
  | (go_at_call 39; (with_reducible refine (CL.out _).mono ?_); rintro e w4 ⟨v4, rfl, ho4, hb4⟩; have HB4 := Aside0.mk (below_step HB3.out hb4); have HO4 := Aside0.mk (Kd.R_below HO3.out hb4); have HL4 := Aside0.mk (Kd.R_lower ho4 HB3.out.size); clear ho4 hb4)
  | ((with_reducible refine gate_dst (N := 30) rfl ?_); refine Kd.R_lit k38 _ 38 ?hg (N := 30) ?hd (xs := ([] : List S38)) (inner := []) (ok := fun _ => True) (okp := fun _ => True) ?hr ?hp (fun _ hk => hk) trivial (Below.refl _ _) (Nat.le_refl _) (by simp) ?_; (case hd => rfl); (case hg => rfl); (case hr => first | (go_simp; done) | (go_simp; rfl)); (case hp => exact (Reps.none _ _)); intro v5 w5 ho5 hb5 hg_ hnew_; clear hg_ hnew_; have HF5 := Aside0.mk (Kd.R_elder' HO4.out (Kd.R_base ho5) hb5); have HO5 := Aside0.mk (Kd.R_lower ho5 HB4.out.size); have HB5 := Aside0.mk (below_step HB4.out hb5); have HL5 := Aside0.mk (Kd.R_below HL4.out hb5); clear ho5 hb5)
  | ((with_reducible refine gate_builtin (b := .append) (xs := #[.tmp 30, .tmp 31]) rfl ?_); at_builtin; refine Kd.R_append_rows k38 (w0 := w) w.heap.size rfl (.tmp 30) (.tmp 31) 25 38 (.agg #[(.string ⟨#[]⟩), (.string ⟨#[]⟩)]) 32 rfl Tryd.underlying25 info38 rfl (by decide) (by omega) v5 [] l0 _ _ _ (fun _ => True) (fun _ => False) rfl rfl ?aO ?aR (fun _ _ h => h) (fun _ h => h.elim) ?aF ?aB ?aS ?aL ?_; (case aR => exact Kd.C_below HR.out HB5.out); (case aB => exact HB5.out); (case aF => exact fun _ _ => trivial); (case aO => exact HO5.out); (case aS => exact HB5.out.size); (case aL => simp; omega); intro v6 w6 ho6 hb6 hg6 hat6; rw [List.nil_append] at ho6; obtain ⟨A6, c6, e6⟩ := Kd.R_slice ho6; subst e6; have HO6 := Aside0.mk ho6; have HB6 := Aside0.mk hb6; have HF6 := Aside0.mk (Kd.R_mono (Kd.R_grown HF5.out hg6 (fun k hk => hk.2)) (fun _ h_ => h_.1)); have HL6 := Aside0.mk (Kd.R_over' HL5.out (Kd.R_typed HO5.out) (by decide) hg6); clear ho6 hb6 hg6 hat6)
  | ((with_reducible refine gate_dst (N := 9) rfl ?_); refine box_event ?hg (N := 9) ?hd (cs := #[.slice none 0 0, .slice none 0 0]) (t := 77) ?hr ?_; (case hd => rfl); (case hg => rfl); (case hr => first | (go_simp; done) | (go_simp; rfl)); intro gs hgs w7 hbx hb7; have HGS := Aside0.mk (show w.heap.size ≤ gs by rw [hgs]; exact HB6.out.size); have HB7 := Aside0.mk (below_step HB6.out hb7); have HO7 := Aside0.mk (Kd.R_below HO6.out hb7); have HF7 := Aside0.mk (Kd.R_below HF6.out hb7); have HL7 := Aside0.mk (Kd.R_below HL6.out hb7); have HBX := Aside0.mk hbx; have qa : w7.cell? ⟨gs, 0, none⟩ = some (.slice none 0 0) := (blk_cell hbx 0).trans rfl; have qb : w7.cell? ⟨gs, 1, none⟩ = some (.slice none 0 0) := (blk_cell hbx 1).trans rfl; have fa := blk_frozen hbx 0; have fb := blk_frozen hbx 1; clear hgs hbx hb7))
 have f7 : Fr w w7 gs (.slice none 0 0) (.slice none 0 0) v2 l0 v4 ls := ⟨HB7.out, HBX.out, HGS.out, HF7.out, HL7.out⟩
 have f8 := f7.put (.slice A6 l0.length c6) (.slice none 0 0)
 have c7 : Cs w w7 (.slice A6 l0.length c6) l0 (.slice none 0 0) [] [] := ⟨HB7.out, HO7.out, Kd.R_nil _ _ _ _ _, rfl, fun p hp => by simp at hp, HFT.out⟩
 have c8 := (c7.put f7.bx f7.ge 0 (.slice A6 l0.length c6)).put (blk_put (cs' := #[.slice A6 l0.length c6, .slice none 0 0]) f7.bx 0 _ rfl) f7.ge 1 (.slice none 0 0)
 obtain ⟨A4, cp4, e4⟩ := Kd.R_slice HL7.out
 subst e4
 have HI : Aside0 (Fr w _ gs _ _ v2 l0 _ ls ∧ Cs w _ _ l0 _ [] [] ∧ ([] : List (List S38)).length ≤ 4 ∧ confL l0 [] (ls.drop 0) rest (0 + 1) = confL l0 [] ls rest 1) := ⟨f8, c8, by decide, by rw [List.drop_zero]⟩
 clear f7 f8 c7 c8 qa qb fa fb HO1 HO2 HO3 HO4 HO5 HO6 HO7 HB1 HB2 HB3 HB4 HB5 HB6 HB7 HF5 HF6 HF7 HL4 HL5 HL6 HL7 HBX CS CL HR
 go_wp2_with (fail)
 go_loopg [10] ls.length (fun gk v10 wr => ∃ (i : Nat) (L : List S38) (vN vK : Value) (Hs : List Hd) (Ks : List (List S38)), v10 = .int .i64 i ∧ i + gk = ls.length ∧ Aside0 (Fr w wr gs vN vK v2 l0 (.slice A4 ls.length cp4) ls ∧ Cs w wr vN L vK Hs Ks ∧ Ks.length ≤ 4 ∧ confL L Ks (ls.drop i) rest (i + 1) = confL l0 [] ls rest 1))
 case atStart => exact ⟨0, _, _, _, _, _, rfl, by omega, HI⟩
 case round =>
  clear HI
  obtain ⟨i, L, vN, vK, Hs, Ks, rfl, hi, HX⟩ := hrel
  obtain ⟨AN, cN, eN⟩ := Kd.R_slice HX.out.2.1.now
  subst eN
  obtain ⟨AK, cK, eK⟩ := Kd.R_slice HX.out.2.1.row
  rw [HX.out.2.1.len] at eK
  subst eK
  have qa : wr.cell? ⟨gs, 0, none⟩ = some (.slice AN L.length cN) := (blk_cell HX.out.1.bx 0).trans rfl
  have qb : wr.cell? ⟨gs, 1, none⟩ = some (.slice AK Ks.length cK) := (blk_cell HX.out.1.bx 1).trans rfl
  by_cases hlt : i < ls.length
  ·obtain ⟨g', rfl⟩ : ∃ g', gk = g' + 1 := ⟨gk - 1, by omega⟩
   obtain ⟨line, hline⟩ : ∃ x, ls[i] = x := ⟨_, rfl⟩
   have hli : ls[i]? = some line := by rw [List.getElem?_eq_getElem hlt, hline]
   obtain ⟨ad4, eA4, hx0⟩ := piece_at HX.out.1.lines i hli
   subst eA4
   have hdr : ls.drop i = line :: ls.drop (i + 1) := by rw [List.drop_eq_getElem_cons hlt, hline]
   have heq := HX.out.2.2.2
   rw [hdr] at heq
   have HE := Aside0.mk (HEQ.out.trans heq.symm)
   have hlz : line.size ≤ 3000 := HLS.out line (by rw [← hline]; exact List.getElem_mem hlt)
   have hX := HX.out.1
   have hC := HX.out.2.1
   have hk4 := HX.out.2.2.1
   have HLI := Aside0.mk hli
   have p1 : ((i : Int) < (ls.length : Int)) = True := eq_true (by omega)
   have p0 : ((0 : Int) ≤ (i : Int)) = True := eq_true (by omega)
   have p2 : (i < ls.length) = True := eq_true hlt
   have HW1 := Aside0.mk (show wrap64 ((i : Int) + 1) = ((i + 1 : Nat) : Int) from (w64 (by omega) (by omega)).trans (by omega))
   clear HX heq hdr hline hli qa qb hx0
   go_upto_region 9 with (fail)
   refine start_ (n := 12) (S := fun w' => Fr w w' gs (.slice AN L.length cN) (.slice AK Ks.length cK) v2 l0 (.slice (some ad4) ls.length cp4) ls) (ds := []) #[false, false, false, false, false, false, false, false, false, false, false, false] (by kernel_rfl) rfl rfl (hX.below (below_drew1 (Below.refl _ _))) (fun hX => ?_); refine with_tabW sp_tab9 sp_bits9 (fun HT_ HW_ => ?_)
   replace hC := hC.below (below_drew1 (Below.refl _ _))
   generalize wr.drew = W at hX hC ⊢
   refine take_ (i := 0) (N := some 41) (v := ?_) (a' := ?_) #[true, false, false, false, false, false, false, false, false, false, false, false] rfl rfl (take_ofW HT_.out HW_.out (by kernel_rfl)) (fun _ _ _ h => h) (Or.inl ⟨by rfl, ?_⟩) hX ?_ ?_
   rotate_left
   ·intro w' hS'
    have s0 : w'.cell? ⟨gs, 0, none⟩ = some (.slice AN L.length cN) := (blk_cell hS'.bx 0).trans rfl
    have s1 : w'.cell? ⟨gs, 1, none⟩ = some (.slice AK Ks.length cK) := (blk_cell hS'.bx 1).trans rfl
    obtain ⟨a_, e_, s3⟩ := piece_at hS'.lines i HLI.out
    obtain rfl := Option.some.inj e_
    go_simp
    with_reducible rfl
   rotate_left
   ·simp only [Act.put, List.setIfInBounds_toArray, List.set_cons_zero, List.set_cons_succ, i64_w, i32_w]
    rfl
   refine pure_ (i := 1) (N := some 42) (v := ?_) (a' := ?_) #[true, true, false, false, false, false, false, false, false, false, false, false] rfl rfl (any_of HT_.out (by kernel_rfl)) (fun _ _ _ h => h) (Or.inl ⟨by rfl, ?_⟩) ?_ ?_
   rotate_left
   ·intro w'
    go_simp
    with_reducible rfl
   rotate_left
   ·simp only [Act.put, List.setIfInBounds_toArray, List.set_cons_zero, List.set_cons_succ, i64_w, i32_w]
    rfl
   refine pure_ (i := 2) (N := some 43) (v := ?_) (a' := ?_) #[true, true, true, false, false, false, false, false, false, false, false, false] rfl rfl (any_of HT_.out (by kernel_rfl)) (fun _ _ _ h => h) (Or.inl ⟨by rfl, ?_⟩) ?_ ?_
   rotate_left
   ·intro w'
    go_simp
    with_reducible rfl
   rotate_left
   ·simp only [Act.put, List.setIfInBounds_toArray, List.set_cons_zero, List.set_cons_succ, i64_w, i32_w]
    rfl
   refine pure_ (i := 3) (N := some 44) (v := ?_) (a' := ?_) #[true, true, true, true, false, false, false, false, false, false, false, false] rfl rfl (any_of HT_.out (by kernel_rfl)) (fun _ _ _ h => h) (Or.inl ⟨by rfl, ?_⟩) ?_ ?_
   rotate_left
   ·intro w'
    go_simp
    with_reducible rfl
   rotate_left
   ·simp only [Act.put, List.setIfInBounds_toArray, List.set_cons_zero, List.set_cons_succ, i64_w, i32_w]
    rfl
   refine take_ (i := 4) (N := some 45) (v := ?_) (a' := ?_) #[true, true, true, true, true, false, false, false, false, false, false, false] rfl rfl (take_ofW HT_.out HW_.out (by kernel_rfl)) (fun _ _ _ h => h) (Or.inl ⟨by rfl, ?_⟩) hX ?_ ?_
   rotate_left
   ·intro w' hS'
    have s0 : w'.cell? ⟨gs, 0, none⟩ = some (.slice AN L.length cN) := (blk_cell hS'.bx 0).trans rfl
    have s1 : w'.cell? ⟨gs, 1, none⟩ = some (.slice AK Ks.length cK) := (blk_cell hS'.bx 1).trans rfl
    obtain ⟨a_, e_, s3⟩ := piece_at hS'.lines i HLI.out
    obtain rfl := Option.some.inj e_
    go_simp
    with_reducible rfl
   rotate_left
   ·simp only [Act.put, List.setIfInBounds_toArray, List.set_cons_zero, List.set_cons_succ, i64_w, i32_w]
    rfl
   refine join_ (σ := Hd × Hd × Bool × Nat) 2 #[true, true, true, true, true, true, true, true, true, true, false, false] (fun s_ => [(46, .tuple #[.agg #[.slice s_.1.1 s_.1.2.1 s_.1.2.2, .slice s_.2.1.1 s_.2.1.2.1 s_.2.1.2.2], .bool s_.2.2.1]), (40, .tuple #[.agg #[.slice s_.1.1 s_.1.2.1 s_.1.2.2, .slice s_.2.1.1 s_.2.1.2.1 s_.2.1.2.2], .bool s_.2.2.1]), (47, .agg #[.slice s_.1.1 s_.1.2.1 s_.1.2.2, .slice s_.2.1.1 s_.2.1.2.1 s_.2.1.2.2]), (48, .bool s_.2.2.1), (11, .pointer (some ⟨s_.2.2.2, 0, none⟩))]) (fun s_ w' => (Fr w w' gs (.slice AN L.length cN) (.slice AK Ks.length cK) v2 l0 (.slice (some ad4) ls.length cp4) ls) ∧ w'.heap[s_.2.2.2]? = some (.cells #[.slice none 0 0, .slice none 0 0] 77 (0, 0)) ∧ w.heap.size ≤ s_.2.2.2 ∧ gs ≠ s_.2.2.2 ∧ DoR w w' L Ks line (.slice s_.1.1 s_.1.2.1 s_.1.2.2) (.slice s_.2.1.1 s_.2.1.2.1 s_.2.1.2.2) s_.2.2.1) ?_ ?_
   rotate_left
   ·intro hCont
    refine two_ (i := 5) (j := 9) (Ni := some 46) (Nj := some 11) #[true, true, true, true, true, true, false, false, false, false, false, false] #[true, true, true, true, true, false, false, false, false, true, false, false] rfl rfl rfl rfl (two_of HT_.out (by kernel_rfl)) (by decide) (by decide) (fun K hK => ?_) (fun K hK => ?_)
    ·skip
     refine goes_ Tryd.func40 (by kernel_rfl) rfl #[.agg #[.slice AN L.length cN, .slice AK Ks.length cK], .string line] (by rfl) rfl rfl (by (try simp only [List.map_toArray, List.map_cons, List.map_nil]); first | done | rfl | (simp only [List.length_drop, List.length_take]; rfl)) ?_
     with_reducible refine (do_calls HF.out w _ (.slice AN L.length cN) (.slice AK Ks.length cK) L Hs Ks line hC hk4 hlz).mono ?_
     rintro e W1 ⟨A1, n1, c1, A2, n2, c2, ok, rfl, hk, hb, hor⟩
     refine ⟨_, rfl, ?_⟩
     replace hX := hX.past hC hk hb
     have hR : DoR w W1 L Ks line (.slice A1 n1 c1) (.slice A2 n2 c2) ok := hor
     clear hor hk hb
     refine hK.out _ _ hX (fun _ => ?_)
     clear hK K hC
     refine norm_ (a' := ?_) ?_ ?_
     rotate_left
     ·show Act.put _ (some 46) _ = _
      simp only [Act.put, List.setIfInBounds_toArray, List.set_cons_zero, List.set_cons_succ, i64_w, i32_w]
      rfl
     refine pure_ (i := 6) (N := some 40) (v := ?_) (a' := ?_) #[true, true, true, true, true, true, true, false, false, false, false, false] rfl rfl (any_of HT_.out (by kernel_rfl)) (fun _ _ _ h => h) (Or.inl ⟨by rfl, ?_⟩) ?_ ?_
     rotate_left
     ·intro w'
      go_simp
      with_reducible rfl
     rotate_left
     ·simp only [Act.put, List.setIfInBounds_toArray, List.set_cons_zero, List.set_cons_succ, i64_w, i32_w]
      rfl
     refine pure_ (i := 7) (N := some 47) (v := ?_) (a' := ?_) #[true, true, true, true, true, true, true, true, false, false, false, false] rfl rfl (any_of HT_.out (by kernel_rfl)) (fun _ _ _ h => h) (Or.inl ⟨by rfl, ?_⟩) ?_ ?_
     rotate_left
     ·intro w'
      go_simp
      with_reducible rfl
     rotate_left
     ·simp only [Act.put, List.setIfInBounds_toArray, List.set_cons_zero, List.set_cons_succ, i64_w, i32_w]
      rfl
     refine pure_ (i := 8) (N := some 48) (v := ?_) (a' := ?_) #[true, true, true, true, true, true, true, true, true, false, false, false] rfl rfl (any_of HT_.out (by kernel_rfl)) (fun _ _ _ h => h) (Or.inl ⟨by rfl, ?_⟩) ?_ ?_
     rotate_left
     ·intro w'
      go_simp
      with_reducible rfl
     rotate_left
     ·simp only [Act.put, List.setIfInBounds_toArray, List.set_cons_zero, List.set_cons_succ, i64_w, i32_w]
      rfl
     refine one_ (i := 9) (N := some 11) #[true, true, true, true, true, true, true, true, true, true, false, false] rfl rfl (one_of HT_.out (by kernel_rfl)) (by decide) (fun K hK => ?_)
     refine box_step ?hg (N := 11) ?hd (cs := #[.slice none 0 0, .slice none 0 0]) (t := 77) ?hr ?_; (case hd => rfl); (case hg => rfl); (case hr => first | (go_simp; done) | (go_simp; rfl))
     intro gn hgn WB hG kf
     have hge : w.heap.size ≤ gn := by rw [hgn]; exact hX.bel.size
     have hne : gs ≠ gn := by rw [hgn]; exact Nat.ne_of_lt (blk_lt hX.bx)
     clear hgn
     replace hX := hX.below kf
     replace hR := hR.below kf
     clear kf
     refine hK.out _ _ hX (fun _ => ?_)
     clear hK K
     refine norm_ (a' := ?_) ?_ ?_
     rotate_left
     ·show Act.put _ (some 11) _ = _
      simp only [Act.put, List.setIfInBounds_toArray, List.set_cons_zero, List.set_cons_succ, i64_w, i32_w]
      rfl
     exact norm_ (by simp only [putAll, Act.put, List.setIfInBounds_toArray, List.set_cons_zero, List.set_cons_succ]) (hCont ((A1, n1, c1), (A2, n2, c2), ok, gn) _ ⟨hX, hG, hge, hne, hR⟩)
    ·skip
     refine box_step ?hg (N := 11) ?hd (cs := #[.slice none 0 0, .slice none 0 0]) (t := 77) ?hr ?_; (case hd => rfl); (case hg => rfl); (case hr => first | (go_simp; done) | (go_simp; rfl))
     intro gn hgn WB hG kf
     have hge : w.heap.size ≤ gn := by rw [hgn]; exact hX.bel.size
     have hne : gs ≠ gn := by rw [hgn]; exact Nat.ne_of_lt (blk_lt hX.bx)
     clear hgn
     replace hX := hX.below kf
     replace hC := hC.below kf
     clear kf
     refine hK.out _ _ hX (fun _ => ?_)
     clear hK K
     refine norm_ (a' := ?_) ?_ ?_
     rotate_left
     ·show Act.put _ (some 11) _ = _
      simp only [Act.put, List.setIfInBounds_toArray, List.set_cons_zero, List.set_cons_succ, i64_w, i32_w]
      rfl
     refine one_ (i := 5) (N := some 46) #[true, true, true, true, true, true, false, false, false, true, false, false] rfl rfl (one_of HT_.out (by kernel_rfl)) (by decide) (fun K hK => ?_)
     refine goes_ Tryd.func40 (by kernel_rfl) rfl #[.agg #[.slice AN L.length cN, .slice AK Ks.length cK], .string line] (by rfl) rfl rfl (by (try simp only [List.map_toArray, List.map_cons, List.map_nil]); first | done | rfl | (simp only [List.length_drop, List.length_take]; rfl)) ?_
     with_reducible refine (do_calls HF.out w _ (.slice AN L.length cN) (.slice AK Ks.length cK) L Hs Ks line hC hk4 hlz).mono ?_
     rintro e W1 ⟨A1, n1, c1, A2, n2, c2, ok, rfl, hk, hb, hor⟩
     refine ⟨_, rfl, ?_⟩
     replace hG := blk_kept hG hk (Kd.R_ne hC.row hG (by decide))
     replace hX := hX.past hC hk hb
     have hR : DoR w W1 L Ks line (.slice A1 n1 c1) (.slice A2 n2 c2) ok := hor
     clear hor hk hb
     refine hK.out _ _ hX (fun _ => ?_)
     clear hK K hC
     refine norm_ (a' := ?_) ?_ ?_
     rotate_left
     ·show Act.put _ (some 46) _ = _
      simp only [Act.put, List.setIfInBounds_toArray, List.set_cons_zero, List.set_cons_succ, i64_w, i32_w]
      rfl
     refine pure_ (i := 6) (N := some 40) (v := ?_) (a' := ?_) #[true, true, true, true, true, true, true, false, false, true, false, false] rfl rfl (any_of HT_.out (by kernel_rfl)) (fun _ _ _ h => h) (Or.inl ⟨by rfl, ?_⟩) ?_ ?_
     rotate_left
     ·intro w'
      go_simp
      with_reducible rfl
     rotate_left
     ·simp only [Act.put, List.setIfInBounds_toArray, List.set_cons_zero, List.set_cons_succ, i64_w, i32_w]
      rfl
     refine pure_ (i := 7) (N := some 47) (v := ?_) (a' := ?_) #[true, true, true, true, true, true, true, true, false, true, false, false] rfl rfl (any_of HT_.out (by kernel_rfl)) (fun _ _ _ h => h) (Or.inl ⟨by rfl, ?_⟩) ?_ ?_
     rotate_left
     ·intro w'
      go_simp
      with_reducible rfl
     rotate_left
     ·simp only [Act.put, List.setIfInBounds_toArray, List.set_cons_zero, List.set_cons_succ, i64_w, i32_w]
      rfl
     refine pure_ (i := 8) (N := some 48) (v := ?_) (a' := ?_) #[true, true, true, true, true, true, true, true, true, true, false, false] rfl rfl (any_of HT_.out (by kernel_rfl)) (fun _ _ _ h => h) (Or.inl ⟨by rfl, ?_⟩) ?_ ?_
     rotate_left
     ·intro w'
      go_simp
      with_reducible rfl
     rotate_left
     ·simp only [Act.put, List.setIfInBounds_toArray, List.set_cons_zero, List.set_cons_succ, i64_w, i32_w]
      rfl
     exact norm_ (by simp only [putAll, Act.put, List.setIfInBounds_toArray, List.set_cons_zero, List.set_cons_succ]) (hCont ((A1, n1, c1), (A2, n2, c2), ok, gn) _ ⟨hX, hG, hge, hne, hR⟩)
   rintro ⟨⟨A1, n1, c1⟩, ⟨A2, n2, c2⟩, ok, gn⟩ W5 ⟨hX, hG, hge, hne, hR⟩
   refine norm_ (a' := ?_) ?_ ?_
   rotate_left
   ·simp only [putAll, Act.put, List.setIfInBounds_toArray, List.set_cons_zero, List.set_cons_succ]
    rfl
   refine one_ (i := 10) (N := none) #[true, true, true, true, true, true, true, true, true, true, true, false] rfl rfl (one_of HT_.out (by kernel_rfl)) (by decide) (fun K hK => ?_)
   have q0 : W5.cell? ⟨gn, 0, none⟩ = some (.slice none 0 0) := (blk_cell hG 0).trans rfl
   have q1 : W5.cell? ⟨gn, 1, none⟩ = some (.slice none 0 0) := (blk_cell hG 1).trans rfl
   have z0 := blk_frozen hG 0
   have z1 := blk_frozen hG 1
   refine skip_ (w1 := ?_) (by rfl) rfl ?_ ?_
   rotate_left
   ·go_simp
    rfl
   have hG1 := blk_put (cs' := #[.slice A1 n1 c1, .slice none 0 0]) hG 0 (.slice A1 n1 c1) rfl
   have hX6 := (hX.far hG hge hne 0 (.slice A1 n1 c1)).far hG1 hge hne 1 (.slice A2 n2 c2)
   have hR6 := (hR.put hG hge 0 (.slice A1 n1 c1)).put hG1 hge 1 (.slice A2 n2 c2)
   have hG6 := blk_put (cs' := #[.slice A1 n1 c1, .slice A2 n2 c2]) hG1 1 (.slice A2 n2 c2) rfl
   refine hK.out _ _ hX6 (fun _ => ?_)
   clear hK K hG hG1 hX hR q0 q1 z0 z1
   refine pure_ (i := 11) (N := some 12) (v := ?_) (a' := ?_) #[true, true, true, true, true, true, true, true, true, true, true, true] rfl rfl (any_of HT_.out (by kernel_rfl)) (fun _ _ _ h => h) (Or.inl ⟨by rfl, ?_⟩) ?_ ?_
   rotate_left
   ·intro w'
    go_simp
    with_reducible rfl
   rotate_left
   ·simp only [Act.put, List.setIfInBounds_toArray, List.set_cons_zero, List.set_cons_succ, i64_w, i32_w]
    rfl
   refine done_ (done_of HT_.out (by kernel_rfl)) ?_
   generalize ((W5.setCell ⟨gn, 0, none⟩ (.slice A1 n1 c1)).setCell ⟨gn, 1, none⟩ (.slice A2 n2 c2)) = W6 at hX6 hR6 hG6 ⊢
   have HX6 := Aside0.mk hX6
   have HR6 := Aside0.mk hR6
   clear hX6 hR6 HT_ HW_
   have q0 : W6.cell? ⟨gn, 0, none⟩ = some (.slice A1 n1 c1) := (blk_cell hG6 0).trans rfl
   have q1 : W6.cell? ⟨gn, 1, none⟩ = some (.slice A2 n2 c2) := (blk_cell hG6 1).trans rfl
   have s0 : W6.cell? ⟨gs, 0, none⟩ = some (.slice AN L.length cN) := (blk_cell HX6.out.bx 0).trans rfl
   have s1 : W6.cell? ⟨gs, 1, none⟩ = some (.slice AK Ks.length cK) := (blk_cell HX6.out.bx 1).trans rfl
   have z0 := blk_frozen HX6.out.bx 0
   have z1 := blk_frozen HX6.out.bx 1
   have hne2 := fun e : gn = gs => hne e.symm
   have HG6 := Aside0.mk hG6
   clear hG6
   cases ok
   ·go_wp2_with (fail)
    go_ret2
    have hd : doI wordB valueB L Ks line = none := HR6.out.elim (fun ⟨_, _, _, h, _⟩ => by cases h) (fun h => h.1)
    rw [confO_bad (n := i + 1) (HE.out.trans (by show (match doI wordB valueB L Ks line with | some s => _ | none => _) = _; rw [hd]))]
    exact ⟨_, by first | rfl | rw [HW1.out] | go_num, HX6.out.first, HX6.out.bel⟩
   ·obtain ⟨⟨L2, Ks2⟩, Hs2, hd, _, hC2⟩ : ∃ s Hs', doI wordB valueB L Ks line = some s ∧ true = true ∧ Cs w W6 (.slice A1 n1 c1) s.1 (.slice A2 n2 c2) Hs' s.2 := HR6.out.elim id (fun h => by cases h.2)
    have HC2 := Aside0.mk hC2
    clear hC2
    go_wp2_with (fail)
    go_roundg g'
    case measure => omega
    case rel =>
     have hb1 := blk_put (cs' := #[.slice A1 n1 c1, .slice AK Ks.length cK]) HX6.out.bx 0 (.slice A1 n1 c1) rfl
     exact ⟨i + 1, L2, _, _, Hs2, Ks2, by first | rfl | rw [HW1.out] | go_num, by omega, ⟨HX6.out.put (.slice A1 n1 c1) (.slice A2 n2 c2), (HC2.out.put HX6.out.bx HX6.out.ge 0 _).put hb1 HX6.out.ge 1 _, doI_k4 hd hk4, by rw [← HEQ.out, HE.out]; show _ = (match doI wordB valueB L Ks line with | some s => _ | none => _); rw [hd]⟩⟩
  ·obtain rfl : i = ls.length := by omega
   have heq := HX.out.2.2.2
   rw [List.drop_length] at heq
   have hp1 : ((ls.length : Int) < (ls.length : Int)) = False := eq_false (by omega)
   have HE := Aside0.mk (HEQ.out.trans heq.symm)
   clear heq
   have hTE := Aside0.mk (toList_lit rest [])
   go_wp2_with (fail)
   ·rename_i h1 h2
    go_ret2
    rw [confO_bad (HE.out.trans (if_pos (.inr h2)))]
    exact ⟨_, by first | rfl | go_num, HX.out.1.first, HX.out.1.bel⟩
   ·rename_i h1 h2
    go_ret2
    rw [confO_good (HE.out.trans (if_neg (by rw [not_or]; exact ⟨fun h => h (hTE.out.mp h1), h2⟩)))]
    exact ⟨_, rfl, HX.out.2.1.now, HX.out.2.1.bel⟩
   ·rename_i h1
    go_ret2
    rw [confO_bad (HE.out.trans (if_pos (.inl (fun h => h1 (hTE.out.mpr h)))))]
    exact ⟨_, by first | rfl | go_num, HX.out.1.first, HX.out.1.bel⟩
/-- What the contract asks of the settings and the text. -/
def SpecOk (l : List S38) (t : ByteArray) : Prop := Fine l ∧ t.size ≤ 2097152 ∧ ((∃ k, spec_SettingsOk.f k l = some true) → t.size ≤ 3000 → Fit l ∧ Plain ∧ ∃ ls rest, (∃ k, spec_l4Lines.f k t = some (ls, rest)) ∧ (∀ c ∈ ls, c.size ≤ 3000) ∧ ls.length ≤ 3000 ∧ confI wordB valueB (t.size + 1) l [] t 1 = confL l [] ls rest 1)
set_option maxHeartbeats 4000000 in
set_option maxRecDepth 100000 in
theorem spec_calls (k : Nat) (A0 : Option Addr) (c0 : Nat) (l0 : List S38) (a1 : ByteArray) (t : Bool) (w : World) (hr0 : Kd.C k38 w A0 l0.length l0) (hc0 : l0.length ≤ c0) (c : SpecOk l0 a1) (h1 : spec_SettingsOk.f k l0 = some t)
  (r1 : List S38) (r2 : Int) (h2 : (if t = true ∧ a1.size ≤ 3000 then some ((confO l0 a1).1, ((confO l0 a1).2 : Int)) else some (l0, -1)) = some (r1, r2)) :
  Calls Tryd.prog 16 #[.slice A0 l0.length c0, .string a1] w fun e w' => ∃ v0_ : Value, e = .returned (.tuple #[v0_, .int .i64 r2]) ∧ Kd.R k38 38 w' w.heap.size (fun _ => True) v0_ r1 ∧ Below w.heap.size w w' := by
 have hS : ∀ w1, Below w.heap.size w w1 → Calls Tryd.prog 20 #[.slice A0 l0.length c0] w1 fun e w' => e = .returned (.bool t) ∧ Below w1.heap.size w1 w' := fun w1 hb => spec_SettingsOk.calls k A0 c0 l0 t w1 (Kd.C_below hr0 hb) hc0 h1
 by_cases hg : t = true ∧ a1.size ≤ 3000
 ·rw [if_pos hg, Option.some.injEq, Prod.mk.injEq] at h2
  obtain ⟨rfl, rfl⟩ := h2
  obtain ⟨rfl, hs⟩ := hg
  obtain ⟨hf, hp, ls, rest, hL, hls, hln, heq⟩ := c.2.2 ⟨k, h1⟩ hs
  exact spec_main hp A0 c0 l0 a1 w hr0 hc0 hS hf hs ls rest hL hls hln heq
 ·rw [if_neg hg, Option.some.injEq, Prod.mk.injEq] at h2
  obtain ⟨rfl, rfl⟩ := h2
  have CS := Aside0.mk hS
  have HR := Aside0.mk hr0
  have hz := c.2.1
  have hn0 : l0.length ≤ 1048576 := c.1.1
  clear hS hr0 c h1
  cases t
  ·clear hg
   go_enter Tryd.func16, Tryd.ntmps16
   go_wp2_with (first
    | ((with_reducible refine gate_dst (N := 13) rfl ?_); refine Kd.R_lit k38 _ 38 ?hg (N := 13) ?hd (xs := ([] : List S38)) (inner := []) (ok := fun _ => True) (okp := fun _ => True) ?hr ?hp (fun _ hk => hk) trivial (Below.refl _ _) (Nat.le_refl _) (by simp) ?_; (case hd => rfl); (case hg => rfl); (case hr => first | (go_simp; done) | (go_simp; rfl)); (case hp => exact (Reps.none _ _)); intro v1 w1 ho1 hb1 hg_ hnew_; clear hg_ hnew_; have HO1 := Aside0.mk ho1; have HB1 := Aside0.mk hb1; clear ho1 hb1)
    | ((with_reducible refine gate_builtin (b := .append) (xs := #[.tmp 13, .tmp 14]) rfl ?_); at_builtin; refine Kd.R_append_rows k38 (w0 := w) w.heap.size rfl (.tmp 13) (.tmp 14) 25 38 (.agg #[(.string ⟨#[]⟩), (.string ⟨#[]⟩)]) 32 rfl Tryd.underlying25 info38 rfl (by decide) (by omega) v1 [] l0 _ _ _ (fun _ => True) (fun _ => False) rfl rfl ?aO ?aR (fun _ _ h => h) (fun _ h => h.elim) ?aF ?aB ?aS ?aL ?_; (case aR => exact Kd.C_below HR.out HB1.out); (case aB => exact HB1.out); (case aF => exact fun _ _ => trivial); (case aO => exact HO1.out); (case aS => exact HB1.out.size); (case aL => simp; omega); intro v2 w2 ho2 hb2 hg2 hat2; rw [List.nil_append] at ho2; have HO2 := Aside0.mk ho2; have HB2 := Aside0.mk hb2; clear ho2 hb2 hg2 hat2)
    | (go_at_call 20; (with_reducible refine (CS.out _ HB2.out).mono ?_); rintro e w3 ⟨rfl, hb3⟩; have HB3 := Aside0.mk (below_step HB2.out hb3); have HO3 := Aside0.mk (Kd.R_below HO2.out hb3); clear hb3))
   go_ret2
   exact ⟨_, rfl, HO3.out, HB3.out⟩
  ·have hq1 : ((3000 : Int) < (a1.size : Int)) = True := eq_true (by simp only [true_and] at hg; omega)
   clear hg
   go_enter Tryd.func16, Tryd.ntmps16
   go_wp2_with (first
    | ((with_reducible refine gate_dst (N := 13) rfl ?_); refine Kd.R_lit k38 _ 38 ?hg (N := 13) ?hd (xs := ([] : List S38)) (inner := []) (ok := fun _ => True) (okp := fun _ => True) ?hr ?hp (fun _ hk => hk) trivial (Below.refl _ _) (Nat.le_refl _) (by simp) ?_; (case hd => rfl); (case hg => rfl); (case hr => first | (go_simp; done) | (go_simp; rfl)); (case hp => exact (Reps.none _ _)); intro v1 w1 ho1 hb1 hg_ hnew_; clear hg_ hnew_; have HO1 := Aside0.mk ho1; have HB1 := Aside0.mk hb1; clear ho1 hb1)
    | ((with_reducible refine gate_builtin (b := .append) (xs := #[.tmp 13, .tmp 14]) rfl ?_); at_builtin; refine Kd.R_append_rows k38 (w0 := w) w.heap.size rfl (.tmp 13) (.tmp 14) 25 38 (.agg #[(.string ⟨#[]⟩), (.string ⟨#[]⟩)]) 32 rfl Tryd.underlying25 info38 rfl (by decide) (by omega) v1 [] l0 _ _ _ (fun _ => True) (fun _ => False) rfl rfl ?aO ?aR (fun _ _ h => h) (fun _ h => h.elim) ?aF ?aB ?aS ?aL ?_; (case aR => exact Kd.C_below HR.out HB1.out); (case aB => exact HB1.out); (case aF => exact fun _ _ => trivial); (case aO => exact HO1.out); (case aS => exact HB1.out.size); (case aL => simp; omega); intro v2 w2 ho2 hb2 hg2 hat2; rw [List.nil_append] at ho2; have HO2 := Aside0.mk ho2; have HB2 := Aside0.mk hb2; clear ho2 hb2 hg2 hat2)
    | (go_at_call 20; (with_reducible refine (CS.out _ HB2.out).mono ?_); rintro e w3 ⟨rfl, hb3⟩; have HB3 := Aside0.mk (below_step HB2.out hb3); have HO3 := Aside0.mk (Kd.R_below HO2.out hb3); clear hb3))
   go_ret2
   exact ⟨_, rfl, HO3.out, HB3.out⟩
end Hand
end Go.Proofs.YtfepbnolgceadaaDoor.MFnExactConfigure
