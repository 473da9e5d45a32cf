/- What stands while impl.Configure reads its lines. -/
import Derived.Test.YtfepbnolgceadaaDoorHandConfSEFnExactConfigure
import Derived.Test.YtfepbnolgceadaaDoorShelfCFnExactConfigure
namespace Go.Proofs.YtfepbnolgceadaaDoor.MFnExactConfigure
open Go.Proofs.YtfepbnolgceadaaDoor
open Go Go.RowKit Go.Maps Go.WideMaps Go.Proofs.YtfepbnolgceadaaDoor.Mine Go.Proofs.YtfepbnolgceadaaDoorW.PrintWords Go.Proofs.YtfepbnolgceadaaDoorW.PrintLast Go.Proofs.YtfepbnolgceadaaDoorW.PrintMore
attribute [local go_sem] max2_int min2_int max_two min_two max_three min_three max_four min_four
set_option linter.unusedVariables false
set_option linter.unusedSimpArgs false
open Go.Sort
namespace Hand
/-- A map of the call's own that reads as L; g: how many stores are still to come at most. -/
def OwnE (W : World) (b : Nat) (L : List S38) (g : Nat) : Prop := ∃ n, n + g ≤ 5000 ∧ W.ownsMap Tryd.prog 9 R9 b n (mapE L)
/-- Settings as they stand in the map. -/
structure Good (L : List S38) : Prop where
  asc : Asc L
  len : L.length ≤ 40
  sm : ∀ x ∈ L, x.f0.size ≤ 1048576 ∧ x.f1.size ≤ 1048576
theorem insA_mem (x s : S38) : ∀ L : List S38, s ∈ insA x L → s = x ∨ s ∈ L
  | [], h => .inl (by simpa [insA] using h)
  | y :: r, h => by
    unfold insA at h
    split at h
    · simpa using h
    · rcases List.mem_cons.mp h with rfl | h
      · exact .inr (by simp)
      · exact (insA_mem x s r h).imp id (List.mem_cons_of_mem _)
theorem setS_here (L : List S38) (x : S38) (h : (getS L x.f0).2 = true) : (setS L x).length ≤ L.length := by
  unfold setS
  rw [insA_len]
  unfold getS at h
  cases hf : L.find? (fun s => decide (s.f0 = x.f0)) with
  | none => rw [hf] at h; simp at h
  | some s =>
    have h1 := List.find?_some hf
    have h2 := List.mem_of_find?_eq_some hf
    have h3 : (delS L x.f0).length < L.length := by
      unfold delS
      refine List.length_filter_lt_length_iff_exists.mpr ⟨s, h2, ?_⟩
      simpa using h1
    omega
theorem Good.set {L : List S38} (h : Good L) (x : S38) (hc : (getS L x.f0).2 = true ∨ L.length < 40) (hx : x.f0.size ≤ 1048576 ∧ x.f1.size ≤ 1048576) : Good (setS L x) := by
  refine ⟨h.asc.set x, ?_, fun s hs => ?_⟩
  · rcases hc with hc | hc
    · exact Nat.le_trans (setS_here L x hc) h.len
    · have := setS_len L x; omega
  · rcases insA_mem x s _ hs with rfl | hs
    · exact hx
    · exact h.sm s (List.mem_filter.mp hs).1
theorem Good.del {L : List S38} (h : Good L) (n : ByteArray) : Good (delS L n) :=
  ⟨h.asc.del n, Nat.le_trans (List.length_filter_le _ _) h.len, fun s hs => h.sm s (List.mem_filter.mp hs).1⟩
/-- The values of a row of maps. -/
def kM : Kd Nat := Kd.scalar (fun b => Value.map (some b)) (fun _ => rfl)
theorem own_not_cells {W : World} {b k g : Nat} {L : List S38} {cs : Array Value} {t : TypeId} (h : OwnE W b L g) (hk : W.heap[k]? = some (.cells cs t (0, 0))) : b ≠ k := by
  rintro rfl
  obtain ⟨n, _, es, clock, hb, _⟩ := h
  rw [hb] at hk
  cases hk
theorem OwnE.lt {W : World} {b g : Nat} {L : List S38} (h : OwnE W b L g) : b < W.heap.size := by
  obtain ⟨n, _, h⟩ := h
  exact h.lt
theorem OwnE.less {W : World} {b g g' : Nat} {L : List S38} (h : OwnE W b L g) (hg : g' ≤ g) : OwnE W b L g' := by
  obtain ⟨n, hn, h⟩ := h
  exact ⟨n, by omega, h⟩
theorem OwnE.below {W W' : World} {b g : Nat} {L : List S38} (h : OwnE W b L g) (hB : Below W.heap.size W W') : OwnE W' b L g := by
  have hl := h.lt
  obtain ⟨n, hn, h⟩ := h
  exact ⟨n, hn, owns_at h hB hl⟩
theorem OwnE.grown {W W' : World} {b g : Nat} {L : List S38} {row : Option Nat} (h : OwnE W b L g) (hG : W.grownBy W' row) (hne : some b ≠ row) : OwnE W' b L g := by
  obtain ⟨n, hn, h⟩ := h
  exact ⟨n, hn, h.kept hG hne⟩
/-- What stands while Configure reads its lines: what was given, the map, the maps that are kept. -/
structure Cf (w W : World) (g : Nat) (vW : Value) (l : List S38) (b : Nat) (L : List S38) (vK : Value) (Bs : List Nat) (Ks : List (List S38)) : Prop where
  bel : Below w.heap.size w W
  was : Kd.R k38 38 W w.heap.size (fun k => some k = vW.ownBlock) vW l
  m : OwnE W b L g
  mb : w.heap.size ≤ b
  good : Good L
  row : Kd.R kM 45 W w.heap.size (fun k => some k = vK.ownBlock) vK Bs
  len : Bs.length = Ks.length
  ks : ∀ p ∈ Bs.zip Ks, OwnE W p.1 p.2 g ∧ w.heap.size ≤ p.1 ∧ p.1 ≠ b ∧ Good p.2
  nd : Bs.Nodup
section
variable {w W W' : World} {g : Nat} {vW : Value} {l : List S38} {b : Nat} {L L' : List S38} {vK : Value} {Bs : List Nat} {Ks : List (List S38)}
theorem Cf.below (c : Cf w W g vW l b L vK Bs Ks) (hB : Below W.heap.size W W') : Cf w W' g vW l b L vK Bs Ks :=
  ⟨below_step c.bel hB, Kd.R_below c.was hB, c.m.below hB, c.mb, c.good, Kd.R_below c.row hB, c.len, fun p hp => ⟨(c.ks p hp).1.below hB, (c.ks p hp).2⟩, c.nd⟩
theorem Cf.less {g' : Nat} (c : Cf w W g vW l b L vK Bs Ks) (hg : g' ≤ g) : Cf w W g' vW l b L vK Bs Ks :=
  ⟨c.bel, c.was, c.m.less hg, c.mb, c.good, c.row, c.len, fun p hp => ⟨(c.ks p hp).1.less hg, (c.ks p hp).2⟩, c.nd⟩
/-- The map itself is turned. -/
theorem Cf.turn {g' : Nat} (c : Cf w W g vW l b L vK Bs Ks) (hg : g' ≤ g) (hm : OwnE W' b L' g') (hG : W.grownBy W' (some b)) (hL : Good L') : Cf w W' g' vW l b L' vK Bs Ks := by
  have n1 : some b ≠ vW.ownBlock := fun e => by
    obtain ⟨cs, hc⟩ := Kd.R_typed c.was b e.symm
    exact own_not_cells c.m hc rfl
  have n2 : some b ≠ vK.ownBlock := fun e => by
    obtain ⟨cs, hc⟩ := Kd.R_typed c.row b e.symm
    exact own_not_cells c.m hc rfl
  refine ⟨c.bel.grown hG c.bel.size (fun j hj => by cases hj; exact c.mb), Kd.R_grown c.was hG (fun k hk e => n1 (e ▸ hk)), hm, c.mb, hL, Kd.R_grown c.row hG (fun k hk e => n2 (e ▸ hk)), c.len, fun p hp => ?_, c.nd⟩
  obtain ⟨h1, h2, h3, h4⟩ := c.ks p hp
  exact ⟨(h1.grown hG (fun e => h3 (by injection e))).less hg, h2, h3, h4⟩
/-- One map more is kept. -/
theorem Cf.push {W1 : World} {b2 : Nat} {v1 : Value} (c : Cf w W g vW l b L vK Bs Ks) (hc : OwnE W1 b2 L g) (hb2 : b2 = W.heap.size) (hB : Below W.heap.size W W1)
    (hr : Kd.R kM 45 W' w.heap.size (fun _ => True) v1 (Bs ++ [b2])) (hb : Below w.heap.size W1 W') (hG : W1.grownBy W' vK.ownBlock) : Cf w W' g vW l b L v1 (Bs ++ [b2]) (Ks ++ [L]) := by
  have c1 := c.below hB
  have tK := Kd.R_typed c1.row
  have mrow : ∀ {k : Nat} {M : List S38}, OwnE W1 k M g → some k ≠ vK.ownBlock := fun {k M} h e => by
    obtain ⟨cs, h2⟩ := tK k e.symm
    exact own_not_cells h h2 rfl
  have fresh : ∀ p ∈ Bs.zip Ks, p.1 < b2 := fun p hp => by rw [hb2]; exact (c.ks p hp).1.lt
  have bf : b < b2 := by rw [hb2]; exact c.m.lt
  refine ⟨c1.bel.trans hb, ?_, c1.m.grown hG (mrow c1.m), c.mb, c.good, ⟨fun k hk => hk.symm, hr.2.imp_ (fun _ _ hp => hp)⟩, by simp [c.len], fun p hp => ?_, ?_⟩
  · exact Kd.R_over' c1.was tK (by decide) hG
  · rw [List.zip_append c.len] at hp
    rcases List.mem_append.mp hp with hp | hp
    · obtain ⟨h1, h2, h3, h4⟩ := c1.ks p hp
      exact ⟨h1.grown hG (mrow h1), h2, h3, h4⟩
    · simp only [List.zip_cons_cons, List.zip_nil_right, List.mem_singleton] at hp
      subst hp
      exact ⟨hc.grown hG (mrow hc), by rw [hb2]; exact c.bel.size, Nat.ne_of_gt bf, c.good⟩
  · refine List.nodup_append.mpr ⟨c.nd, by simp, fun a ha d hd => ?_⟩
    simp only [List.mem_singleton] at hd
    subst hd
    obtain ⟨i, hi, rfl⟩ := List.getElem_of_mem ha
    have : (Bs[i], Ks[i]'(by rw [← c.len]; exact hi)) ∈ Bs.zip Ks := List.mem_iff_getElem.mpr ⟨i, by simp [c.len]; rw [← c.len]; exact hi, by simp⟩
    exact Nat.ne_of_lt (fresh _ this)
end
section
variable {w W W' : World} {g : Nat} {vW : Value} {l : List S38} {b b2 : Nat} {L K2 : List S38} {A : Option Addr} {n cp : Nat} {Bs : List Nat} {Ks : List (List S38)}
theorem row_pop {base : Nat} (h : Kd.R kM 45 W base (fun k => some k = (Value.slice A n cp).ownBlock) (.slice A n cp) Bs) : Kd.R kM 45 W base (fun k => some k = (Value.slice A (Bs.length - 1) cp).ownBlock) (.slice A (Bs.length - 1) cp) Bs.dropLast := by
  have h := Kd.R_take (m := Bs.length - 1) h (Nat.sub_le _ _)
  rw [← List.dropLast_eq_take] at h
  cases A <;> exact h
/-- The last map that is kept is left. -/
theorem Cf.pop (c : Cf w W g vW l b L (.slice A n cp) Bs Ks) : Cf w W g vW l b L (.slice A (Bs.length - 1) cp) Bs.dropLast Ks.dropLast := by
  refine ⟨c.bel, c.was, c.m, c.mb, c.good, row_pop c.row, by simp [c.len], fun p hp => c.ks p ?_, c.nd.sublist (List.dropLast_sublist _)⟩
  have e : Bs.dropLast.zip Ks.dropLast = (Bs.zip Ks).take (Bs.length - 1) := by
    rw [List.dropLast_eq_take, List.dropLast_eq_take, ← c.len, List.zip, List.take_zipWith]
  rw [e] at hp
  exact List.mem_of_mem_take hp
/-- The last map that is kept is the map again. -/
theorem Cf.back (c : Cf w W g vW l b L (.slice A n cp) (Bs ++ [b2]) (Ks ++ [K2])) : Cf w W g vW l b2 K2 (.slice A Bs.length cp) Bs Ks := by
  have hl : Bs.length = Ks.length := by have := c.len; simp at this; exact this
  have hz : (Bs ++ [b2]).zip (Ks ++ [K2]) = Bs.zip Ks ++ [(b2, K2)] := by rw [List.zip_append hl]; rfl
  obtain ⟨h1, h2, h3, h4⟩ := c.ks (b2, K2) (by rw [hz]; simp)
  have hr := row_pop c.row
  simp only [List.length_append, List.length_singleton, Nat.add_sub_cancel, List.dropLast_concat] at hr
  have hn := List.nodup_append.mp c.nd
  refine ⟨c.bel, c.was, h1, h2, h4, hr, hl, fun p hp => ?_, hn.1⟩
  obtain ⟨g1, g2, g3, g4⟩ := c.ks p (by rw [hz]; simp [hp])
  exact ⟨g1, g2, hn.2.2 _ (List.of_mem_zip hp).1 _ (by simp), g4⟩
theorem Cf.rowlen (c : Cf w W g vW l b L (.slice A n cp) Bs Ks) : n = Ks.length := by
  obtain ⟨A', c', he⟩ := Kd.R_slice c.row
  injection he with h1 h2 h3
  rw [h2, c.len]
/-- Where the last map stands. -/
theorem Cf.last (c : Cf w W g vW l b L (.slice A n cp) (Bs ++ [b2]) Ks) : ∃ ad, A = some ad ∧ W.cell? (ad.add Bs.length) = some (.map (some b2)) := by
  obtain ⟨A', c', he, _, hC⟩ := Kd.R_reads c.row
  injection he with h1 h2 h3
  subst h1
  obtain ⟨ad, e, hc⟩ := ReadsOf.at_ (Kd.reads_of_C (enc := fun b : Nat => Value.map (some b)) (d := 0) (h1 := fun _ => rfl) hC) (Bs.length : Int) (by omega) (by simp; omega)
  refine ⟨ad, e, ?_⟩
  rw [Int.toNat_natCast] at hc
  rw [hc]
  simp [rdOf]
end
end Hand
end Go.Proofs.YtfepbnolgceadaaDoor.MFnExactConfigure
