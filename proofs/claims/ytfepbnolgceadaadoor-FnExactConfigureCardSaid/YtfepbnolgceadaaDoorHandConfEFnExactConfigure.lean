/- What impl.Configure answers, and that the code comes to it. -/
import Derived.Test.YtfepbnolgceadaaDoorHandConfCEFnExactConfigure
import Derived.Deep.RegionLaw
import Derived.RegionTactic
import Derived.ChangeAlike
import Derived.BigRegion
import Derived.StillTailTactics
import Derived.StillTactics
namespace Go.Proofs.YtfepbnolgceadaaDoor.MFnExactConfigure
open Go.Proofs.YtfepbnolgceadaaDoor
open Go Go.RowKit Go.Maps Go.WideMaps Go.Proofs.YtfepbnolgceadaaDoor.Mine Go.Proofs.YtfepbnolgceadaaDoor.Hand Go.Proofs.YtfepbnolgceadaaDoorW.PrintWords Go.Proofs.YtfepbnolgceadaaDoorW.PrintLast Go.Proofs.YtfepbnolgceadaaDoorW.PrintMore
attribute [local go_sem] max2_int min2_int max_two min_two max_three min_three max_four min_four
set_option linter.unusedVariables false
set_option linter.unusedSimpArgs false
open Go.Sort
namespace Hand

/-- What Configure answers of settings that are right. -/
def confO (l : List S38) (text : ByteArray) : List S38 × Nat :=
 match confI wordB valueB (text.size + 1) l [] text 1 with
 | (some L, n) => (L, n)
 | (none, n) => (l, n)
theorem confO_bad {l : List S38} {text : ByteArray} {n : Nat} (h : confI wordB valueB (text.size + 1) l [] text 1 = (none, n)) : confO l text = (l, n) := by unfold confO; rw [h]
theorem confO_good {l L : List S38} {text : ByteArray} {n : Nat} (h : confI wordB valueB (text.size + 1) l [] text 1 = (some L, n)) : confO l text = (L, n) := by unfold confO; rw [h]
theorem toList_lit (a : ByteArray) (l : List UInt8) : a.toList = l ↔ a = ⟨l.toArray⟩ := by
 rw [Lib.toList_data]
 exact ⟨fun h => bytes_inj (by rw [h]), fun h => by rw [h]⟩
theorem conf_step (f : Nat) (L : List S38) (K : List (List S38)) (T : ByteArray) (n : Nat) (h : isOf T = true) : confI wordB valueB (f + 1) L K T n = match doI wordB valueB L K (lineOf T) with | some s => confI wordB valueB f s.1 s.2 (restOf T) (n + 1) | none => (none, n) := by
 show (if isOf T = true then _ else _) = _
 rw [if_pos h]; rfl
theorem conf_end (f : Nat) (L : List S38) (K : List (List S38)) (T : ByteArray) (n : Nat) (h : isOf T = false) : confI wordB valueB (f + 1) L K T n = if T ≠ ⟨#[]⟩ ∨ 0 < K.length then (none, n) else (some L, 0) := by
 show (if isOf T = true then _ else _) = _
 rw [if_neg (by rw [h]; decide)]
theorem pieces_begin : (pieces ⟨#[98, 101, 103, 105, 110]⟩).length = 1 := by kernel_rfl
theorem pieces_commit : (pieces ⟨#[99, 111, 109, 109, 105, 116]⟩).length = 1 := by kernel_rfl
theorem pieces_abort : (pieces ⟨#[97, 98, 111, 114, 116]⟩).length = 1 := by kernel_rfl
theorem lit_ne {line : ByteArray} {l : List UInt8} (h : (pieces ⟨l.toArray⟩).length = 1) (h2 : (pieces line).length ≠ 1) : (line.toList == l) = false := by
 rw [beq_eq_false_iff_ne]
 intro e
 rw [(toList_lit _ _).mp e] at h2
 exact h2 h
theorem line_ne {line q : ByteArray} (h : (pieces q).length = 1) (h2 : (pieces line).length ≠ 1) : line ≠ q := fun e => h2 (by rw [e]; exact h)
section
variable {L : List S38} {Ks : List (List S38)} {line p0 p1 p2 : ByteArray}
theorem doI3 (hP : pieces line = [p0, p1, p2]) : doI wordB valueB L Ks line = if p0 = tSet then (if wordB p1 = true ∧ valueB p2 = true ∧ ((getS L p1).2 = true ∨ L.length < 40) then some (setS L ⟨p1, p2⟩, Ks) else none) else if p0 = tNeed then (if (getS L p1).2 = true ∧ (getS L p1).1 = p2 then some (L, Ks) else none) else none := by
 have hl : (pieces line).length ≠ 1 := by rw [hP]; simp
 have n1 : line ≠ tBegin := line_ne pieces_begin hl
 have n2 : ¬(line = tCommit ∨ line = tAbort) := fun h => h.elim (line_ne pieces_commit hl) (line_ne pieces_abort hl)
 have g0 : (pieces line).getD 0 ⟨#[]⟩ = p0 := by rw [hP]; rfl
 have g1 : (pieces line).getD 1 ⟨#[]⟩ = p1 := by rw [hP]; rfl
 have g2 : (pieces line).getD 2 ⟨#[]⟩ = p2 := by rw [hP]; rfl
 have gl : (pieces line).length = 3 := by rw [hP]; rfl
 unfold doI
 rw [g0, g1, g2, gl, if_neg n1, if_neg n2]
 by_cases h1 : p0 = tSet
 ·rw [if_pos ⟨h1, rfl⟩, if_pos h1]
 ·rw [if_neg (fun h => h1 h.1), if_neg h1, if_neg (fun h => absurd h.2 (by decide))]
  by_cases h2 : p0 = tNeed
  ·rw [if_pos ⟨h2, rfl⟩, if_pos h2]
  ·rw [if_neg (fun h => h2 h.1), if_neg h2]
theorem doI2 (hP : pieces line = [p0, p1]) : doI wordB valueB L Ks line = if p0 = tUnset then (if (getS L p1).2 = true then some (delS L p1, Ks) else none) else none := by
 have hl : (pieces line).length ≠ 1 := by rw [hP]; simp
 have n1 : line ≠ tBegin := line_ne pieces_begin hl
 have n2 : ¬(line = tCommit ∨ line = tAbort) := fun h => h.elim (line_ne pieces_commit hl) (line_ne pieces_abort hl)
 have g0 : (pieces line).getD 0 ⟨#[]⟩ = p0 := by rw [hP]; rfl
 have g1 : (pieces line).getD 1 ⟨#[]⟩ = p1 := by rw [hP]; rfl
 have gl : (pieces line).length = 2 := by rw [hP]; rfl
 unfold doI
 rw [g0, g1, gl, if_neg n1, if_neg n2, if_neg (fun h => absurd h.2 (by decide)), if_neg (c := p0 = tNeed ∧ 2 = 3) (fun h => absurd h.2 (by decide))]
 by_cases h1 : p0 = tUnset
 ·rw [if_pos ⟨h1, rfl⟩, if_pos h1]
 ·rw [if_neg (fun h => h1 h.1), if_neg h1]
theorem doI1 (hP : (pieces line).length = 1) : doI wordB valueB L Ks line = if line = tBegin then (if Ks.length < 4 then some (L, Ks ++ [L]) else none) else if line = tCommit ∨ line = tAbort then (if 0 < Ks.length then some (if line = tAbort then Ks.getLastD [] else L, Ks.dropLast) else none) else none := by
 unfold doI
 rw [hP, if_neg (fun h => absurd h.2 (by decide)), if_neg (c := _ ∧ 1 = 2) (fun h => absurd h.2 (by decide)), if_neg (c := _ ∧ 1 = 3) (fun h => absurd h.2 (by decide))]
theorem doI4 (h : 4 ≤ (pieces line).length) : doI wordB valueB L Ks line = none := by
 have hl : (pieces line).length ≠ 1 := by omega
 have n1 : line ≠ tBegin := line_ne pieces_begin hl
 have n2 : ¬(line = tCommit ∨ line = tAbort) := fun h => h.elim (line_ne pieces_commit hl) (line_ne pieces_abort hl)
 unfold doI
 rw [if_neg n1, if_neg n2, if_neg (fun h => by have := h.2; omega), if_neg (fun h => by have := h.2; omega), if_neg (fun h => by have := h.2; omega)]
end
theorem toList_eq_of {a : ByteArray} {l : List UInt8} (h : (a.toList == l) = true) : a = ⟨l.toArray⟩ := (toList_lit a l).mp (eq_of_beq h)
theorem toList_ne_of {a : ByteArray} {l : List UInt8} (h : (a.toList == l) = false) : a ≠ ⟨l.toArray⟩ := fun e => by rw [(toList_lit a l).mpr e, beq_self_eq_true] at h; cases h
/-- What stands at each round. -/
structure At (w : World) (vW : Value) (l : List S38) (text : ByteArray) (wr : World) (gk : Nat) (T : ByteArray) (b : Nat) (L : List S38) (vK : Value) (Bs : List Nat) (Ks : List (List S38)) (n : Nat) : Prop where
 cf : Cf w wr gk vW l b L vK Bs Ks
 sz : T.size ≤ gk
 gk_le : gk ≤ 3000
 nn : n + gk ≤ 3001
 eq : confI wordB valueB (gk + 1) L Ks T n = confI wordB valueB (text.size + 1) l [] text 1
 tabs : Aside0 (Tabs wr)
 max : MaxCell wr
 k4 : Ks.length ≤ 4
theorem At.below {w wr w' : World} {vW : Value} {l : List S38} {text : ByteArray} {gk : Nat} {T : ByteArray} {b : Nat} {L : List S38} {vK : Value} {Bs : List Nat} {Ks : List (List S38)} {n : Nat} (h : At w vW l text wr gk T b L vK Bs Ks n) (hb : Below wr.heap.size wr w') : At w vW l text w' gk T b L vK Bs Ks n :=
 ⟨h.cf.below hb, h.sz, h.gk_le, h.nn, h.eq, tabs_at h.tabs hb, maxCell_at h.max hb, h.k4⟩
theorem At.next {w wr W' : World} {vW : Value} {l : List S38} {text : ByteArray} {g' : Nat} {T rest line : ByteArray} {b b' : Nat} {L L' : List S38} {vK vK' : Value} {Bs Bs' : List Nat} {Ks Ks' : List (List S38)} {n : Nat} (hT : Aside0 (Tabs w)) (hM : MaxCell w) (h : At w vW l text wr (g' + 1) T b L vK Bs Ks n)
  (hst : confI wordB valueB (text.size + 1) l [] text 1 = match doI wordB valueB L Ks line with | some s => confI wordB valueB (g' + 1) s.1 s.2 rest (n + 1) | none => (none, n)) (hd : doI wordB valueB L Ks line = some (L', Ks')) (hr : rest.size < T.size) (c : Cf w W' g' vW l b' L' vK' Bs' Ks') (hk : Ks'.length ≤ 4) : At w vW l text W' g' rest b' L' vK' Bs' Ks' (n + 1) :=
 ⟨c, by have := h.sz; omega, by have := h.gk_le; omega, by have := h.nn; omega, (hst.trans (by rw [hd])).symm, tabs_at hT c.bel, maxCell_at hM c.bel, hk⟩
theorem Cf.wasR {w W : World} {g : Nat} {vW : Value} {l : List S38} {b : Nat} {L : List S38} {vK : Value} {Bs : List Nat} {Ks : List (List S38)} (c : Cf w W g vW l b L vK Bs Ks) : Kd.R k38 38 W w.heap.size (fun _ => True) vW l := Kd.R_flat (fun h => h) c.was (fun _ _ _ => trivial)
theorem setE (p : ByteArray) : (p = tSet) = (p.toList = [115, 101, 116]) := propext (toList_lit p _).symm
theorem unsetE (p : ByteArray) : (p = tUnset) = (p.toList = [117, 110, 115, 101, 116]) := propext (toList_lit p _).symm
theorem beginE (p : ByteArray) : (p = tBegin) = (p.toList = [98, 101, 103, 105, 110]) := propext (toList_lit p _).symm
theorem commitE (p : ByteArray) : (p = tCommit) = (p.toList = [99, 111, 109, 109, 105, 116]) := propext (toList_lit p _).symm
theorem abortE (p : ByteArray) : (p = tAbort) = (p.toList = [97, 98, 111, 114, 116]) := propext (toList_lit p _).symm
theorem needE (p : ByteArray) : (p = tNeed) = (p.toList = [110, 101, 101, 100]) := propext (toList_lit p _).symm
theorem toList_beq (x y : ByteArray) : (x.toList == y.toList) = decide (x = y) := by
 by_cases h : x = y
 ·rw [h, decide_eq_true rfl]; exact beq_self_eq_true _
 ·rw [decide_eq_false h, beq_eq_false_iff_ne]
  exact fun e => h (bytes_inj (by rw [← Lib.toList_data, ← Lib.toList_data]; exact e))
theorem info45 : (Tryd.prog.info? 45).map (fun i => (i.zero, i.size, i.bytes)) = some (some (.map none), 1, 8) := by kernel_rfl
theorem pieces_one {s p : ByteArray} (h : pieces s = [p]) : p = s := by
 unfold pieces at h
 rcases Nat.eq_zero_or_pos (Lib.countB s sepB) with hc | hc
 ·rw [hc] at h
  injection h with h
  exact h.symm
 ·have := pieces_len s
  unfold pieces at this
  rw [h] at this
  simp at this
  omega
def PiecesAt (w : World) (g : Nat) (s : ByteArray) : Prop := ∀ i, i < (pieces s).length → w.cell? ⟨g, i, none⟩ = some (.string ((pieces s).getD i ⟨#[]⟩))
theorem PiecesAt.below {w w' : World} {g : Nat} {s : ByteArray} (h : PiecesAt w g s) (hb : Below w.heap.size w w') : PiecesAt w' g s := fun i hi => (hb.cell (World.block_lt_of_cell? w _ (h i hi))).trans (h i hi)
theorem splitP_calls (s : ByteArray) (w : World) (hs : s.size ≤ 3000) (hm : MaxCell w) :
  Calls Tryd.prog 35 #[.string s, .string ⟨#[32]⟩] w fun e w' => ∃ g, e = .returned (.slice (some ⟨g, 0, none⟩) (pieces s).length (pieces s).length) ∧ PiecesAt w' g s ∧ Below w.heap.size w w' :=
 (split_calls s w hs hm).mono fun e w' ⟨h1, h2⟩ => ⟨_, h1, by subst h2; exact fun i hi => piece_cell w s i hi, by subst h2; exact (Below.refl _ _).alloc (Nat.le_refl _) _⟩

set_option maxHeartbeats 4000000 in
set_option maxRecDepth 100000 in
theorem conf_main (A0 : Option Addr) (c0 : Nat) (l0 : List S38) (text : ByteArray) (w : World) (hT : Aside0 (Tabs w)) (hM : MaxCell w) (hr0 : Kd.C k38 w A0 l0.length l0) (hc0 : l0.length ≤ c0)
  (hS : ∀ w1, Below w.heap.size w w1 → Calls Tryd.prog 22 #[.slice A0 l0.length c0] w1 fun e w' => e = .returned (.bool true) ∧ Below w1.heap.size w1 w') (hg0 : Good l0) (hts : text.size ≤ 3000) :
  Calls Tryd.prog 13 #[.slice A0 l0.length c0, .string text] w fun e w' => ∃ v, e = .returned (.tuple #[v, .int .i64 (confO l0 text).2]) ∧ Kd.R k38 38 w' w.heap.size (fun _ => True) v (confO l0 text).1 ∧ Below w.heap.size w w' := by
 have hn0 := hg0.len
 have hmap : ∀ w1, Below w.heap.size w w1 → Calls Tryd.prog 23 #[.slice A0 l0.length c0] w1 fun e w' => e = .returned (.map (some w1.heap.size)) ∧ w'.ownsMap Tryd.prog 9 R9 w1.heap.size l0.length (mapE l0) ∧ Below w1.heap.size w1 w' := fun w1 hb => by
  rw [← mapD_asc l0 hg0.asc]
  exact mapOf_calls A0 c0 l0 w1 (Kd.C_below hr0 hb) (by omega) (fun x hx => by have := hg0.sm x hx; unfold maxLen; omega)
 have hclone := cloneS_calls A0 c0 l0 w hr0 hc0 (by omega)
 have CS := Aside0.mk hS
 have CM := Aside0.mk hmap
 have CC := Aside0.mk hclone
 have HG := Aside0.mk hg0
 have HX := Aside0.mk hM
 have hq1 : ((3000 : Int) < (text.size : Int)) = False := eq_false (by omega)
 clear hS hmap hclone hg0 hM hr0
 go_enter Tryd.func13, Tryd.ntmps13
 go_wp2_with (first
  | (go_at_call 33; (with_reducible refine CC.out.mono ?_); rintro e w1 ⟨vW, rfl, hW1, hb1⟩)
  | (go_at_call 22; (with_reducible refine (CS.out _ hb1).mono ?_); rintro e w2 ⟨rfl, hb2⟩; have hb12 := hb1.trans (hb2.mono hb1.size))
  | (go_at_call 23; (with_reducible refine (CM.out _ hb12).mono ?_); rintro e w3 ⟨rfl, ho3, hb3⟩; have hb13 := hb12.trans (hb3.mono hb12.size)))

 have hcf : Cf w w3 text.size vW l0 w2.heap.size l0 (.slice none 0 0) [] [] :=
  ⟨hb13, Kd.R_flat (fun h => h) (Kd.R_below (Kd.R_below hW1 hb2) hb3) (fun k hk _ => hk.symm), ⟨l0.length, by omega, ho3⟩, hb12.size, HG.out, Kd.R_nil _ _ _ _ _, rfl, fun p hp => by simp at hp, by simp⟩
 have HA : Aside0 (At w vW l0 text w3 text.size text w2.heap.size l0 (.slice none 0 0) [] [] 1) := ⟨⟨hcf, Nat.le_refl _, hts, by omega, rfl, tabs_at hT hb13, maxCell_at HX.out hb13, Nat.zero_le _⟩⟩
 clear hcf hW1 hb1 hb2 hb12 hb3 hb13 ho3 CS CM CC HG
 go_loopg [1, 7, 8, 9] text.size (fun gk v1 v7 v8 v9 wr => ∃ (T : ByteArray) (b : Nat) (L : List S38) (vK : Value) (Bs : List Nat) (Ks : List (List S38)) (n : Nat), v1 = .string T ∧ v7 = .map (some b) ∧ v8 = vK ∧ v9 = .int .i64 n ∧ Aside0 (At w vW l0 text wr gk T b L vK Bs Ks n))
 case atStart => exact ⟨_, _, _, _, _, _, _, rfl, rfl, rfl, rfl, HA⟩
 case round =>
  clear HA
  obtain ⟨T, b, L, vK, Bs, Ks, n, rfl, rfl, rfl, rfl, HA⟩ := hrel
  obtain ⟨A8, c8, e8⟩ := Kd.R_slice HA.out.cf.row
  rw [HA.out.cf.len] at e8
  subst e8
  have hTs : T.size ≤ 3000 := Nat.le_trans HA.out.sz HA.out.gk_le
  have CU := Aside0.mk (cut_calls T wr hTs HA.out.max)
  have hcz := cut_sizes T
  obtain ⟨line, hline⟩ : ∃ x, lineOf T = x := ⟨_, rfl⟩
  obtain ⟨rest, hrest⟩ : ∃ x, restOf T = x := ⟨_, rfl⟩
  have hstep := conf_step gk L Ks T n
  have hend := conf_end gk L Ks T n
  have heq := HA.out.eq
  rw [hline, hrest] at CU hcz
  rw [hline, hrest] at hstep
  have HST := Aside0.mk hstep
  have HEN := Aside0.mk hend
  have HEQ := Aside0.mk heq
  clear hstep hend heq hline hrest
  cases his : isOf T
  ·rw [his] at CU
   clear hcz HST
   replace HEN := Aside0.mk (HEN.out his)
   have CX : Aside0 (∀ w4, Below wr.heap.size wr w4 → Calls Tryd.prog 38 #[.map (some b)] w4 fun e w' => ∃ v, e = .returned v ∧ Kd.R k38 38 w' w4.heap.size (fun _ => True) v L ∧ Below w4.heap.size w4 w') := ⟨fun w4 hb4 => by
    obtain ⟨nm, hnm, hown⟩ := (HA.out.cf.below hb4).m
    exact settingsOf_calls L HA.out.cf.good.asc (by have := HA.out.cf.good.len; omega) (fun x hx => by have := HA.out.cf.good.sm x hx; unfold maxLen; omega) b nm w4 hown (by omega)⟩
   have hTE : T.toList = [] ↔ T = ⟨#[]⟩ := toList_lit T []
   have HTE := Aside0.mk hTE
   clear hTE
   go_wp2_with (first
    | (go_at_call 34; (with_reducible refine CU.out.mono ?_); rintro e w4 ⟨rfl, hb4⟩)
    | (go_at_call 38; (with_reducible refine (CX.out _ hb4).mono ?_); rintro e w5 ⟨v5, rfl, hr5, hb5⟩))
   all_goals (have c4 := HA.out.cf.below hb4; go_ret2)
   all_goals first
    | (have h1 : ¬T.toList = [] := (by assumption); rw [confO_bad (HEQ.out.symm.trans (HEN.out.trans (if_pos (.inl fun h => h1 (HTE.out.mpr h)))))]; exact ⟨_, rfl, c4.wasR, c4.bel⟩)
    | (have h1 : 0 < Ks.length := (by assumption); rw [confO_bad (HEQ.out.symm.trans (HEN.out.trans (if_pos (.inr h1))))]; exact ⟨_, rfl, c4.wasR, c4.bel⟩)
    | (have h1 : T.toList = [] := (by assumption); have h2 : ¬0 < Ks.length := (by omega); rw [confO_good (HEQ.out.symm.trans (HEN.out.trans (if_neg (by rw [not_or]; exact ⟨fun h => h (HTE.out.mp h1), h2⟩))))]; exact ⟨_, rfl, Kd.R_lower hr5 c4.bel.size, c4.bel.trans (hb5.mono c4.bel.size)⟩)
  ·rw [his] at CU
   clear HEN
   have hrs := hcz.2 his
   have hln := hcz.1
   have hTk := HA.out.sz
   obtain ⟨g', rfl⟩ : ∃ g', gk = g' + 1 := ⟨gk - 1, by omega⟩
   replace HST := Aside0.mk (HEQ.out.symm.trans (HST.out his))
   clear hcz HEQ
   obtain ⟨nm, hnm⟩ : ∃ nm, nm + (g' + 1) ≤ 5000 ∧ wr.ownsMap Tryd.prog 9 R9 b nm (mapE L) := HA.out.cf.m
   have HO := Aside0.mk hnm
   have hLl := HA.out.cf.good.len
   have hline : line.size ≤ 3000 := Nat.le_trans hln hTs
   have hpp := pieces_pos line
   have hnn := HA.out.nn
   have HPS := Aside0.mk (fun i => Nat.le_trans (piece_size line i) hline)
   have SPL : Aside0 (∀ w4, MaxCell w4 → _) := ⟨fun w4 hm => splitP_calls line w4 hline hm⟩
   clear hnm hTk
   rcases hP : pieces line with _ | ⟨p0, _ | ⟨p1, _ | ⟨p2, _ | ⟨p3, ps⟩⟩⟩⟩
   ·rw [hP] at hpp; exact absurd hpp (by decide)
   ·by_cases hKs : Ks = []
    ·have hm : (pieces line).length = 1 := by rw [hP]; rfl
     have e0 := (pieces_one hP).symm
     subst e0
     have HOL := Aside0.mk HA.out.cf.len
     obtain rfl := hKs
     obtain rfl : Bs = [] := List.length_eq_zero_iff.mp HOL.out
     have HP := Aside0.mk hP
     have SP : Aside0 (∀ w4, MaxCell w4 → Calls Tryd.prog 35 #[.string line, .string ⟨#[32]⟩] w4 fun e w' => ∃ g, e = .returned (.slice (some ⟨g, 0, none⟩) 1 1) ∧ w'.cell? ⟨g, 0, none⟩ = some (.string line) ∧ Below w4.heap.size w4 w') := ⟨fun w4 hm0 => (SPL.out w4 hm0).mono fun e w' ⟨g, h1, h2, h3⟩ => by
      rw [hm] at h1
      have c0 := h2 0 (by rw [hm]; omega)
      rw [hP] at c0
      exact ⟨g, h1, c0, h3⟩⟩
     clear hP hpp SPL HPS
     have HM := Aside0.mk hm
     clear hm
     have HW1 := Aside0.mk (show wrap64 ((n : Int) + 1) = ((n + 1 : Nat) : Int) from (w64 (by omega) (by omega)).trans (by omega))
     go_wp2_with (first
      | (go_at_call 34; (with_reducible refine CU.out.mono ?_); rintro e w4 ⟨rfl, hb4⟩; have HA4 := Aside0.mk (HA.out.below hb4))
      | (go_at_call 35; (with_reducible refine (SP.out _ HA4.out.max).mono ?_); rintro e w5 ⟨g5, rfl, hx0, hb5⟩; have HA5 := Aside0.mk (HA4.out.below hb5); have ho5 := (Aside0.mk (owns_at (owns_at HO.out.2 hb4 HO.out.2.lt) hb5 (Nat.lt_of_lt_of_le HO.out.2.lt hb4.size))); clear hb4 hb5)
      | (go_at_call 24; (with_reducible refine (clone_calls b nm (mapE L) w5 ho5.out).mono ?_); rintro e w6 ⟨rfl, ho6, ho56, hb6⟩; have HA6 := Aside0.mk (HA5.out.below hb6))
      | ((with_reducible refine gate_builtin (b := .append) (xs := #[.tmp 118, .tmp 121]) rfl ?_); at_builtin; refine Kd.R_append kM (w0 := w6) w.heap.size rfl (.tmp 118) (.tmp 121) 67 45 (.map none) 8 rfl Tryd.underlying67 info45 rfl (by decide) (by omega) (.slice A8 0 c8) [] w5.heap.size [.map (some w5.heap.size)] (fun _ => True) (fun _ => False) rfl rfl ?aP (fun _ hk => hk.elim) ?aF ?aO (Below.refl _ _) ?aS ?aL ?_; (case aP => rfl); (case aF => exact fun _ _ => trivial); (case aO => exact Kd.R_mono HA6.out.cf.row (fun _ _ => trivial)); (case aS => exact HA6.out.cf.bel.size); (case aL => simp); intro v7 w7 hr7 hb7 hg7 hat7))
     ·rename_i h1
      have hd : doI wordB valueB L ([] : List (List S38)) line = none := (doI1 HM.out).trans (by rw [if_neg (fun e => absurd (((toList_lit _ _).mp h1).symm.trans e) (by decide)), if_neg (fun e => e.elim (fun e => absurd (((toList_lit _ _).mp h1).symm.trans e) (by decide)) (fun e => absurd (((toList_lit _ _).mp h1).symm.trans e) (by decide)))])
      go_ret2
      rw [confO_bad (HST.out.trans (by rw [hd]))]
      exact ⟨_, rfl, HA5.out.cf.wasR, HA5.out.cf.bel⟩
     ·rename_i h1 h2
      have hd : doI wordB valueB L ([] : List (List S38)) line = none := (doI1 HM.out).trans (by rw [if_neg (fun e => absurd (((toList_lit _ _).mp h2).symm.trans e) (by decide)), if_neg (fun e => e.elim (fun e => absurd (((toList_lit _ _).mp h2).symm.trans e) (by decide)) (fun e => absurd (((toList_lit _ _).mp h2).symm.trans e) (by decide)))])
      go_ret2
      rw [confO_bad (HST.out.trans (by rw [hd]))]
      exact ⟨_, rfl, HA5.out.cf.wasR, HA5.out.cf.bel⟩
     ·rename_i h1 h2 h3
      have c7 := HA5.out.cf.push ⟨nm, HO.out.1, ho6⟩ rfl hb6 hr7 hb7 hg7
      have hd : doI wordB valueB L ([] : List (List S38)) line = some (L, [] ++ [L]) := (doI1 HM.out).trans (by rw [if_pos (toList_eq_of h3), if_pos (by decide)])
      go_roundg g'
      case measure => omega
      case rel => exact ⟨rest, b, _, _, _, _, n + 1, rfl, rfl, rfl, by first | rfl | rw [HW1.out] | go_num, ⟨At.next hT HX.out HA.out HST.out hd hrs (c7.less (Nat.le_succ _)) (by simp)⟩⟩
     ·rename_i h1 h2 h3 h4
      have hd : doI wordB valueB L ([] : List (List S38)) line = none := (doI1 HM.out).trans (by rw [if_neg (toList_ne_of h3), if_pos (.inl ((toList_lit _ _).mp h4)), if_neg (by decide)])
      go_ret2
      rw [confO_bad (HST.out.trans (by rw [hd]))]
      exact ⟨_, rfl, HA5.out.cf.wasR, HA5.out.cf.bel⟩
     ·rename_i h1 h2 h3 h4 h5
      have hd : doI wordB valueB L ([] : List (List S38)) line = none := (doI1 HM.out).trans (by rw [if_neg (toList_ne_of h3), if_pos (h5.imp toList_eq_of toList_eq_of), if_neg (by decide)])
      go_ret2
      rw [confO_bad (HST.out.trans (by rw [hd]))]
      exact ⟨_, rfl, HA5.out.cf.wasR, HA5.out.cf.bel⟩
     ·rename_i h1 h2 h3 h4 h5 h6
      have hd : doI wordB valueB L ([] : List (List S38)) line = none := (doI1 HM.out).trans (by rw [if_neg (toList_ne_of h3), if_neg (fun e => e.elim (toList_ne_of h5.1) (toList_ne_of h5.2))])
      go_ret2
      rw [confO_bad (HST.out.trans (by rw [hd]))]
      exact ⟨_, rfl, HA5.out.cf.wasR, HA5.out.cf.bel⟩
     ·rename_i h1 h2 h3 h4 h5 h6
      have hd : doI wordB valueB L ([] : List (List S38)) line = none := (doI1 HM.out).trans (by rw [if_neg (toList_ne_of h3), if_neg (fun e => e.elim (toList_ne_of h5.1) (toList_ne_of h5.2))])
      go_ret2
      rw [confO_bad (HST.out.trans (by rw [hd]))]
      exact ⟨_, rfl, HA5.out.cf.wasR, HA5.out.cf.bel⟩
    ·have hm : (pieces line).length = 1 := by rw [hP]; rfl
     have e0 := (pieces_one hP).symm
     subst e0
     have HOL := Aside0.mk HA.out.cf.len
     obtain ⟨K1, K2, rfl⟩ : ∃ K1 K2, Ks = K1 ++ [K2] := ⟨Ks.dropLast, Ks.getLast hKs, (List.dropLast_concat_getLast hKs).symm⟩
     have hBs : Bs ≠ [] := fun e => by have := HOL.out; rw [e] at this; simp at this
     obtain ⟨B1, b2, rfl⟩ : ∃ B1 b2, Bs = B1 ++ [b2] := ⟨Bs.dropLast, Bs.getLast hBs, (List.dropLast_concat_getLast hBs).symm⟩
     have hBK : B1.length = K1.length := by have := HOL.out; simpa using this
     have hll : (K1 ++ [K2]).length = K1.length + 1 := by simp
     have hlb : (B1 ++ [b2]).length = K1.length + 1 := by simp [hBK]
     rw [hll] at HA
     rw [hll]
     obtain ⟨ad, rfl, hlast⟩ := HA.out.cf.last
     rw [hBK] at hlast
     obtain ⟨q, hq⟩ : ∃ q, K1.length = q := ⟨_, rfl⟩
     have hk4 : q + 1 ≤ 4 := by have := HA.out.k4; rw [hll, hq] at this; exact this
     rw [hq] at hlast HA ⊢
     have hcap : q + 1 ≤ c8 := by
      obtain ⟨A', c', he, hc', _⟩ := Kd.R_reads HA.out.cf.row
      injection he with e1 e2 e3
      rw [e3, e2]; exact hc'
     have hq1 : ∀ m : Nat, m = q → wrap64 (((m : Int) + 1) - 1) = (m : Int) := fun m hm => (w64 (by omega) (by omega)).trans (by omega)
     have HQ := Aside0.mk hq
     have HBK := Aside0.mk hBK
     have HLL := Aside0.mk hll
     have HLB := Aside0.mk hlb
     clear hBs hKs hq hBK hll hlb
     have HP := Aside0.mk hP
     have SP : Aside0 (∀ w4, MaxCell w4 → Calls Tryd.prog 35 #[.string line, .string ⟨#[32]⟩] w4 fun e w' => ∃ g, e = .returned (.slice (some ⟨g, 0, none⟩) 1 1) ∧ w'.cell? ⟨g, 0, none⟩ = some (.string line) ∧ Below w4.heap.size w4 w') := ⟨fun w4 hm0 => (SPL.out w4 hm0).mono fun e w' ⟨g, h1, h2, h3⟩ => by
      rw [hm] at h1
      have c0 := h2 0 (by rw [hm]; omega)
      rw [hP] at c0
      exact ⟨g, h1, c0, h3⟩⟩
     clear hP hpp SPL HPS
     have HM := Aside0.mk hm
     clear hm
     have HW1 := Aside0.mk (show wrap64 ((n : Int) + 1) = ((n + 1 : Nat) : Int) from (w64 (by omega) (by omega)).trans (by omega))
     go_wp2_with (first
      | (go_at_call 34; (with_reducible refine CU.out.mono ?_); rintro e w4 ⟨rfl, hb4⟩; have HA4 := Aside0.mk (HA.out.below hb4); have hlast4 := (hb4.cell (World.block_lt_of_cell? wr _ hlast)).trans hlast)
      | (go_at_call 35; (with_reducible refine (SP.out _ HA4.out.max).mono ?_); rintro e w5 ⟨g5, rfl, hx0, hb5⟩; have HA5 := Aside0.mk (HA4.out.below hb5); have ho5 := (Aside0.mk (owns_at (owns_at HO.out.2 hb4 HO.out.2.lt) hb5 (Nat.lt_of_lt_of_le HO.out.2.lt hb4.size))); have hlast5 := (hb5.cell (World.block_lt_of_cell? w4 _ hlast4)).trans hlast4; clear hlast4; clear hb4 hb5)
      | (go_at_call 24; (with_reducible refine (clone_calls b nm (mapE L) w5 ho5.out).mono ?_); rintro e w6 ⟨rfl, ho6, ho56, hb6⟩; have HA6 := Aside0.mk (HA5.out.below hb6))
      | ((with_reducible refine gate_builtin (b := .append) (xs := #[.tmp 118, .tmp 121]) rfl ?_); at_builtin; refine Kd.R_append kM (w0 := w6) w.heap.size rfl (.tmp 118) (.tmp 121) 67 45 (.map none) 8 rfl Tryd.underlying67 info45 rfl (by decide) (by omega) (.slice (some ad) (q + 1) c8) (B1 ++ [b2]) w5.heap.size [.map (some w5.heap.size)] (fun _ => True) (fun _ => False) rfl rfl ?aP (fun _ hk => hk.elim) ?aF ?aO (Below.refl _ _) ?aS ?aL ?_; (case aP => rfl); (case aF => exact fun _ _ => trivial); (case aO => exact Kd.R_mono HA6.out.cf.row (fun _ _ => trivial)); (case aS => exact HA6.out.cf.bel.size); (case aL => rw [HLB.out, HQ.out]; omega); intro v7 w7 hr7 hb7 hg7 hat7))
     ·rename_i h1
      have hd : doI wordB valueB L (K1 ++ [K2]) line = none := (doI1 HM.out).trans (by rw [if_neg (fun e => absurd (((toList_lit _ _).mp h1).symm.trans e) (by decide)), if_neg (fun e => e.elim (fun e => absurd (((toList_lit _ _).mp h1).symm.trans e) (by decide)) (fun e => absurd (((toList_lit _ _).mp h1).symm.trans e) (by decide)))])
      go_ret2
      rw [confO_bad (HST.out.trans (by rw [hd]))]
      exact ⟨_, rfl, HA5.out.cf.wasR, HA5.out.cf.bel⟩
     ·rename_i h1 h2
      have hd : doI wordB valueB L (K1 ++ [K2]) line = none := (doI1 HM.out).trans (by rw [if_neg (fun e => absurd (((toList_lit _ _).mp h2).symm.trans e) (by decide)), if_neg (fun e => e.elim (fun e => absurd (((toList_lit _ _).mp h2).symm.trans e) (by decide)) (fun e => absurd (((toList_lit _ _).mp h2).symm.trans e) (by decide)))])
      go_ret2
      rw [confO_bad (HST.out.trans (by rw [hd]))]
      exact ⟨_, rfl, HA5.out.cf.wasR, HA5.out.cf.bel⟩
     ·rename_i h1 h2 h3 h4
      have c7 := HA5.out.cf.push ⟨nm, HO.out.1, ho6⟩ rfl hb6 hr7 hb7 hg7
      have hd : doI wordB valueB L (K1 ++ [K2]) line = some (L, (K1 ++ [K2]) ++ [L]) := (doI1 HM.out).trans (by rw [if_pos (toList_eq_of h3), if_pos (by rw [HLL.out, HQ.out]; omega)])
      go_roundg g'
      case measure => omega
      case rel => exact ⟨rest, b, _, _, _, _, n + 1, rfl, rfl, rfl, by first | rfl | rw [HW1.out] | go_num, ⟨At.next hT HX.out HA.out HST.out hd hrs (c7.less (Nat.le_succ _)) (by rw [List.length_append, HLL.out, HQ.out, List.length_singleton]; omega)⟩⟩
     ·rename_i h1 h2 h3 h4 h5
      have hd : doI wordB valueB L (K1 ++ [K2]) line = none := (doI1 HM.out).trans (by rw [if_pos (toList_eq_of h3), if_neg (by rw [HLL.out, HQ.out]; omega)])
      go_ret2
      rw [confO_bad (HST.out.trans (by rw [hd]))]
      exact ⟨_, rfl, HA5.out.cf.wasR, HA5.out.cf.bel⟩
     ·exfalso
      rename_i h4 h5
      simp at h5
      omega
     ·rename_i h1 h2 h3 h4
      have c6 : Cf w w5 (g' + 1) vW l0 b L (.slice (some ad) q c8) B1 K1 := by have h_ := HA5.out.cf.pop; rw [HLB.out, Nat.add_sub_cancel, HQ.out, List.dropLast_concat, List.dropLast_concat] at h_; exact h_
      have hd : doI wordB valueB L (K1 ++ [K2]) line = some (L, K1) := (doI1 HM.out).trans (by rw [if_neg (toList_ne_of h3), if_pos (.inl ((toList_lit _ _).mp h4)), if_pos (by rw [HLL.out]; exact Nat.succ_pos _), if_neg (fun e => absurd (((toList_lit _ _).mp h4).symm.trans e) (by decide)), List.dropLast_concat])
      go_roundg g'
      case measure => omega
      case rel => exact ⟨rest, b, L, _, B1, K1, n + 1, rfl, rfl, rfl, by first | rfl | rw [HW1.out] | go_num, ⟨At.next hT HX.out HA.out HST.out hd hrs (c6.less (Nat.le_succ _)) (by rw [HQ.out]; omega)⟩⟩
     ·rename_i h1 h2 h3 h4 h5 h6
      have c6 : Cf w w5 (g' + 1) vW l0 b2 K2 (.slice (some ad) q c8) B1 K1 := by have h_ := HA5.out.cf.back; rw [HBK.out, HQ.out] at h_; exact h_
      have hd : doI wordB valueB L (K1 ++ [K2]) line = some (K2, K1) := (doI1 HM.out).trans (by rw [if_neg (toList_ne_of h3), if_pos (.inr (toList_eq_of h6)), if_pos (by rw [HLL.out]; exact Nat.succ_pos _), if_pos (toList_eq_of h6), List.dropLast_concat, List.getLastD_concat])
      go_roundg g'
      case measure => omega
      case rel => exact ⟨rest, b2, K2, _, B1, K1, n + 1, rfl, rfl, rfl, by first | rfl | rw [HW1.out] | go_num, ⟨At.next hT HX.out HA.out HST.out hd hrs (c6.less (Nat.le_succ _)) (by rw [HQ.out]; omega)⟩⟩
     ·exfalso
      rename_i h4 h5 h6
      rcases h5 with h5 | h5
      ·exact h4 (eq_of_beq h5)
      ·rw [h5] at h6; cases h6
     ·rename_i h1 h2 h3 h4 h5 h6
      have hd : doI wordB valueB L (K1 ++ [K2]) line = none := (doI1 HM.out).trans (by rw [if_neg (toList_ne_of h3), if_neg (fun e => e.elim (toList_ne_of h5.1) (toList_ne_of h5.2))])
      go_ret2
      rw [confO_bad (HST.out.trans (by rw [hd]))]
      exact ⟨_, rfl, HA5.out.cf.wasR, HA5.out.cf.bel⟩
     ·rename_i h1 h2 h3 h4 h5 h6
      have hd : doI wordB valueB L (K1 ++ [K2]) line = none := (doI1 HM.out).trans (by rw [if_neg (toList_ne_of h3), if_neg (fun e => e.elim (toList_ne_of h5.1) (toList_ne_of h5.2))])
      go_ret2
      rw [confO_bad (HST.out.trans (by rw [hd]))]
      exact ⟨_, rfl, HA5.out.cf.wasR, HA5.out.cf.bel⟩
   ·have hm : (pieces line).length = 2 := by rw [hP]; rfl
    have HP := Aside0.mk hP
    have hs1 : p1.size ≤ 3000 := by have := HPS.out 1; rw [hP] at this; exact this
    have SP : Aside0 (∀ w4, MaxCell w4 → Calls Tryd.prog 35 #[.string line, .string ⟨#[32]⟩] w4 fun e w' => ∃ g, e = .returned (.slice (some ⟨g, 0, none⟩) 2 2) ∧ w'.cell? ⟨g, 0, none⟩ = some (.string p0) ∧ w'.cell? ⟨g, 1, none⟩ = some (.string p1) ∧ Below w4.heap.size w4 w') := ⟨fun w4 hm0 => (SPL.out w4 hm0).mono fun e w' ⟨g, h1, h2, h3⟩ => by
     rw [hm] at h1
     have c0 := h2 0 (by rw [hm]; omega)
     have c1 := h2 1 (by rw [hm]; omega)
     rw [hP] at c0 c1
     exact ⟨g, h1, c0, c1, h3⟩⟩
    have hkey : keyOf Tryd.prog 9 (.string p1) = some (.string p1.data.toList) := keyOf_string_mk Tryd.underlying9 (by unfold maxLen; omega)
    have hz0 : R9 (.string ⟨#[]⟩) = some (.lit (.string []), []) := plainElem_string Tryd.underlying9 (by decide)
    have LS := Aside0.mk (getS_spec L p1)
    obtain ⟨x, there, hx⟩ : ∃ x there, getS L p1 = (x, there) := ⟨_, _, rfl⟩
    have HGX := Aside0.mk hx
    rw [hx] at LS
    have hl1 := lit_ne (line := line) pieces_begin (by rw [hm]; omega)
    have hl2 := lit_ne (line := line) pieces_commit (by rw [hm]; omega)
    have hl3 := lit_ne (line := line) pieces_abort (by rw [hm]; omega)
    clear hP hpp SPL HPS hx
    have HM := Aside0.mk hm
    clear hm
    have HW1 := Aside0.mk (show wrap64 ((n : Int) + 1) = ((n + 1 : Nat) : Int) from (w64 (by omega) (by omega)).trans (by omega))
    go_wp2_with (first
     | (go_at_call 34; (with_reducible refine CU.out.mono ?_); rintro e w4 ⟨rfl, hb4⟩; have HA4 := Aside0.mk (HA.out.below hb4))
     | (go_at_call 35; (with_reducible refine (SP.out _ HA4.out.max).mono ?_); rintro e w5 ⟨g5, rfl, hx0, hx1, hb5⟩; have HA5 := Aside0.mk (HA4.out.below hb5); have ho5 := (Aside0.mk (owns_at (owns_at HO.out.2 hb4 HO.out.2.lt) hb5 (Nat.lt_of_lt_of_le HO.out.2.lt hb4.size))); clear hb4 hb5)
     | (at_lookup; refine wpList_lookup_own_ok _ rfl _ _ 45 rfl 9 9 law9 Tryd.underlying45 R9 (zero9 _) _ [] hz0 b nm _ rfl ho5.out _ _ rfl hkey ?_; intro v ps hv; rw [LS.out.1] at hv; rw [LS.out.2]; obtain ⟨s, rfl, hz, hsz⟩ := plainElem_string_inv Tryd.underlying9 hv; obtain rfl : x = s := bytes_ext (by injection (congrArg Prod.fst hz) with e0; injection e0); clear hv hz)
     | (at_delete; refine wpList_delete_own _ rfl _ _ 45 9 rfl 9 law9 Tryd.underlying45 _ b nm _ rfl ho5.out _ _ rfl hkey ?_; intro w6 ho6 ht6))
    ·rename_i h1
     have hd : doI wordB valueB L Ks line = none := (doI2 HP.out).trans (by rw [if_neg (fun e => absurd (((toList_lit _ _).mp h1).symm.trans e) (by decide))])
     go_ret2
     rw [confO_bad (HST.out.trans (by rw [hd]))]
     exact ⟨_, rfl, HA5.out.cf.wasR, HA5.out.cf.bel⟩
    ·rename_i h1 h2 h3
     have c6 := HA5.out.cf.turn (Nat.le_succ g') ⟨nm, by have := HO.out.1; omega, (mapE_del L p1) ▸ ho6⟩ ht6.grown (HA.out.cf.good.del p1)
     have hd : doI wordB valueB L Ks line = none := (doI2 HP.out).trans (by rw [if_pos ((toList_lit _ _).mp h2), HGX.out, if_neg (fun h => by rw [show there = true from h] at h3; exact absurd h3 (by decide))])
     go_ret2
     rw [confO_bad (HST.out.trans (by rw [hd]))]
     exact ⟨_, rfl, c6.wasR, c6.bel⟩
    ·rename_i h1 h2 h3
     have c6 := HA5.out.cf.turn (Nat.le_succ g') ⟨nm, by have := HO.out.1; omega, (mapE_del L p1) ▸ ho6⟩ ht6.grown (HA.out.cf.good.del p1)
     have hd : doI wordB valueB L Ks line = some (delS L p1, Ks) := (doI2 HP.out).trans (by rw [if_pos ((toList_lit _ _).mp h2), HGX.out, if_pos (by simpa using h3)])
     go_roundg g'
     case measure => omega
     case rel => exact ⟨rest, b, _, _, Bs, Ks, n + 1, rfl, rfl, rfl, by first | rfl | rw [HW1.out] | go_num, ⟨At.next hT HX.out HA.out HST.out hd hrs c6 HA.out.k4⟩⟩
    ·rename_i h1 h2 h3
     have hd : doI wordB valueB L Ks line = none := (doI2 HP.out).trans (by rw [if_neg (fun e => h2 ((toList_lit _ _).mpr e))])
     go_ret2
     rw [confO_bad (HST.out.trans (by rw [hd]))]
     exact ⟨_, rfl, HA5.out.cf.wasR, HA5.out.cf.bel⟩
    ·rename_i h1 h2 h3
     have hd : doI wordB valueB L Ks line = none := (doI2 HP.out).trans (by rw [if_neg (fun e => h2 ((toList_lit _ _).mpr e))])
     go_ret2
     rw [confO_bad (HST.out.trans (by rw [hd]))]
     exact ⟨_, rfl, HA5.out.cf.wasR, HA5.out.cf.bel⟩
   ·have hm : (pieces line).length = 3 := by rw [hP]; rfl
    have HP := Aside0.mk hP
    have hs1 : p1.size ≤ 3000 := by have := HPS.out 1; rw [hP] at this; exact this
    have hs2 : p2.size ≤ 3000 := by have := HPS.out 2; rw [hP] at this; exact this
    have SP : Aside0 (∀ w4, MaxCell w4 → Calls Tryd.prog 35 #[.string line, .string ⟨#[32]⟩] w4 fun e w' => ∃ g, e = .returned (.slice (some ⟨g, 0, none⟩) 3 3) ∧ w'.cell? ⟨g, 0, none⟩ = some (.string p0) ∧ w'.cell? ⟨g, 1, none⟩ = some (.string p1) ∧ w'.cell? ⟨g, 2, none⟩ = some (.string p2) ∧ Below w4.heap.size w4 w') := ⟨fun w4 hm0 => (SPL.out w4 hm0).mono fun e w' ⟨g, h1, h2, h3⟩ => by
     rw [hm] at h1
     have c0 := h2 0 (by rw [hm]; omega)
     have c1 := h2 1 (by rw [hm]; omega)
     have c2 := h2 2 (by rw [hm]; omega)
     rw [hP] at c0 c1 c2
     exact ⟨g, h1, c0, c1, c2, h3⟩⟩
    have hkey : keyOf Tryd.prog 9 (.string p1) = some (.string p1.data.toList) := keyOf_string_mk Tryd.underlying9 (by unfold maxLen; omega)
    have hz0 : R9 (.string ⟨#[]⟩) = some (.lit (.string []), []) := plainElem_string Tryd.underlying9 (by decide)
    have LS := Aside0.mk (getS_spec L p1)
    obtain ⟨x, there, hx⟩ : ∃ x there, getS L p1 = (x, there) := ⟨_, _, rfl⟩
    have HGX := Aside0.mk hx
    rw [hx] at LS
    have hval := plainElem_string (H := Unit) Tryd.underlying9 (show p2.size ≤ maxLen by unfold maxLen; omega)
    have HSZ := Aside0.mk (mapE_size L)
    have CW : Aside0 (∀ w', Aside0 (Tabs w') → Calls Tryd.prog 36 #[.string p1] w' fun e w2 => e = .returned (.bool (wordB p1)) ∧ Below w'.heap.size w' w2) := ⟨fun w' h => word_calls p1 w' (by omega) h.out⟩
    have CV : Aside0 (∀ w', Aside0 (Tabs w') → Calls Tryd.prog 37 #[.string p2] w' fun e w2 => e = .returned (.bool (valueB p2)) ∧ Below w'.heap.size w' w2) := ⟨fun w' h => value_calls p2 w' (by omega) h.out⟩
    obtain ⟨wb, hwb⟩ : ∃ wb, wordB p1 = wb := ⟨_, rfl⟩
    obtain ⟨vb, hvb⟩ : ∃ vb, valueB p2 = vb := ⟨_, rfl⟩
    rw [hwb] at CW
    rw [hvb] at CV
    have HWB := Aside0.mk hwb
    have HVB := Aside0.mk hvb
    clear hwb hvb
    have hl1 := lit_ne (line := line) pieces_begin (by rw [hm]; omega)
    have hl2 := lit_ne (line := line) pieces_commit (by rw [hm]; omega)
    have hl3 := lit_ne (line := line) pieces_abort (by rw [hm]; omega)
    clear hP hpp SPL HPS hx
    have HM := Aside0.mk hm
    clear hm
    have HW1 := Aside0.mk (show wrap64 ((n : Int) + 1) = ((n + 1 : Nat) : Int) from (w64 (by omega) (by omega)).trans (by omega))
    go_wp2_with (first
     | (go_at_call 34; (with_reducible refine CU.out.mono ?_); rintro e w4 ⟨rfl, hb4⟩; have HA4 := Aside0.mk (HA.out.below hb4))
     | (go_at_call 35; (with_reducible refine (SP.out _ HA4.out.max).mono ?_); rintro e w5 ⟨g5, rfl, hx0, hx1, hx2, hb5⟩; have HA5 := Aside0.mk (HA4.out.below hb5); have ho5 := (Aside0.mk (owns_at (owns_at HO.out.2 hb4 HO.out.2.lt) hb5 (Nat.lt_of_lt_of_le HO.out.2.lt hb4.size))); clear hb4 hb5)
     | (at_lookup; refine wpList_lookup_own_ok _ rfl _ _ 45 rfl 9 9 law9 Tryd.underlying45 R9 (zero9 _) _ [] hz0 b nm _ rfl ho5.out _ _ rfl hkey ?_; intro v ps hv; rw [LS.out.1] at hv; rw [LS.out.2]; obtain ⟨s, rfl, hz, hsz⟩ := plainElem_string_inv Tryd.underlying9 hv; obtain rfl : x = s := bytes_ext (by injection (congrArg Prod.fst hz) with e0; injection e0); clear hv hz)
     | (go_at_call 36; (with_reducible refine (CW.out _ HA5.out.tabs).mono ?_); rintro e w6 ⟨rfl, hb6⟩; have HA6 := Aside0.mk (HA5.out.below hb6); have hx16 := (hb6.cell (World.block_lt_of_cell? w5 _ hx1)).trans hx1; have hx26 := (hb6.cell (World.block_lt_of_cell? w5 _ hx2)).trans hx2; have ho6 := Aside0.mk (owns_at ho5.out hb6 ho5.out.lt); clear hb6)
     | (go_at_call 37; (with_reducible refine (CV.out _ HA6.out.tabs).mono ?_); rintro e w7 ⟨rfl, hb7⟩; have HA7 := Aside0.mk (HA6.out.below hb7); have hx17 := (hb7.cell (World.block_lt_of_cell? w6 _ hx16)).trans hx16; have hx27 := (hb7.cell (World.block_lt_of_cell? w6 _ hx26)).trans hx26; have ho7 := Aside0.mk (owns_at ho6.out hb7 ho6.out.lt); clear hb7)
     | (at_len; refine wpList_len_want _ (by first | rfl | (go_simp; done)) _ 45 rfl 9 9 Tryd.underlying45 R9 b nm _ rfl ho7.out ?_; rw [HSZ.out]))
    ·rename_i h1 h2 h3 h4
     have hcl : (getS L p1).2 = true ∨ L.length < 40 := by rw [HGX.out]; exact .inl h4
     have hd : doI wordB valueB L Ks line = some (setS L ⟨p1, p2⟩, Ks) := (doI3 HP.out).trans (by rw [if_pos ((toList_lit _ _).mp h1), if_pos ⟨HWB.out.trans h2, HVB.out.trans h3, hcl⟩])
     go_still_tail 7, (by kernel_rfl)
     show wpList _ _ _ _ _ (World.drew _)
     have HA8 := Aside0.mk (HA7.out.below (below_drew1 (Below.refl _ _)))
     have ho8 := Aside0.mk (show w7.drew.ownsMap Tryd.prog 9 R9 b nm (mapE L) from ho7.out)
     have hx18 : w7.drew.cell? ⟨g5, 1, none⟩ = some (.string p1) := hx17
     have hx28 : w7.drew.cell? ⟨g5, 2, none⟩ = some (.string p2) := hx27
     clear hx0 hx1 hx2 hx16 hx26 hx17 hx27 ho5 ho6 ho7
     generalize w7.drew = w8 at HA8 ho8 hx18 hx28 ⊢
     go_wp2_with (first | (at_mapUpdate; refine wpList_mapUpdate_own _ rfl _ _ _ 45 rfl 9 9 law9 Tryd.underlying45 _ b nm _ rfl ho8.out (by have := HO.out.1; unfold maxLen; omega) _ _ _ rfl rfl hkey _ [] hval ?_; intro w9 ho9 hg9))
     rw [mapE_put L ⟨p1, p2⟩] at ho9
     have c9 := HA8.out.cf.turn (Nat.le_succ g') ⟨nm + 1, by have := HO.out.1; omega, ho9⟩ hg9 (HA.out.cf.good.set ⟨p1, p2⟩ hcl ⟨by show p1.size ≤ _; omega, by show p2.size ≤ _; omega⟩)
     go_roundg g'
     case measure => omega
     case rel => exact ⟨rest, b, _, _, Bs, Ks, n + 1, rfl, rfl, rfl, by first | rfl | rw [HW1.out] | go_num, ⟨At.next hT HX.out HA.out HST.out hd hrs c9 HA.out.k4⟩⟩
    ·rename_i h1 h2 h3 h4 h5
     have hcl : (getS L p1).2 = true ∨ L.length < 40 := by rw [HGX.out]; exact .inr (by omega)
     have hd : doI wordB valueB L Ks line = some (setS L ⟨p1, p2⟩, Ks) := (doI3 HP.out).trans (by rw [if_pos ((toList_lit _ _).mp h1), if_pos ⟨HWB.out.trans h2, HVB.out.trans h3, hcl⟩])
     go_still_tail 7, (by kernel_rfl)
     show wpList _ _ _ _ _ (World.drew _)
     have HA8 := Aside0.mk (HA7.out.below (below_drew1 (Below.refl _ _)))
     have ho8 := Aside0.mk (show w7.drew.ownsMap Tryd.prog 9 R9 b nm (mapE L) from ho7.out)
     have hx18 : w7.drew.cell? ⟨g5, 1, none⟩ = some (.string p1) := hx17
     have hx28 : w7.drew.cell? ⟨g5, 2, none⟩ = some (.string p2) := hx27
     clear hx0 hx1 hx2 hx16 hx26 hx17 hx27 ho5 ho6 ho7
     generalize w7.drew = w8 at HA8 ho8 hx18 hx28 ⊢
     go_wp2_with (first | (at_mapUpdate; refine wpList_mapUpdate_own _ rfl _ _ _ 45 rfl 9 9 law9 Tryd.underlying45 _ b nm _ rfl ho8.out (by have := HO.out.1; unfold maxLen; omega) _ _ _ rfl rfl hkey _ [] hval ?_; intro w9 ho9 hg9))
     rw [mapE_put L ⟨p1, p2⟩] at ho9
     have c9 := HA8.out.cf.turn (Nat.le_succ g') ⟨nm + 1, by have := HO.out.1; omega, ho9⟩ hg9 (HA.out.cf.good.set ⟨p1, p2⟩ hcl ⟨by show p1.size ≤ _; omega, by show p2.size ≤ _; omega⟩)
     go_roundg g'
     case measure => omega
     case rel => exact ⟨rest, b, _, _, Bs, Ks, n + 1, rfl, rfl, rfl, by first | rfl | rw [HW1.out] | go_num, ⟨At.next hT HX.out HA.out HST.out hd hrs c9 HA.out.k4⟩⟩
    ·rename_i h1 h2 h3 h4 h5 h6
     have hd : doI wordB valueB L Ks line = none := (doI3 HP.out).trans (by rw [if_pos ((toList_lit _ _).mp h1), HGX.out, if_neg (fun h => h.2.2.elim h4 (by omega))])
     go_ret2
     rw [confO_bad (HST.out.trans (by rw [hd]))]
     exact ⟨_, rfl, HA7.out.cf.wasR, HA7.out.cf.bel⟩
    ·exfalso
     rename_i h5 h6
     simp at h6
     omega
    ·rename_i h1 h2 h3
     have hd : doI wordB valueB L Ks line = none := (doI3 HP.out).trans (by rw [if_pos ((toList_lit _ _).mp h1), if_neg (fun h => h3 (HVB.out.symm.trans h.2.1))])
     go_ret2
     rw [confO_bad (HST.out.trans (by rw [hd]))]
     exact ⟨_, rfl, HA7.out.cf.wasR, HA7.out.cf.bel⟩
    ·rename_i h1 h2
     have hd : doI wordB valueB L Ks line = none := (doI3 HP.out).trans (by rw [if_pos ((toList_lit _ _).mp h1), if_neg (fun h => h2 (HWB.out.symm.trans h.1))])
     go_ret2
     rw [confO_bad (HST.out.trans (by rw [hd]))]
     exact ⟨_, rfl, HA6.out.cf.wasR, HA6.out.cf.bel⟩
    ·rename_i h1 h2
     have hd : doI wordB valueB L Ks line = none := (doI3 HP.out).trans (by rw [if_neg (fun e => h1 ((toList_lit _ _).mpr e)), if_neg (fun e => absurd (((toList_lit _ _).mp h2).symm.trans e) (by decide))])
     go_ret2
     rw [confO_bad (HST.out.trans (by rw [hd]))]
     exact ⟨_, rfl, HA5.out.cf.wasR, HA5.out.cf.bel⟩
    ·rename_i h1 h2 h3 h4 h5
     have hd : doI wordB valueB L Ks line = none := (doI3 HP.out).trans (by rw [if_neg (fun e => h1 ((toList_lit _ _).mpr e)), if_pos ((toList_lit _ _).mp h3), HGX.out, if_neg (fun h => by rw [toList_beq, decide_eq_true h.2] at h5; exact absurd h5 (by decide))])
     go_ret2
     rw [confO_bad (HST.out.trans (by rw [hd]))]
     exact ⟨_, rfl, HA5.out.cf.wasR, HA5.out.cf.bel⟩
    ·rename_i h1 h2 h3 h4 h5
     have hd : doI wordB valueB L Ks line = some (L, Ks) := (doI3 HP.out).trans (by rw [if_neg (fun e => h1 ((toList_lit _ _).mpr e)), if_pos ((toList_lit _ _).mp h3), HGX.out, if_pos ⟨h4, by rw [toList_beq] at h5; simpa using h5⟩])
     go_roundg g'
     case measure => omega
     case rel => exact ⟨rest, b, L, _, Bs, Ks, n + 1, rfl, rfl, rfl, by first | rfl | rw [HW1.out] | go_num, ⟨At.next hT HX.out HA.out HST.out hd hrs (HA5.out.cf.less (Nat.le_succ _)) HA.out.k4⟩⟩
    ·rename_i h1 h2 h3 h4
     have hd : doI wordB valueB L Ks line = none := (doI3 HP.out).trans (by rw [if_neg (fun e => h1 ((toList_lit _ _).mpr e)), if_pos ((toList_lit _ _).mp h3), HGX.out, if_neg (fun h => h4 h.1)])
     go_ret2
     rw [confO_bad (HST.out.trans (by rw [hd]))]
     exact ⟨_, rfl, HA5.out.cf.wasR, HA5.out.cf.bel⟩
    ·rename_i h1 h2 h3
     have hd : doI wordB valueB L Ks line = none := (doI3 HP.out).trans (by rw [if_neg (fun e => h1 ((toList_lit _ _).mpr e)), if_neg (fun e => h3 ((toList_lit _ _).mpr e))])
     go_ret2
     rw [confO_bad (HST.out.trans (by rw [hd]))]
     exact ⟨_, rfl, HA5.out.cf.wasR, HA5.out.cf.bel⟩
   ·have hm4 : 4 ≤ (pieces line).length := by rw [hP]; simp
    obtain ⟨m, hm⟩ : ∃ m, (pieces line).length = m := ⟨_, rfl⟩
    rw [hm] at hm4
    have hm3 : ((m : Int) = 3) = False := eq_false (by omega)
    have hm2 : ((m : Int) = 2) = False := eq_false (by omega)
    have hP0 : (pieces line).getD 0 ⟨#[]⟩ = p0 := by rw [hP]; rfl
    have HP := Aside0.mk hP
    have SP : Aside0 (∀ w4, MaxCell w4 → Calls Tryd.prog 35 #[.string line, .string ⟨#[32]⟩] w4 fun e w' => ∃ g, e = .returned (.slice (some ⟨g, 0, none⟩) m m) ∧ w'.cell? ⟨g, 0, none⟩ = some (.string p0) ∧ Below w4.heap.size w4 w') := ⟨fun w4 hm0 => (SPL.out w4 hm0).mono fun e w' ⟨g, h1, h2, h3⟩ => by
     rw [hm] at h1
     have c0 := h2 0 (by rw [hm]; omega)
     rw [hP] at c0
     exact ⟨g, h1, c0, h3⟩⟩
    have hl1 := lit_ne (line := line) pieces_begin (by rw [hm]; omega)
    have hl2 := lit_ne (line := line) pieces_commit (by rw [hm]; omega)
    have hl3 := lit_ne (line := line) pieces_abort (by rw [hm]; omega)
    clear hP hpp SPL HPS
    have HM := Aside0.mk hm
    clear hm
    have HW1 := Aside0.mk (show wrap64 ((n : Int) + 1) = ((n + 1 : Nat) : Int) from (w64 (by omega) (by omega)).trans (by omega))
    go_wp2_with (first
     | (go_at_call 34; (with_reducible refine CU.out.mono ?_); rintro e w4 ⟨rfl, hb4⟩; have HA4 := Aside0.mk (HA.out.below hb4))
     | (go_at_call 35; (with_reducible refine (SP.out _ HA4.out.max).mono ?_); rintro e w5 ⟨g5, rfl, hx0, hb5⟩; have HA5 := Aside0.mk (HA4.out.below hb5); have ho5 := (Aside0.mk (owns_at (owns_at HO.out.2 hb4 HO.out.2.lt) hb5 (Nat.lt_of_lt_of_le HO.out.2.lt hb4.size))); clear hb4 hb5))
    ·have hd : doI wordB valueB L Ks line = none := doI4 (by rw [HM.out]; exact hm4)
     go_ret2
     rw [confO_bad (HST.out.trans (by rw [hd]))]
     exact ⟨_, rfl, HA5.out.cf.wasR, HA5.out.cf.bel⟩
    ·have hd : doI wordB valueB L Ks line = none := doI4 (by rw [HM.out]; exact hm4)
     go_ret2
     rw [confO_bad (HST.out.trans (by rw [hd]))]
     exact ⟨_, rfl, HA5.out.cf.wasR, HA5.out.cf.bel⟩
    ·have hd : doI wordB valueB L Ks line = none := doI4 (by rw [HM.out]; exact hm4)
     go_ret2
     rw [confO_bad (HST.out.trans (by rw [hd]))]
     exact ⟨_, rfl, HA5.out.cf.wasR, HA5.out.cf.bel⟩
    ·have hd : doI wordB valueB L Ks line = none := doI4 (by rw [HM.out]; exact hm4)
     go_ret2
     rw [confO_bad (HST.out.trans (by rw [hd]))]
     exact ⟨_, rfl, HA5.out.cf.wasR, HA5.out.cf.bel⟩

/-- What the contract asks of the settings that are handed in. -/
def ConfOk (l : List S38) (t : ByteArray) : Prop := Fine l ∧ t.size ≤ 2097152 ∧ ((∃ k, impl_SettingsOk.f k l = some true) → Asc l ∧ l.length ≤ 40)
set_option maxHeartbeats 4000000 in
set_option maxRecDepth 100000 in
theorem conf_calls (k : Nat) (A0 : Option Addr) (c0 : Nat) (l0 : List S38) (a1 : ByteArray) (t : Bool) (w : World) (hT : Aside0 (Tabs w)) (hr0 : Kd.C k38 w A0 l0.length l0) (hc0 : l0.length ≤ c0) (c : ConfOk l0 a1) (h1 : impl_SettingsOk.f k l0 = some t)
  (r1 : List S38) (r2 : Int) (h2 : (if t = true ∧ a1.size ≤ 3000 then some ((confO l0 a1).1, ((confO l0 a1).2 : Int)) else some (l0, -1)) = some (r1, r2)) :
  Calls Tryd.prog 13 #[.slice A0 l0.length c0, .string a1] w fun e w' => ∃ v0_ : Value, e = .returned (.tuple #[v0_, .int .i64 r2]) ∧ Kd.R k38 38 w' w.heap.size (fun _ => True) v0_ r1 ∧ Below w.heap.size w w' := by
 have hS : ∀ w1, Below w.heap.size w w1 → Calls Tryd.prog 22 #[.slice A0 l0.length c0] w1 fun e w' => e = .returned (.bool t) ∧ Below w1.heap.size w1 w' := fun w1 hb => impl_SettingsOk.calls k A0 c0 l0 t w1 (tabs_at hT hb) (Kd.C_below hr0 hb) hc0 h1
 by_cases hg : t = true ∧ a1.size ≤ 3000
 ·rw [if_pos hg, Option.some.injEq, Prod.mk.injEq] at h2
  obtain ⟨rfl, rfl⟩ := h2
  obtain ⟨rfl, hs⟩ := hg
  obtain ⟨ha, hl⟩ := c.2.2 ⟨k, h1⟩
  exact conf_main A0 c0 l0 a1 w hT hT.out.2 hr0 hc0 hS ⟨ha, hl, c.1.2⟩ hs
 ·rw [if_neg hg, Option.some.injEq, Prod.mk.injEq] at h2
  obtain ⟨rfl, rfl⟩ := h2
  have CC := Aside0.mk (cloneS_calls A0 c0 l0 w hr0 hc0 c.1.1)
  have CS := Aside0.mk hS
  have hz := c.2.1
  clear hS hr0 c h1
  cases t
  ·clear hg
   go_enter Tryd.func13, Tryd.ntmps13
   go_wp2_with (first
    | (go_at_call 33; (with_reducible refine CC.out.mono ?_); rintro e w1 ⟨vW, rfl, hW1, hb1⟩)
    | (go_at_call 22; (with_reducible refine (CS.out _ hb1).mono ?_); rintro e w2 ⟨rfl, hb2⟩; have hb12 := hb1.trans (hb2.mono hb1.size)))
   go_ret2
   exact ⟨_, rfl, Kd.R_below hW1 hb2, hb12⟩
  ·have hq1 : ((3000 : Int) < (a1.size : Int)) = True := eq_true (by simp only [true_and] at hg; omega)
   clear hg
   go_enter Tryd.func13, Tryd.ntmps13
   go_wp2_with (first
    | (go_at_call 33; (with_reducible refine CC.out.mono ?_); rintro e w1 ⟨vW, rfl, hW1, hb1⟩)
    | (go_at_call 22; (with_reducible refine (CS.out _ hb1).mono ?_); rintro e w2 ⟨rfl, hb2⟩; have hb12 := hb1.trans (hb2.mono hb1.size)))
   go_ret2
   exact ⟨_, rfl, Kd.R_below hW1 hb2, hb12⟩
end Hand
end Go.Proofs.YtfepbnolgceadaaDoor.MFnExactConfigure
