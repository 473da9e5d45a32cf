/- The row of the law FnExactAdd18: one struct of a []Talk (a struct of three ints) and two []int. Turned from a printed row over []int, by hand. -/
import Derived.Test.YtngnkfpciloamaaRows
import Derived.Test.YtngnkfpciloamaaMFnExactAdd18x14
import Derived.Test.YtngnkfpciloamaaQFnExactAdd18
import Derived.WalkKit
import Derived.ProofKit
import Derived.OpenShut
import Derived.ShutString
import Derived.ChangeOld
import Derived.Below
import Derived.SizedLaws
import Derived.ChangeArms
import Derived.WideShapes
import Derived.Deep.Matrix
import Derived.Deep.Slices
import Derived.Test.YtngnkfpciloamaaVFnExactAdd18
namespace Go.Proofs.Ytngnkfpciloamaa.fnExactAdd18
open Go.ChangeShapes Go.WideShapes Go.ChangeAt Go.RowKit Go.Deep Go.Proofs.YtngnkfpciloamaaW.PrintWords
open Go.Proofs.Ytngnkfpciloamaa.MFnExactAdd18
set_option linter.unusedVariables false
theorem own : ownKnob Try.prog.godebug = none := by kernel_rfl
theorem laidOut : laidOutB Try.prog = true := by kernel_rfl
/-- A slice of ints that came in, as the walk reads it. -/
theorem ints_in {H : Type} {enc : TypeId × Value → H} {w : World} {cs : List Value} {x : DataW H × List MemPlace} {fuel : Nat} (h : DataW.trod enc Try.prog w 0 (fun _ => true) true fuel 23 cs = some x) :
    ∃ (a0 : Option Addr) (c0 : Nat) (l : List Int), cs = [.slice a0 l.length c0] ∧ (Kd.int .i64).C w a0 l.length l ∧ l.length ≤ c0 ∧ l.length ≤ maxLen := by
  rcases open_ints Try.underlying23 Try.underlying3 (by kernel_rfl) h with ⟨hcs, _⟩ | ⟨a, len, c, zs, hcs, _, hl, hm, hz, _, hcell, hwz⟩
  · exact ⟨none, 0, [], hcs, ⟨rfl, by decide, fun h => absurd h (by decide)⟩, Nat.le_refl _, Nat.zero_le _⟩
  · obtain ⟨l, g1, g2, g3, g4, g5⟩ := ReadsInt.ofRowC (k := .i64) (w := w) (a := some a) (len := len) (cap := c) (zs := zs) (.inr ⟨_, rfl, hl, hm, by simpa using hz, hcell, hwz⟩)
    subst g1
    exact ⟨some a, c, l, hcs, Kd.C_of_reads (d := (0 : Int)) (h1 := fun _ => rfl) g2, g5, g3⟩
/-- A struct of three ints that came in. -/
theorem talk_in {H : Type} {enc : TypeId × Value → H} {w : World} {cs : List Value} {x : DataW H × List MemPlace} {fuel : Nat} (h : DataW.trod enc Try.prog w 0 (fun _ => true) true fuel 54 cs = some x) :
    ∃ a b c : Int, cs = [.int .i64 a, .int .i64 b, .int .i64 c] := by
  obtain ⟨xs, n, _, _, hl, hxl, hf⟩ := DataW.trod_struct Try.underlying54 h
  have hl3 : cs.length = 3 := hl.trans (by kernel_rfl)
  match cs, hl3 with
  | [u0, u1, u2], _ =>
    have g0 := hf 0 _ rfl
    have g1 := hf 1 _ rfl
    have g2 := hf 2 _ rfl
    have one : ∀ {y : Option (DataW H × List MemPlace)} {cs' : List Value}, DataW.trod enc Try.prog w 0 (fun _ => true) true n 3 cs' = y → y.isSome = true → ∃ z, cs' = [.int .i64 z] := by
      intro y cs' hy hs
      obtain ⟨v, hv⟩ := Option.isSome_iff_exists.mp hs
      obtain ⟨z, e, _⟩ := DataW.trod_int Try.underlying3 (hy.trans hv)
      exact ⟨z, e⟩
    have some_ : ∀ i, i < 3 → (xs[i]?).isSome = true := fun i hi => by
      have h3 : xs.length = 3 := hxl.trans (by rfl)
      simp [h3, hi]
    obtain ⟨a, ea⟩ := one g0 (some_ 0 (by decide))
    obtain ⟨b, eb⟩ := one g1 (some_ 1 (by decide))
    obtain ⟨c, ec⟩ := one g2 (some_ 2 (by decide))
    have k1 : Try.prog.cellsOf 3 = 1 := by kernel_rfl
    replace ea : List.take (Try.prog.cellsOf 3) [u0, u1, u2] = [.int .i64 a] := ea
    replace eb : List.take (Try.prog.cellsOf 3) [u1, u2] = [.int .i64 b] := eb
    replace ec : List.take (Try.prog.cellsOf 3) [u2] = [.int .i64 c] := ec
    rw [k1] at ea eb ec
    simp at ea eb ec
    exact ⟨a, b, c, by rw [ea, eb, ec]⟩
/-- A slice of such structs. -/
theorem talks_in {H : Type} {enc : TypeId × Value → H} {w : World} {cs : List Value} {x : DataW H × List MemPlace} {fuel : Nat} (h : DataW.trod enc Try.prog w 0 (fun _ => true) true fuel 22 cs = some x) :
    ∃ (a0 : Option Addr) (c0 : Nat) (l : List S54), cs = [.slice a0 l.length c0] ∧ Kd.C k54 w a0 l.length l ∧ l.length ≤ c0 ∧ l.length ≤ maxLen := by
  rcases open_slice Try.underlying22 h with ⟨hcs, _⟩ | ⟨a, len, cap, m, n, D, Pl, hcs, _, hl, hm, hmm, _, hx⟩
  · exact ⟨none, 0, [], hcs, ⟨rfl, by decide, fun h => absurd h (by decide)⟩, Nat.le_refl _, Nat.zero_le _⟩
  · have hml : len ≤ m := by rw [hmm]; simpa using hl
    have k3 : Try.prog.cellsOf 54 = 3 := by kernel_rfl
    rw [k3] at hx
    have each : ∀ r, r < len → ∃ s : S54, w.cells? 0 (a.add (r * 3)) 3 = some [.int .i64 s.f0, .int .i64 s.f1, .int .i64 s.f2] := by
      intro r hr
      obtain ⟨cs', h1, h2⟩ := hx r (Nat.lt_of_lt_of_le hr hml)
      obtain ⟨x0, x1, x2, rfl⟩ := talk_in h2
      exact ⟨⟨x0, x1, x2⟩, h1⟩
    haveI : Inhabited S54 := ⟨z54⟩
    obtain ⟨f, hf⟩ := choose_lt each
    have hlen : ((List.range len).map f).length = len := by simp
    refine ⟨some a, cap, (List.range len).map f, by rw [hlen]; exact hcs, ⟨rfl, ?_, fun _ => ⟨a, rfl, fun j x hj => ?_⟩⟩, by rw [hlen]; exact hl, by rw [hlen]; exact Nat.le_trans hl hm⟩
    · rw [hlen]; have : maxLen = 9223372036854775807 := rfl; omega
    · simp only [List.getElem?_map] at hj
      obtain ⟨j2, hj2, rfl⟩ := Option.map_eq_some_iff.mp hj
      obtain ⟨hlt, rfl⟩ : j < len ∧ j = j2 := by
        obtain ⟨h1, h2⟩ := List.getElem?_eq_some_iff.mp hj2
        simp only [List.length_range] at h1
        exact ⟨h1, by simpa using h2⟩
      obtain ⟨_, hl3, hc⟩ := World.cells?_some (hf j hlt)
      refine ⟨_, rfl, k54_mk w (f j), fun i u hu => ?_⟩
      obtain ⟨hi, _⟩ := List.getElem?_eq_some_iff.1 hu
      have h4 := hc i (by simpa using hi)
      rw [hu] at h4
      show w.cell? (a.add (j * 3 + i)) = _
      rw [← h4]
      congr 1
      exact (Addr.add_add a (j * 3) i).symm
theorem three {cs : Array Value} {a b c : Value} (hs : cs.size = 3) (h0 : List.take 1 (List.drop 0 cs.toList) = [a]) (h1 : List.take 1 (List.drop 1 cs.toList) = [b]) (h2 : List.take 1 (List.drop 2 cs.toList) = [c]) : cs = #[a, b, c] := by
  obtain ⟨l⟩ := cs
  match l, hs with
  | [u0, u1, u2], _ =>
    simp at h0 h1 h2
    rw [h0, h1, h2]
set_option maxRecDepth 100000 in
set_option maxHeartbeats 8000000 in
theorem lifted (os : Os) (started : os.Started) (H : Type) (enc : TypeId × Value → H) :
    ReturnsInHanded {} Try.checked os 8 .any (Rows.fnExactAdd18Spec.pre6 enc Try.prog Try.f8 Rows.fnExactAdd18Row.domain false) (Rows.fnExactAdd18Spec.post enc Try.prog Try.f8 false true false false) := by
  refine returnsInHanded_of_change_sized (C := Try.checked) own started (by kernel_rfl) Try.func8
    (ChangeSpec.witness6 (enc := enc) (C := Try.checked) false ⟨#[], #[.agg #[.slice none 0 0, .slice none 0 0, .slice none 0 0], .agg #[.int .i64 0, .int .i64 0, .int .i64 0]], []⟩ 8 (by kernel_rfl) (by kernel_rfl) (by kernel_rfl) (by kernel_rfl)) ?_
  intro W base args ds gs before hval0 hW hcnd hsz0 _
  have hval : ∀ (j : Nat) t v, Try.f8.params[j]? = some t → args[j]? = some v → Value.okWide Try.prog W .any base t v := hval0
  have hW' := hW
  obtain ⟨p, q, hA0, hV, rfl, hfz, hnd⟩ := hW
  have hA : DataW.TrodAll enc Try.prog W 0 (fun _ => true) true Try.f8.params.toList args.toList ds p := hA0
  rw [Try.params8] at hA hval
  obtain ⟨v0, vs0, d0, ds0, p0, q0, hargs, rfl, rfl, h0, r0⟩ := trodAll_cons hA
  obtain ⟨v1, vs1, d1, ds1, p1, q1, rfl, rfl, rfl, h1, r1⟩ := trodAll_cons r0
  obtain ⟨rfl, rfl, rfl⟩ := trodAll_nil r1
  obtain rfl : args = #[v0, v1] := by cases args; simp_all
  obtain ⟨rfl, rfl⟩ := trodVars_none hV
  obtain ⟨cs, rfl, hsz⟩ := okWide_struct Try.underlying25 (hval 0 25 v0 rfl rfl)
  have k0 := h0
  have lt0 : ∀ x ∈ p0, x.block < W.heap.size := by obtain ⟨m, hm⟩ := k0; exact DataW.trod_lt m _ _ _ hm
  obtain ⟨A0, c0, T, A1, c1, L, A2, c2, C, hcs, hT, hT1, hT2, hL, hL1, hL2, hC, hC1, hC2⟩ : ∃ (A0 : Option Addr) (c0 : Nat) (T : List S54) (A1 : Option Addr) (c1 : Nat) (L : List Int) (A2 : Option Addr) (c2 : Nat) (C : List Int),
      cs = #[.slice A0 T.length c0, .slice A1 L.length c1, .slice A2 C.length c2] ∧ Kd.C k54 W A0 T.length T ∧ T.length ≤ c0 ∧ T.length ≤ maxLen ∧ (Kd.int .i64).C W A1 L.length L ∧ L.length ≤ c1 ∧ L.length ≤ maxLen ∧ (Kd.int .i64).C W A2 C.length C ∧ C.length ≤ c2 ∧ C.length ≤ maxLen := by
    obtain ⟨fuel, hf⟩ := h0
    obtain ⟨xs, n, _, _, hl, hxl, hf⟩ := DataW.trod_struct Try.underlying25 hf
    have some_ : ∀ i, i < 3 → ∃ v, xs[i]? = some v := fun i hi => by
      have h3 : xs.length = 3 := hxl.trans (by rfl)
      exact ⟨xs[i]'(by omega), List.getElem?_eq_getElem _⟩
    have hcl : (Value.agg cs).cells.toList = cs.toList := rfl
    obtain ⟨x0, e0⟩ := some_ 0 (by decide)
    obtain ⟨x1, e1⟩ := some_ 1 (by decide)
    obtain ⟨x2, e2⟩ := some_ 2 (by decide)
    have k1 : Try.prog.cellsOf 23 = 1 := by kernel_rfl
    have k2 : Try.prog.cellsOf 22 = 1 := by kernel_rfl
    have q0 := hf 0 _ rfl
    have q1 := hf 1 _ rfl
    have q2 := hf 2 _ rfl
    rw [e0] at q0
    rw [e1] at q1
    rw [e2] at q2
    clear hf
    obtain ⟨A0, c0, T, g0, T1, T2, T3⟩ := talks_in q0
    obtain ⟨A1, c1, L, g1, L1, L2, L3⟩ := ints_in q1
    obtain ⟨A2, c2, C, g2, C1, C2, C3⟩ := ints_in q2
    clear q0 q1 q2
    have hs3 : cs.size = 3 := hsz.trans (by kernel_rfl)
    refine ⟨A0, c0, T, A1, c1, L, A2, c2, C, ?_, T1, T2, T3, L1, L2, L3, C1, C2, C3⟩
    replace g0 : List.take (Try.prog.cellsOf 22) (List.drop 0 (Value.agg cs).cells.toList) = _ := g0
    replace g1 : List.take (Try.prog.cellsOf 23) (List.drop 1 (Value.agg cs).cells.toList) = _ := g1
    replace g2 : List.take (Try.prog.cellsOf 23) (List.drop 2 (Value.agg cs).cells.toList) = _ := g2
    rw [k2, hcl] at g0
    rw [k1, hcl] at g1 g2
    exact three hs3 g0 g1 g2
  subst hcs
  obtain ⟨cs1, rfl, hsz1⟩ := okWide_struct Try.underlying54 (hval 1 54 v1 rfl rfl)
  have k1 := h1
  have lt1 : ∀ x ∈ p1, x.block < W.heap.size := by obtain ⟨m, hm⟩ := k1; exact DataW.trod_lt m _ _ _ hm
  obtain ⟨a, b, c, hcs1⟩ : ∃ a b c : Int, cs1 = #[.int .i64 a, .int .i64 b, .int .i64 c] := by
    obtain ⟨fuel, hf⟩ := h1
    obtain ⟨a, b, c, h⟩ := talk_in hf
    refine ⟨a, b, c, ?_⟩
    replace h : cs1.toList = _ := h
    exact Array.ext' (h.trans rfl)
  subst hcs1
  clear hA0 hval0
  obtain ⟨k, h⟩ := Pure.FnExactAdd18 T L C a b c hT2 hL2 hC2
  refine (laws_FnExactAdd18.yes k A0 c0 T A1 c1 L A2 c2 C a b c W hT hT1 hL hL1 hC hC1 h).mono fun e W' ⟨he, bel⟩ => ?_
  subst he
  exact ⟨_, rfl, _, _, _, [], _, [], hW', trodAll_mk1 (shut_bool Try.underlying4 _), (trodAll_cons_mk (Below.trod laidOut (by kernel_rfl) (of_decide_eq_true (by kernel_rfl)) k0 bel lt0) (trodAll_cons_mk (Below.trod laidOut (by kernel_rfl) (of_decide_eq_true (by kernel_rfl)) k1 bel lt1) trodAll_mk0)), rfl, bel.frame _, fun h => by cases h⟩
theorem over : Rows.fnExactAdd18Row.holds Try.pinned (OpenSpec.ofChange Rows.fnExactAdd18Spec) :=
  OpenClaim.holds_of_wide 8 Try.f8 rfl rfl rfl rfl rfl rfl rfl ⟨rfl, rfl, rfl, rfl, rfl⟩ rfl rfl rfl rfl rfl (by kernel_rfl) Try.func8 (by kernel_rfl)
    (of_decide_eq_true (by kernel_rfl)) (by unfold Func.isWrapper; first | (rw [if_pos (by decide +kernel)]; kernel_rfl) | (rw [if_neg (by decide +kernel)]; exact ⟨rfl, rfl⟩))
    (fun os started H enc _ => lifted os started H enc)
theorem proved : Rows.FnExactAdd18Said := over
#print axioms proved
end Go.Proofs.Ytngnkfpciloamaa.fnExactAdd18
namespace Go.Proofs.Ytngnkfpciloamaa
/-- The row, under a short name, for the claim. -/
theorem fnExactAdd18_holds : Rows.FnExactAdd18Said := fnExactAdd18.proved
end Go.Proofs.Ytngnkfpciloamaa
