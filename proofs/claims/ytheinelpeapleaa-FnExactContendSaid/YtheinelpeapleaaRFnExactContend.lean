/- The row of the law FnExactContend: ints, slices of ints and of structs of three ints. Turned from a printed row, written by wip/rowgen.py. -/
import Derived.Test.YtheinelpeapleaaRows
import Derived.Test.YtheinelpeapleaaMFnExactContendx7
import Derived.Test.YtheinelpeapleaaQFnExactContend
import Derived.WalkKit
import Derived.ProofKit
import Derived.OpenShut
import Derived.ShutString
import Derived.ChangeOld
import Derived.Below
import Derived.SizedLaws
import Derived.ChangeArms
import Derived.WideShapes
import Derived.Deep.Matrix
import Derived.Deep.Slices
namespace Go.Proofs.Ytheinelpeapleaa.fnExactContend
open Go.ChangeMaps (open_string shut_string)
open Go.ChangeShapes Go.WideShapes Go.ChangeAt Go.RowKit Go.Deep Go.Proofs.YtheinelpeapleaaW.PrintWords
open Go.Proofs.Ytheinelpeapleaa.MFnExactContend
set_option linter.unusedVariables false
theorem own : ownKnob Try.prog.godebug = none := by kernel_rfl
theorem laidOut : laidOutB Try.prog = true := by kernel_rfl
/-- A slice of ints that came in, as the walk reads it. -/
theorem ints_in27 {H : Type} {enc : TypeId × Value → H} {w : World} {cs : List Value} {x : DataW H × List MemPlace} {fuel : Nat} (h : DataW.trod enc Try.prog w 0 (fun _ => true) true fuel 27 cs = some x) :
    ∃ (a0 : Option Addr) (c0 : Nat) (l : List Int), cs = [.slice a0 l.length c0] ∧ (Kd.int .i64).C w a0 l.length l ∧ l.length ≤ c0 ∧ l.length ≤ maxLen := by
  rcases open_ints Try.underlying27 Try.underlying3 (by kernel_rfl) h with ⟨hcs, _⟩ | ⟨a, len, c, zs, hcs, _, hl, hm, hz, _, hcell, hwz⟩
  · exact ⟨none, 0, [], hcs, ⟨rfl, by decide, fun h => absurd h (by decide)⟩, Nat.le_refl _, Nat.zero_le _⟩
  · obtain ⟨l, g1, g2, g3, g4, g5⟩ := ReadsInt.ofRowC (k := .i64) (w := w) (a := some a) (len := len) (cap := c) (zs := zs) (.inr ⟨_, rfl, hl, hm, by simpa using hz, hcell, hwz⟩)
    subst g1
    exact ⟨some a, c, l, hcs, Kd.C_of_reads (d := (0 : Int)) (h1 := fun _ => rfl) g2, g5, g3⟩
/-- A struct of one slice of ints that came in. -/
theorem row_in53 {H : Type} {enc : TypeId × Value → H} {w : World} {cs : List Value} {x : DataW H × List MemPlace} {fuel : Nat} (h : DataW.trod enc Try.prog w 0 (fun _ => true) true fuel 53 cs = some x) :
    ∃ (a0 : Option Addr) (c0 : Nat) (l : List Int), cs = [.slice a0 l.length c0] ∧ (Kd.int .i64).C w a0 l.length l ∧ l.length ≤ c0 ∧ l.length ≤ maxLen := by
  obtain ⟨xs, n, _, _, hl, hxl, hf⟩ := DataW.trod_struct Try.underlying53 h
  have hl1 : cs.length = 1 := hl.trans (by kernel_rfl)
  match cs, hl1 with
  | [u0], _ =>
    have g0 := hf 0 _ rfl
    have s0 : (xs[0]?).isSome = true := by
      have h1 : xs.length = 1 := hxl.trans (by rfl)
      simp [h1]
    obtain ⟨v, hv⟩ := Option.isSome_iff_exists.mp s0
    obtain ⟨a0, c0, l, e, r⟩ := ints_in27 (g0.trans hv)
    have k1 : Try.prog.cellsOf 27 = 1 := by kernel_rfl
    replace e : List.take (Try.prog.cellsOf 27) [u0] = [.slice a0 l.length c0] := e
    rw [k1] at e
    simp at e
    exact ⟨a0, c0, l, by rw [e], r⟩
/-- A slice of such structs. -/
theorem rows_in53 {H : Type} {enc : TypeId × Value → H} {w : World} {cs : List Value} {x : DataW H × List MemPlace} {fuel : Nat} (h : DataW.trod enc Try.prog w 0 (fun _ => true) true fuel 37 cs = some x) :
    ∃ (a0 : Option Addr) (c0 : Nat) (l : List S53), cs = [.slice a0 l.length c0] ∧ Kd.C k53 w a0 l.length l ∧ l.length ≤ c0 ∧ (l.length ≤ maxLen ∧ ∀ x ∈ l, x.f0.length ≤ maxLen) := by
  rcases open_slice Try.underlying37 h with ⟨hcs, _⟩ | ⟨a, len, cap, m, n, D, Pl, hcs, _, hl, hm, hmm, _, hx⟩
  · exact ⟨none, 0, [], hcs, ⟨rfl, by decide, fun h => absurd h (by decide)⟩, Nat.le_refl _, Nat.zero_le _, fun x hx => by simp at hx⟩
  · have hml : len ≤ m := by rw [hmm]; simpa using hl
    have k1 : Try.prog.cellsOf 53 = 1 := by kernel_rfl
    rw [k1] at hx
    have each : ∀ r, r < len → ∃ y : S53 × Option Addr × Nat, w.cells? 0 (a.add (r * 1)) 1 = some [.slice y.2.1 y.1.f0.length y.2.2] ∧ (Kd.int .i64).C w y.2.1 y.1.f0.length y.1.f0 ∧ y.1.f0.length ≤ y.2.2 ∧ y.1.f0.length ≤ maxLen := by
      intro r hr
      obtain ⟨cs', h1, h2⟩ := hx r (Nat.lt_of_lt_of_le hr hml)
      obtain ⟨a0, c0, l, rfl, g1, g2, g3⟩ := row_in53 h2
      exact ⟨(⟨l⟩, a0, c0), h1, g1, g2, g3⟩
    haveI : Inhabited (S53 × Option Addr × Nat) := ⟨(z53, none, 0)⟩
    obtain ⟨f, hf⟩ := choose_lt each
    have hlen : ((List.range len).map fun j => (f j).1).length = len := by simp
    refine ⟨some a, cap, (List.range len).map fun j => (f j).1, by rw [hlen]; exact hcs, ⟨rfl, ?_, fun _ => ⟨a, rfl, fun j x hj => ?_⟩⟩, by rw [hlen]; exact hl, by rw [hlen]; exact Nat.le_trans hl hm, fun x hx => ?_⟩
    · rw [hlen]; have : maxLen = 9223372036854775807 := rfl; omega
    · simp only [List.getElem?_map] at hj
      obtain ⟨j2, hj2, rfl⟩ := Option.map_eq_some_iff.mp hj
      obtain ⟨hlt, rfl⟩ : j < len ∧ j = j2 := by
        obtain ⟨h1, h2⟩ := List.getElem?_eq_some_iff.mp hj2
        simp only [List.length_range] at h1
        exact ⟨h1, by simpa using h2⟩
      obtain ⟨q1, q2, q3, q4⟩ := hf j hlt
      obtain ⟨_, hl3, hc⟩ := World.cells?_some q1
      refine ⟨_, rfl, k53_mk w (f j).1 q3 q2, fun i u hu => ?_⟩
      obtain ⟨hi, _⟩ := List.getElem?_eq_some_iff.1 hu
      have h4 := hc i (by simpa using hi)
      rw [hu] at h4
      show w.cell? (a.add (j * 1 + i)) = _
      rw [← h4]
      congr 1
      exact (Addr.add_add a (j * 1) i).symm
    · obtain ⟨r, hr1, rfl⟩ := List.mem_map.mp hx
      exact (hf r (List.mem_range.mp hr1)).2.2.2
set_option maxRecDepth 100000 in
set_option maxHeartbeats 8000000 in
theorem lifted (os : Os) (started : os.Started) (H : Type) (enc : TypeId × Value → H) :
    ReturnsInHanded {} Try.checked os 5 .any (Rows.fnExactContendSpec.pre6 enc Try.prog Try.f5 Rows.fnExactContendRow.domain false) (Rows.fnExactContendSpec.post enc Try.prog Try.f5 false true false false) := by
  refine returnsInHanded_of_change_sized (C := Try.checked) own started (by kernel_rfl) Try.func5
    (ChangeSpec.witness6 (enc := enc) (C := Try.checked) false ⟨#[], #[.slice none 0 0, .int .i64 0, .int .i64 0], []⟩ 8 (by kernel_rfl) (by kernel_rfl) (by kernel_rfl) (by kernel_rfl)) ?_
  intro W base args ds gs before hval0 hW hcnd hsz0 _
  have hval : ∀ (j : Nat) t v, Try.f5.params[j]? = some t → args[j]? = some v → Value.okWide Try.prog W .any base t v := hval0
  have hW' := hW
  obtain ⟨p, q, hA0, hV, rfl, hfz, hnd⟩ := hW
  have hA : DataW.TrodAll enc Try.prog W 0 (fun _ => true) true Try.f5.params.toList args.toList ds p := hA0
  rw [Try.params5] at hA hval
  obtain ⟨v0, vs0, d0, ds0, p0, q0, hargs, rfl, rfl, h0, r0⟩ := trodAll_cons hA
  obtain ⟨v1, vs1, d1, ds1, p1, q1, rfl, rfl, rfl, h1, r1⟩ := trodAll_cons r0
  obtain ⟨v2, vs2, d2, ds2, p2, q2, rfl, rfl, rfl, h2, r2⟩ := trodAll_cons r1
  obtain ⟨rfl, rfl, rfl⟩ := trodAll_nil r2
  obtain rfl : args = #[v0, v1, v2] := by cases args; simp_all
  obtain ⟨rfl, rfl⟩ := trodVars_none hV
  obtain ⟨a0, len0, cap0, rfl⟩ := okWide_slice Try.underlying37 (hval 0 37 v0 rfl rfl)
  have k0 := h0
  have lt0 : ∀ x ∈ p0, x.block < W.heap.size := by obtain ⟨m, hm⟩ := k0; exact DataW.trod_lt m _ _ _ hm
  obtain ⟨l0, e0, hr0, hc0, hm0⟩ : ∃ l : List S53, len0 = l.length ∧ Kd.C k53 W a0 l.length l ∧ l.length ≤ cap0 ∧ (l.length ≤ maxLen ∧ ∀ x ∈ l, x.f0.length ≤ maxLen) := by
    obtain ⟨fuel, hf⟩ := h0
    obtain ⟨b, c, l, g, g1, g2, g3⟩ := rows_in53 hf
    simp [Value.cells] at g
    obtain ⟨rfl, rfl, rfl⟩ := g
    exact ⟨l, rfl, g1, g2, g3⟩
  subst e0
  obtain ⟨a1, rfl, rfl, rfl, w1⟩ := open_int Try.underlying3 (hval 1 3 v1 rfl rfl) h1
  obtain ⟨a2, rfl, rfl, rfl, w2⟩ := open_int Try.underlying3 (hval 2 3 v2 rfl rfl) h2
  clear hA0 hval0
  obtain ⟨k, h⟩ := Pure.FnExactContend l0 a1 a2 hm0 w1 w2
  refine (laws_FnExactContend.calls k a0 cap0 l0 a1 a2 true W hr0 hc0 h).mono fun e W' ⟨he, bel⟩ => ?_
  subst he
  exact ⟨_, rfl, _, _, _, [], _, [], hW', trodAll_mk1 (shut_bool Try.underlying4 _), (trodAll_cons_mk (Below.trod laidOut (by kernel_rfl) (of_decide_eq_true (by kernel_rfl)) k0 bel lt0) (trodAll_cons_mk (shut_int Try.underlying3 w1) (trodAll_cons_mk (shut_int Try.underlying3 w2) trodAll_mk0))), rfl, bel.frame _, fun h => by cases h⟩
theorem over : Rows.fnExactContendRow.holds Try.pinned (OpenSpec.ofChange Rows.fnExactContendSpec) :=
  OpenClaim.holds_of_wide 5 Try.f5 rfl rfl rfl rfl rfl rfl rfl ⟨rfl, rfl, rfl, rfl, rfl⟩ rfl rfl rfl rfl rfl (by kernel_rfl) Try.func5 (by kernel_rfl)
    (of_decide_eq_true (by kernel_rfl)) (by unfold Func.isWrapper; first | (rw [if_pos (by decide +kernel)]; kernel_rfl) | (rw [if_neg (by decide +kernel)]; exact ⟨rfl, rfl⟩))
    (fun os started H enc _ => lifted os started H enc)
theorem proved : Rows.FnExactContendSaid := over
#print axioms proved
end Go.Proofs.Ytheinelpeapleaa.fnExactContend
namespace Go.Proofs.Ytheinelpeapleaa
/-- The row, under a short name, for the claim. -/
theorem fnExactContend_holds : Rows.FnExactContendSaid := fnExactContend.proved
end Go.Proofs.Ytheinelpeapleaa
