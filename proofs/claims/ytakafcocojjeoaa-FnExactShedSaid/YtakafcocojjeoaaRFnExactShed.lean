/- The row of the law FnExactShed: ints, slices of ints and of structs of three ints. Turned from a printed row, written by wip/rowgen.py. -/
import Derived.Test.YtakafcocojjeoaaRows
import Derived.Test.YtakafcocojjeoaaMFnExactShedx14
import Derived.Test.YtakafcocojjeoaaQFnExactShed
import Derived.WalkKit
import Derived.ProofKit
import Derived.OpenShut
import Derived.ShutString
import Derived.ChangeOld
import Derived.Below
import Derived.SizedLaws
import Derived.ChangeArms
import Derived.WideShapes
import Derived.Deep.Matrix
import Derived.Deep.Slices
namespace Go.Proofs.Ytakafcocojjeoaa.fnExactShed
open Go.ChangeMaps (open_string shut_string)
open Go.ChangeShapes Go.WideShapes Go.ChangeAt Go.RowKit Go.Deep Go.Proofs.YtakafcocojjeoaaW.PrintWords
open Go.Proofs.Ytakafcocojjeoaa.MFnExactShed
set_option linter.unusedVariables false
theorem own : ownKnob Try.prog.godebug = none := by kernel_rfl
theorem laidOut : laidOutB Try.prog = true := by kernel_rfl
/-- A struct of three ints that came in. -/
theorem rec_in53 {H : Type} {enc : TypeId × Value → H} {w : World} {cs : List Value} {x : DataW H × List MemPlace} {fuel : Nat} (h : DataW.trod enc Try.prog w 0 (fun _ => true) true fuel 53 cs = some x) :
    ∃ a b c : Int, cs = [.int .i64 a, .int .i64 b, .int .i64 c] := by
  obtain ⟨xs, n, _, _, hl, hxl, hf⟩ := DataW.trod_struct Try.underlying53 h
  have hl3 : cs.length = 3 := hl.trans (by kernel_rfl)
  match cs, hl3 with
  | [u0, u1, u2], _ =>
    have g0 := hf 0 _ rfl
    have g1 := hf 1 _ rfl
    have g2 := hf 2 _ rfl
    have one : ∀ {y : Option (DataW H × List MemPlace)} {cs' : List Value}, DataW.trod enc Try.prog w 0 (fun _ => true) true n 3 cs' = y → y.isSome = true → ∃ z, cs' = [.int .i64 z] := by
      intro y cs' hy hs
      obtain ⟨v, hv⟩ := Option.isSome_iff_exists.mp hs
      obtain ⟨z, e, _⟩ := DataW.trod_int Try.underlying3 (hy.trans hv)
      exact ⟨z, e⟩
    have some_ : ∀ i, i < 3 → (xs[i]?).isSome = true := fun i hi => by
      have h3 : xs.length = 3 := hxl.trans (by rfl)
      simp [h3, hi]
    obtain ⟨a, ea⟩ := one g0 (some_ 0 (by decide))
    obtain ⟨b, eb⟩ := one g1 (some_ 1 (by decide))
    obtain ⟨c, ec⟩ := one g2 (some_ 2 (by decide))
    have k1 : Try.prog.cellsOf 3 = 1 := by kernel_rfl
    replace ea : List.take (Try.prog.cellsOf 3) [u0, u1, u2] = [.int .i64 a] := ea
    replace eb : List.take (Try.prog.cellsOf 3) [u1, u2] = [.int .i64 b] := eb
    replace ec : List.take (Try.prog.cellsOf 3) [u2] = [.int .i64 c] := ec
    rw [k1] at ea eb ec
    simp at ea eb ec
    exact ⟨a, b, c, by rw [ea, eb, ec]⟩
/-- A slice of such structs. -/
theorem recs_in53 {H : Type} {enc : TypeId × Value → H} {w : World} {cs : List Value} {x : DataW H × List MemPlace} {fuel : Nat} (h : DataW.trod enc Try.prog w 0 (fun _ => true) true fuel 23 cs = some x) :
    ∃ (a0 : Option Addr) (c0 : Nat) (l : List S53), cs = [.slice a0 l.length c0] ∧ Kd.C k53 w a0 l.length l ∧ l.length ≤ c0 ∧ l.length ≤ maxLen := by
  rcases open_slice Try.underlying23 h with ⟨hcs, _⟩ | ⟨a, len, cap, m, n, D, Pl, hcs, _, hl, hm, hmm, _, hx⟩
  · exact ⟨none, 0, [], hcs, ⟨rfl, by decide, fun h => absurd h (by decide)⟩, Nat.le_refl _, Nat.zero_le _⟩
  · have hml : len ≤ m := by rw [hmm]; simpa using hl
    have k3 : Try.prog.cellsOf 53 = 3 := by kernel_rfl
    rw [k3] at hx
    have each : ∀ r, r < len → ∃ s : S53, w.cells? 0 (a.add (r * 3)) 3 = some [.int .i64 s.f0, .int .i64 s.f1, .int .i64 s.f2] := by
      intro r hr
      obtain ⟨cs', h1, h2⟩ := hx r (Nat.lt_of_lt_of_le hr hml)
      obtain ⟨x0, x1, x2, rfl⟩ := rec_in53 h2
      exact ⟨⟨x0, x1, x2⟩, h1⟩
    haveI : Inhabited S53 := ⟨z53⟩
    obtain ⟨f, hf⟩ := choose_lt each
    have hlen : ((List.range len).map f).length = len := by simp
    refine ⟨some a, cap, (List.range len).map f, by rw [hlen]; exact hcs, ⟨rfl, ?_, fun _ => ⟨a, rfl, fun j x hj => ?_⟩⟩, by rw [hlen]; exact hl, by rw [hlen]; exact Nat.le_trans hl hm⟩
    · rw [hlen]; have : maxLen = 9223372036854775807 := rfl; omega
    · simp only [List.getElem?_map] at hj
      obtain ⟨j2, hj2, rfl⟩ := Option.map_eq_some_iff.mp hj
      obtain ⟨hlt, rfl⟩ : j < len ∧ j = j2 := by
        obtain ⟨h1, h2⟩ := List.getElem?_eq_some_iff.mp hj2
        simp only [List.length_range] at h1
        exact ⟨h1, by simpa using h2⟩
      obtain ⟨_, hl3, hc⟩ := World.cells?_some (hf j hlt)
      refine ⟨_, rfl, k53_mk w (f j), fun i u hu => ?_⟩
      obtain ⟨hi, _⟩ := List.getElem?_eq_some_iff.1 hu
      have h4 := hc i (by simpa using hi)
      rw [hu] at h4
      show w.cell? (a.add (j * 3 + i)) = _
      rw [← h4]
      congr 1
      exact (Addr.add_add a (j * 3) i).symm
set_option maxRecDepth 100000 in
set_option maxHeartbeats 8000000 in
theorem lifted (os : Os) (started : os.Started) (H : Type) (enc : TypeId × Value → H) :
    ReturnsInHanded {} Try.checked os 5 .any (Rows.fnExactShedSpec.pre6 enc Try.prog Try.f5 Rows.fnExactShedRow.domain false) (Rows.fnExactShedSpec.post enc Try.prog Try.f5 false true false false) := by
  refine returnsInHanded_of_change_sized (C := Try.checked) own started (by kernel_rfl) Try.func5
    (ChangeSpec.witness6 (enc := enc) (C := Try.checked) false ⟨#[], #[.slice none 0 0, .int .i64 0, .int .i64 0], []⟩ 8 (by kernel_rfl) (by kernel_rfl) (by kernel_rfl) (by kernel_rfl)) ?_
  intro W base args ds gs before hval0 hW hcnd hsz0 _
  have hval : ∀ (j : Nat) t v, Try.f5.params[j]? = some t → args[j]? = some v → Value.okWide Try.prog W .any base t v := hval0
  have hW' := hW
  obtain ⟨p, q, hA0, hV, rfl, hfz, hnd⟩ := hW
  have hA : DataW.TrodAll enc Try.prog W 0 (fun _ => true) true Try.f5.params.toList args.toList ds p := hA0
  rw [Try.params5] at hA hval
  obtain ⟨v0, vs0, d0, ds0, p0, q0, hargs, rfl, rfl, h0, r0⟩ := trodAll_cons hA
  obtain ⟨v1, vs1, d1, ds1, p1, q1, rfl, rfl, rfl, h1, r1⟩ := trodAll_cons r0
  obtain ⟨v2, vs2, d2, ds2, p2, q2, rfl, rfl, rfl, h2, r2⟩ := trodAll_cons r1
  obtain ⟨rfl, rfl, rfl⟩ := trodAll_nil r2
  obtain rfl : args = #[v0, v1, v2] := by cases args; simp_all
  obtain ⟨rfl, rfl⟩ := trodVars_none hV
  obtain ⟨a0, len0, cap0, rfl⟩ := okWide_slice Try.underlying23 (hval 0 23 v0 rfl rfl)
  have k0 := h0
  have lt0 : ∀ x ∈ p0, x.block < W.heap.size := by obtain ⟨m, hm⟩ := k0; exact DataW.trod_lt m _ _ _ hm
  obtain ⟨l0, e0, hr0, hc0, hm0⟩ : ∃ l : List S53, len0 = l.length ∧ Kd.C k53 W a0 l.length l ∧ l.length ≤ cap0 ∧ l.length ≤ maxLen := by
    obtain ⟨fuel, hf⟩ := h0
    obtain ⟨b, c, l, g, g1, g2, g3⟩ := recs_in53 hf
    simp [Value.cells] at g
    obtain ⟨rfl, rfl, rfl⟩ := g
    exact ⟨l, rfl, g1, g2, g3⟩
  subst e0
  obtain ⟨a1, rfl, rfl, rfl, w1⟩ := open_int Try.underlying3 (hval 1 3 v1 rfl rfl) h1
  obtain ⟨a2, rfl, rfl, rfl, w2⟩ := open_int Try.underlying3 (hval 2 3 v2 rfl rfl) h2
  clear hA0 hval0
  obtain ⟨k, h⟩ := Pure.FnExactShed l0 a1 a2 hm0 w1 w2
  refine (laws_FnExactShed.calls k a0 cap0 l0 a1 a2 true W hr0 hc0 h).mono fun e W' ⟨he, bel⟩ => ?_
  subst he
  exact ⟨_, rfl, _, _, _, [], _, [], hW', trodAll_mk1 (shut_bool Try.underlying4 _), (trodAll_cons_mk (Below.trod laidOut (by kernel_rfl) (of_decide_eq_true (by kernel_rfl)) k0 bel lt0) (trodAll_cons_mk (shut_int Try.underlying3 w1) (trodAll_cons_mk (shut_int Try.underlying3 w2) trodAll_mk0))), rfl, bel.frame _, fun h => by cases h⟩
theorem over : Rows.fnExactShedRow.holds Try.pinned (OpenSpec.ofChange Rows.fnExactShedSpec) :=
  OpenClaim.holds_of_wide 5 Try.f5 rfl rfl rfl rfl rfl rfl rfl ⟨rfl, rfl, rfl, rfl, rfl⟩ rfl rfl rfl rfl rfl (by kernel_rfl) Try.func5 (by kernel_rfl)
    (of_decide_eq_true (by kernel_rfl)) (by unfold Func.isWrapper; first | (rw [if_pos (by decide +kernel)]; kernel_rfl) | (rw [if_neg (by decide +kernel)]; exact ⟨rfl, rfl⟩))
    (fun os started H enc _ => lifted os started H enc)
theorem proved : Rows.FnExactShedSaid := over
#print axioms proved
end Go.Proofs.Ytakafcocojjeoaa.fnExactShed
namespace Go.Proofs.Ytakafcocojjeoaa
/-- The row, under a short name, for the claim. -/
theorem fnExactShed_holds : Rows.FnExactShedSaid := fnExactShed.proved
end Go.Proofs.Ytakafcocojjeoaa
