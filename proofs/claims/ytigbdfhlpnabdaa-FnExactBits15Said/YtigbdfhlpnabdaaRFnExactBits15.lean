/- The row of the law FnExactBits15: 1 slices of structs of two floats. Turned from a printed row, written by wip/rowsam.py. -/
import Derived.Test.YtigbdfhlpnabdaaRows
import Derived.Test.YtigbdfhlpnabdaaMFnExactBits15x11
import Derived.Test.YtigbdfhlpnabdaaQFnExactBits15
import Derived.WalkKit
import Derived.ProofKit
import Derived.OpenShut
import Derived.ShutString
import Derived.ChangeOld
import Derived.Below
import Derived.SizedLaws
import Derived.ChangeArms
import Derived.WideShapes
import Derived.Deep.Matrix
import Derived.Deep.Slices
namespace Go.Proofs.Ytigbdfhlpnabdaa.fnExactBits15
open Go.ChangeShapes Go.WideShapes Go.ChangeAt Go.RowKit Go.Deep Go.Proofs.YtigbdfhlpnabdaaW.PrintWords
open Go.Proofs.Ytigbdfhlpnabdaa.MFnExactBits15
set_option linter.unusedVariables false
theorem own : ownKnob Try.prog.godebug = none := by kernel_rfl
theorem laidOut : laidOutB Try.prog = true := by kernel_rfl
theorem trod_float {H : Type} {enc : TypeId × Value → H} {P : Program} {w : World} {base : Nat} {spare : Nat → Bool} {held : Bool} {fuel : Nat} {t : TypeId} {cs : List Value} {x : DataW H × List MemPlace} {k : FloatKind}
    (ht : P.underlying t = some (.float k)) (h : DataW.trod enc P w base spare held fuel t cs = some x) : ∃ n, cs = [.float k n] := by
  cases fuel with
  | zero => simp [DataW.trod] at h
  | succ n =>
    unfold DataW.trod at h
    rw [ht] at h
    split at h <;> simp_all
/-- A struct of two floats that came in. -/
theorem pair_in {H : Type} {enc : TypeId × Value → H} {w : World} {cs : List Value} {x : DataW H × List MemPlace} {fuel : Nat} (h : DataW.trod enc Try.prog w 0 (fun _ => true) true fuel 63 cs = some x) :
    ∃ a b : Nat, cs = [.float .f32 a, .float .f32 b] := by
  obtain ⟨xs, n, _, _, hl, hxl, hf⟩ := DataW.trod_struct Try.underlying63 h
  have hl2 : cs.length = 2 := hl.trans (by kernel_rfl)
  have h2 : xs.length = 2 := hxl.trans (by rfl)
  obtain ⟨x0, e0⟩ : ∃ v, xs[0]? = some v := ⟨xs[0]'(by omega), List.getElem?_eq_getElem _⟩
  obtain ⟨x1, e1⟩ : ∃ v, xs[1]? = some v := ⟨xs[1]'(by omega), List.getElem?_eq_getElem _⟩
  have q0 := hf 0 _ rfl
  have q1 := hf 1 _ rfl
  rw [e0] at q0
  rw [e1] at q1
  clear hf
  obtain ⟨a, ga⟩ := trod_float Try.underlying29 q0
  obtain ⟨b, gb⟩ := trod_float Try.underlying29 q1
  have k1 : Try.prog.cellsOf 29 = 1 := by kernel_rfl
  replace ga : List.take (Try.prog.cellsOf 29) (List.drop 0 cs) = _ := ga
  replace gb : List.take (Try.prog.cellsOf 29) (List.drop 1 cs) = _ := gb
  rw [k1] at ga gb
  refine ⟨a, b, ?_⟩
  match cs, hl2 with
  | [u0, u1], _ =>
    simp at ga gb
    rw [ga, gb]
/-- A slice of such structs. -/
theorem list_in {H : Type} {enc : TypeId × Value → H} {w : World} {cs : List Value} {x : DataW H × List MemPlace} {fuel : Nat} (h : DataW.trod enc Try.prog w 0 (fun _ => true) true fuel 27 cs = some x) :
    ∃ (a0 : Option Addr) (c0 : Nat) (l : List S63), cs = [.slice a0 l.length c0] ∧ Kd.C k63 w a0 l.length l ∧ l.length ≤ c0 ∧ l.length ≤ maxLen := by
  rcases open_slice Try.underlying27 h with ⟨hcs, _⟩ | ⟨a, len, cap, m, n, D, Pl, hcs, _, hl, hm, hmm, _, hx⟩
  · exact ⟨none, 0, [], hcs, ⟨rfl, by decide, fun h => absurd h (by decide)⟩, Nat.le_refl _, Nat.zero_le _⟩
  · have hml : len ≤ m := by rw [hmm]; simpa using hl
    have k3 : Try.prog.cellsOf 63 = 2 := by kernel_rfl
    rw [k3] at hx
    have each : ∀ r, r < len → ∃ s : S63, w.cells? 0 (a.add (r * 2)) 2 = some [.float .f32 s.f0, .float .f32 s.f1] := by
      intro r hr
      obtain ⟨cs', h1, h2⟩ := hx r (Nat.lt_of_lt_of_le hr hml)
      obtain ⟨x0, x1, rfl⟩ := pair_in h2
      exact ⟨⟨x0, x1⟩, h1⟩
    haveI : Inhabited S63 := ⟨z63⟩
    obtain ⟨f, hf⟩ := choose_lt each
    have hlen : ((List.range len).map f).length = len := by simp
    refine ⟨some a, cap, (List.range len).map f, by rw [hlen]; exact hcs, ⟨rfl, ?_, fun _ => ⟨a, rfl, fun j x hj => ?_⟩⟩, by rw [hlen]; exact hl, by rw [hlen]; exact Nat.le_trans hl hm⟩
    · rw [hlen]; have : maxLen = 9223372036854775807 := rfl; omega
    · simp only [List.getElem?_map] at hj
      obtain ⟨j2, hj2, rfl⟩ := Option.map_eq_some_iff.mp hj
      obtain ⟨hlt, rfl⟩ : j < len ∧ j = j2 := by
        obtain ⟨h1, h2⟩ := List.getElem?_eq_some_iff.mp hj2
        simp only [List.length_range] at h1
        exact ⟨h1, by simpa using h2⟩
      obtain ⟨_, hl3, hc⟩ := World.cells?_some (hf j hlt)
      refine ⟨_, rfl, k63_mk w (f j), fun i u hu => ?_⟩
      obtain ⟨hi, _⟩ := List.getElem?_eq_some_iff.1 hu
      have h4 := hc i (by simpa using hi)
      rw [hu] at h4
      show w.cell? (a.add (j * 2 + i)) = _
      rw [← h4]
      congr 1
      exact (Addr.add_add a (j * 2) i).symm
set_option maxRecDepth 100000 in
set_option maxHeartbeats 8000000 in
theorem lifted (os : Os) (started : os.Started) (H : Type) (enc : TypeId × Value → H) :
    ReturnsInHanded {} Try.checked os 9 .any (Rows.fnExactBits15Spec.pre6 enc Try.prog Try.f9 Rows.fnExactBits15Row.domain false) (Rows.fnExactBits15Spec.post enc Try.prog Try.f9 false true false false) := by
  refine returnsInHanded_of_change_sized (C := Try.checked) own started (by kernel_rfl) Try.func9
    (ChangeSpec.witness6 (enc := enc) (C := Try.checked) false ⟨#[], #[.slice none 0 0], []⟩ 8 (by kernel_rfl) (by kernel_rfl) (by kernel_rfl) (by kernel_rfl)) ?_
  intro W base args ds gs before hval0 hW hcnd hsz0 _
  have hval : ∀ (j : Nat) t v, Try.f9.params[j]? = some t → args[j]? = some v → Value.okWide Try.prog W .any base t v := hval0
  have hW' := hW
  obtain ⟨p, q, hA0, hV, rfl, hfz, hnd⟩ := hW
  have hA : DataW.TrodAll enc Try.prog W 0 (fun _ => true) true Try.f9.params.toList args.toList ds p := hA0
  rw [Try.params9] at hA hval
  obtain ⟨v0, vs0, d0, ds0, p0, q0, hargs, rfl, rfl, h0, r0⟩ := trodAll_cons hA
  obtain ⟨rfl, rfl, rfl⟩ := trodAll_nil r0
  obtain rfl : args = #[v0] := by cases args; simp_all
  obtain ⟨rfl, rfl⟩ := trodVars_none hV
  obtain ⟨a0, len0, cap0, rfl⟩ := okWide_slice Try.underlying27 (hval 0 27 v0 rfl rfl)
  have k0 := h0
  have lt0 : ∀ x ∈ p0, x.block < W.heap.size := by obtain ⟨m, hm⟩ := k0; exact DataW.trod_lt m _ _ _ hm
  obtain ⟨l0, e0, hr0, hc0, hm0⟩ : ∃ l : List S63, len0 = l.length ∧ Kd.C k63 W a0 l.length l ∧ l.length ≤ cap0 ∧ l.length ≤ maxLen := by
    obtain ⟨fuel, hf⟩ := h0
    obtain ⟨b, c, l, g, g1, g2, g3⟩ := list_in hf
    simp [Value.cells] at g
    obtain ⟨rfl, rfl, rfl⟩ := g
    exact ⟨l, rfl, g1, g2, g3⟩
  subst e0
  clear hA0 hval0
  obtain ⟨k, h⟩ := Pure.FnExactBits15 l0 hm0
  refine (laws_FnExactBits15.calls k a0 cap0 l0 true W hr0 hc0 h).mono fun e W' ⟨he, bel⟩ => ?_
  subst he
  exact ⟨_, rfl, _, _, _, [], _, [], hW', trodAll_mk1 (shut_bool Try.underlying4 _), (trodAll_cons_mk (Below.trod laidOut (by kernel_rfl) (of_decide_eq_true (by kernel_rfl)) k0 bel lt0) trodAll_mk0), rfl, bel.frame _, fun h => by cases h⟩
theorem over : Rows.fnExactBits15Row.holds Try.pinned (OpenSpec.ofChange Rows.fnExactBits15Spec) :=
  OpenClaim.holds_of_wide 9 Try.f9 rfl rfl rfl rfl rfl rfl rfl ⟨rfl, rfl, rfl, rfl, rfl⟩ rfl rfl rfl rfl rfl (by kernel_rfl) Try.func9 (by kernel_rfl)
    (of_decide_eq_true (by kernel_rfl)) (by unfold Func.isWrapper; first | (rw [if_pos (by decide +kernel)]; kernel_rfl) | (rw [if_neg (by decide +kernel)]; exact ⟨rfl, rfl⟩))
    (fun os started H enc _ => lifted os started H enc)
theorem proved : Rows.FnExactBits15Said := over
#print axioms proved
end Go.Proofs.Ytigbdfhlpnabdaa.fnExactBits15
namespace Go.Proofs.Ytigbdfhlpnabdaa
/-- The row, under a short name, for the claim. -/
theorem fnExactBits15_holds : Rows.FnExactBits15Said := fnExactBits15.proved
end Go.Proofs.Ytigbdfhlpnabdaa
