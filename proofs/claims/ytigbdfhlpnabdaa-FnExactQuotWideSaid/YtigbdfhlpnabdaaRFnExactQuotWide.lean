/- The row of the law FnExactQuotWide: two structs of two floats. Turned from a printed row, by hand. -/
import Derived.Test.YtigbdfhlpnabdaaRows
import Derived.Test.YtigbdfhlpnabdaaHandD
import Derived.WalkKit
import Derived.ProofKit
import Derived.OpenShut
import Derived.ShutString
import Derived.ChangeOld
import Derived.Below
import Derived.SizedLaws
import Derived.ChangeArms
import Derived.WideShapes
namespace Go.Proofs.Ytigbdfhlpnabdaa.fnExactQuotWide
open Go.ChangeShapes Go.WideShapes Go.ChangeAt Go.RowKit
set_option linter.unusedVariables false
theorem own : ownKnob Try.prog.godebug = none := by kernel_rfl
theorem laidOut : laidOutB Try.prog = true := by kernel_rfl
theorem trod_float {H : Type} {enc : TypeId × Value → H} {P : Program} {w : World} {base : Nat} {spare : Nat → Bool} {held : Bool} {fuel : Nat} {t : TypeId} {cs : List Value} {x : DataW H × List MemPlace} {k : FloatKind}
    (ht : P.underlying t = some (.float k)) (h : DataW.trod enc P w base spare held fuel t cs = some x) : ∃ n, cs = [.float k n] ∧ (Lit.float k n).wf = true := by
  cases fuel with
  | zero => simp [DataW.trod] at h
  | succ n =>
    unfold DataW.trod at h
    rw [ht] at h
    split at h <;> simp_all
/-- A struct of two floats that came in. -/
theorem wide_in {H : Type} {enc : TypeId × Value → H} {w : World} {cs : Array Value} {d : DataW H} {p : List MemPlace} (hs : cs.size = Try.prog.cellsOf 41) (h : DataW.Trod enc Try.prog w 0 (fun _ => true) true 41 (.agg cs) d p) :
    ∃ a b : Nat, cs = #[.float .f64 a, .float .f64 b] ∧ a < 18446744073709551616 ∧ b < 18446744073709551616 := by
  obtain ⟨fuel, h⟩ := h
  obtain ⟨xs, n, _, _, hl, hxl, hf⟩ := DataW.trod_struct Try.underlying41 h
  have hs2 : cs.size = 2 := hs.trans (by kernel_rfl)
  have hcl : (Value.agg cs).cells.toList = cs.toList := rfl
  have h2 : xs.length = 2 := hxl.trans (by rfl)
  have e0 : ∃ v, xs[0]? = some v := ⟨xs[0]'(by omega), List.getElem?_eq_getElem _⟩
  have e1 : ∃ v, xs[1]? = some v := ⟨xs[1]'(by omega), List.getElem?_eq_getElem _⟩
  obtain ⟨x0, e0⟩ := e0
  obtain ⟨x1, e1⟩ := e1
  have q0 := hf 0 _ rfl
  have q1 := hf 1 _ rfl
  rw [e0] at q0
  rw [e1] at q1
  clear hf
  obtain ⟨a, ga, wa⟩ := trod_float Try.underlying32 q0
  obtain ⟨b, gb, wb⟩ := trod_float Try.underlying32 q1
  have k1 : Try.prog.cellsOf 32 = 1 := by kernel_rfl
  replace ga : List.take (Try.prog.cellsOf 32) (List.drop 0 (Value.agg cs).cells.toList) = _ := ga
  replace gb : List.take (Try.prog.cellsOf 32) (List.drop 1 (Value.agg cs).cells.toList) = _ := gb
  rw [k1, hcl] at ga gb
  refine ⟨a, b, ?_, by simpa [Lit.wf] using wa, by simpa [Lit.wf] using wb⟩
  obtain ⟨l⟩ := cs
  match l, hs2 with
  | [u0, u1], _ =>
    simp at ga gb
    rw [ga, gb]
set_option maxRecDepth 100000 in
set_option maxHeartbeats 8000000 in
theorem lifted (os : Os) (started : os.Started) (H : Type) (enc : TypeId × Value → H) :
    ReturnsInHanded {} Try.checked os 5 .any (Rows.fnExactQuotWideSpec.pre6 enc Try.prog Try.f5 Rows.fnExactQuotWideRow.domain false) (Rows.fnExactQuotWideSpec.post enc Try.prog Try.f5 false true false false) := by
  refine returnsInHanded_of_change_sized (C := Try.checked) own started (by kernel_rfl) Try.func5
    (ChangeSpec.witness6 (enc := enc) (C := Try.checked) false ⟨#[], #[.agg #[.float .f64 0, .float .f64 0], .agg #[.float .f64 0, .float .f64 0]], []⟩ 8 (by kernel_rfl) (by kernel_rfl) (by kernel_rfl) (by kernel_rfl)) ?_
  intro W base args ds gs before hval0 hW hcnd hsz0 _
  have hval : ∀ (j : Nat) t v, Try.f5.params[j]? = some t → args[j]? = some v → Value.okWide Try.prog W .any base t v := hval0
  have hW' := hW
  obtain ⟨p, q, hA0, hV, rfl, hfz, hnd⟩ := hW
  have hA : DataW.TrodAll enc Try.prog W 0 (fun _ => true) true Try.f5.params.toList args.toList ds p := hA0
  rw [Try.params5] at hA hval
  obtain ⟨v0, vs0, d0, ds0, p0, q0, hargs, rfl, rfl, h0, r0⟩ := trodAll_cons hA
  obtain ⟨v1, vs1, d1, ds1, p1, q1, rfl, rfl, rfl, h1, r1⟩ := trodAll_cons r0
  obtain ⟨rfl, rfl, rfl⟩ := trodAll_nil r1
  obtain rfl : args = #[v0, v1] := by cases args; simp_all
  obtain ⟨rfl, rfl⟩ := trodVars_none hV
  obtain ⟨cs0, rfl, hs0⟩ := okWide_struct Try.underlying41 (hval 0 41 v0 rfl rfl)
  obtain ⟨cs1, rfl, hs1⟩ := okWide_struct Try.underlying41 (hval 1 41 v1 rfl rfl)
  have lt0 : ∀ x ∈ p0, x.block < W.heap.size := by obtain ⟨m, hm⟩ := h0; exact DataW.trod_lt m _ _ _ hm
  have lt1 : ∀ x ∈ p1, x.block < W.heap.size := by obtain ⟨m, hm⟩ := h1; exact DataW.trod_lt m _ _ _ hm
  obtain ⟨a, b, rfl, ha, hb⟩ := wide_in hs0 h0
  obtain ⟨c, d, rfl, hc, hd⟩ := wide_in hs1 h1
  clear hA0 hval0
  refine (Hand.laws_FnExactQuotWide.calls a b c d W ha hb hc hd).mono fun e W' ⟨he, bel⟩ => ?_
  subst he
  exact ⟨_, rfl, _, _, _, [], _, [], hW', trodAll_mk1 (shut_bool Try.underlying4 _), (trodAll_cons_mk (Below.trod laidOut (by kernel_rfl) (of_decide_eq_true (by kernel_rfl)) h0 bel lt0) (trodAll_cons_mk (Below.trod laidOut (by kernel_rfl) (of_decide_eq_true (by kernel_rfl)) h1 bel lt1) trodAll_mk0)), rfl, bel.frame _, fun h => by cases h⟩
theorem over : Rows.fnExactQuotWideRow.holds Try.pinned (OpenSpec.ofChange Rows.fnExactQuotWideSpec) :=
  OpenClaim.holds_of_wide 5 Try.f5 rfl rfl rfl rfl rfl rfl rfl ⟨rfl, rfl, rfl, rfl, rfl⟩ rfl rfl rfl rfl rfl (by kernel_rfl) Try.func5 (by kernel_rfl)
    (of_decide_eq_true (by kernel_rfl)) (by unfold Func.isWrapper; first | (rw [if_pos (by decide +kernel)]; kernel_rfl) | (rw [if_neg (by decide +kernel)]; exact ⟨rfl, rfl⟩))
    (fun os started H enc _ => lifted os started H enc)
theorem proved : Rows.FnExactQuotWideSaid := over
#print axioms proved
end Go.Proofs.Ytigbdfhlpnabdaa.fnExactQuotWide
namespace Go.Proofs.Ytigbdfhlpnabdaa
/-- The row, under a short name, for the claim. -/
theorem fnExactQuotWide_holds : Rows.FnExactQuotWideSaid := fnExactQuotWide.proved
end Go.Proofs.Ytigbdfhlpnabdaa
