/- The row of the law FnExactFair: one [][]int and 1 ints. Turned from a printed row over []int; written by wip/rowss.py. -/
import Derived.Test.YtcmcnpildccdeabRows
import Derived.Test.YtcmcnpildccdeabMFnExactFairx5
import Derived.Test.YtcmcnpildccdeabQFnExactFair
import Derived.WalkKit
import Derived.ProofKit
import Derived.OpenShut
import Derived.ShutString
import Derived.ChangeOld
import Derived.Below
import Derived.SizedLaws
import Derived.Deep.Matrix
import Derived.Test.YtcmcnpildccdeabWSized
namespace Go.Proofs.Ytcmcnpildccdeab.fnExactFair
open Go.ChangeShapes Go.WideShapes Go.ChangeAt Go.RowKit Go.Deep Go.Proofs.YtcmcnpildccdeabW.PrintWords
open Go.ChangeMaps (open_string shut_string)
set_option linter.unusedVariables false
theorem own : ownKnob Try.prog.godebug = none := by kernel_rfl
theorem laidOut : laidOutB Try.prog = true := by kernel_rfl
/-- A slice of slices that came in, as the walk reads it. -/
theorem rows_in {H : Type} {enc : TypeId × Value → H} {w : World} {a0 : Option Addr} {len0 cap0 : Nat} {d : DataW H} {p : List MemPlace} {fuel : Nat} (h : DataW.trod enc Try.prog w 0 (fun _ => true) true fuel 47 (Value.slice a0 len0 cap0).cells.toList = some (d, p)) :
    ∃ l0 : List (List Int), len0 = l0.length ∧ (Kd.slice 3 (Kd.int .i64)).C w a0 l0.length l0 ∧ l0.length ≤ cap0 ∧ l0.length ≤ maxLen ∧ ∀ x ∈ l0, x.length ≤ maxLen ∧ ∀ n ∈ x, (Lit.int .i64 n).wf = true := by
  rcases open_int_rows Try.underlying47 Try.underlying29 Try.underlying3 (by kernel_rfl) (by kernel_rfl) h with ⟨hcs, _⟩ | ⟨a, len, cap, A, L, C, Z, hcs, _, hl, hm, _, hr⟩
  · simp [Value.cells] at hcs
    obtain ⟨rfl, rfl, rfl⟩ := hcs
    exact ⟨[], rfl, ⟨rfl, by decide, fun h => absurd h (by decide)⟩, Nat.le_refl _, Nat.zero_le _, fun x hx => by simp at hx⟩
  · simp [Value.cells] at hcs
    obtain ⟨rfl, rfl, rfl⟩ := hcs
    have each : ∀ r, r < len0 → ∃ l : List Int, L r = l.length ∧ ReadsInt w .i64 (A r) l.length l ∧ l.length ≤ maxLen ∧ (∀ x ∈ l, (Lit.int .i64 x).wf = true) ∧ l.length ≤ C r := by
      intro r hlt
      obtain ⟨h1, h2, h3, h4, h5, h6, h7⟩ := hr r (Nat.lt_of_lt_of_le hlt hl)
      refine ReadsInt.ofRowC (k := .i64) (w := w) (a := A r) (len := L r) (cap := C r) (zs := Z r) ?_
      cases hA : A r with
      | none =>
        have h8 := h6 hA
        exact .inl ⟨rfl, by omega, h8, List.length_eq_zero_iff.mp (by omega)⟩
      | some x => exact .inr ⟨x, rfl, h2, h3, h4, fun i hi => (h7 x hA).2 i (by omega), h5⟩
    obtain ⟨f, hf⟩ := choose_lt each
    refine ⟨(List.range len0).map f, by simp, ⟨by simp, by have : maxLen = 9223372036854775807 := rfl; simp; omega, fun _ => ⟨a, rfl, fun j x hj => ?_⟩⟩, by simpa using hl, by simp; omega, fun x hx => ?_⟩
    · simp only [List.getElem?_map] at hj
      obtain ⟨j2, hj2, rfl⟩ := Option.map_eq_some_iff.mp hj
      obtain ⟨hlt, rfl⟩ : j < len0 ∧ j = j2 := by
        obtain ⟨h1, h2⟩ := List.getElem?_eq_some_iff.mp hj2
        simp only [List.length_range] at h1
        exact ⟨h1, by simpa using h2⟩
      obtain ⟨g1, g2, g3, g4, g5⟩ := hf j hlt
      refine ⟨[.slice (A j) (f j).length (C j)], rfl, ⟨A j, C j, rfl, g5, Kd.C_of_reads (d := (0 : Int)) (h1 := fun _ => rfl) g2⟩, fun i u hu => ?_⟩
      have hi : i = 0 := by
        obtain ⟨h1, _⟩ := List.getElem?_eq_some_iff.mp hu
        simpa using h1
      subst hi
      obtain rfl : .slice (A j) (f j).length (C j) = u := by simpa using hu
      have h1 := (hr j (Nat.lt_of_lt_of_le hlt hl)).1
      rw [g1] at h1
      show w.cell? (a.add (j * 1 + 0)) = _
      rw [Nat.mul_one, Nat.add_zero]
      exact h1
    · obtain ⟨r, hr1, rfl⟩ := List.mem_map.mp hx
      have := hf r (List.mem_range.mp hr1)
      exact ⟨this.2.2.1, this.2.2.2.1⟩
set_option maxRecDepth 100000 in
theorem lifted (os : Os) (started : os.Started) (H : Type) (enc : TypeId × Value → H) :
    ReturnsInHanded {} Try.checked os 7 .any (Rows.fnExactFairSpec.pre6 enc Try.prog Try.f7 Rows.fnExactFairRow.domain false) (Rows.fnExactFairSpec.post enc Try.prog Try.f7 false true false false) := by
  refine returnsInHanded_of_change_sized (C := Try.checked) own started (by kernel_rfl) Try.func7
    (ChangeSpec.witness6 (enc := enc) (C := Try.checked) false ⟨#[], #[.slice none 0 0, .int .i64 0], []⟩ 7 (by kernel_rfl) (by kernel_rfl) (by kernel_rfl) (by kernel_rfl)) ?_
  intro W base args ds gs before hval0 hW hcnd hsz0 _
  have hval : ∀ (j : Nat) t v, Try.f7.params[j]? = some t → args[j]? = some v → Value.okWide Try.prog W .any base t v := hval0
  have hW' := hW
  obtain ⟨p, q, hA0, hV, rfl, hfz, hnd⟩ := hW
  have hA : DataW.TrodAll enc Try.prog W 0 (fun _ => true) true Try.f7.params.toList args.toList ds p := hA0
  rw [Try.params7] at hA hval
  obtain ⟨v0, vs0, d0, ds0, p0, q0, hargs, rfl, rfl, h0, r0⟩ := trodAll_cons hA
  obtain ⟨v1, vs1, d1, ds1, p1, q1, rfl, rfl, rfl, h1, r1⟩ := trodAll_cons r0
  obtain ⟨rfl, rfl, rfl⟩ := trodAll_nil r1
  obtain rfl : args = #[v0, v1] := by cases args; simp_all
  obtain ⟨rfl, rfl⟩ := trodVars_none hV
  obtain ⟨a0, len0, cap0, rfl⟩ := okWide_slice Try.underlying47 (hval 0 47 v0 rfl rfl)
  have k0 := h0
  have lt0 : ∀ x ∈ p0, x.block < W.heap.size := by obtain ⟨m, hm⟩ := k0; exact DataW.trod_lt m _ _ _ hm
  obtain ⟨l0, rfl, hr0, hc0, hm0, hw0⟩ : ∃ l0 : List (List Int), len0 = l0.length ∧ (Kd.slice 3 (Kd.int .i64)).C W a0 l0.length l0 ∧ l0.length ≤ cap0 ∧ l0.length ≤ maxLen ∧ ∀ x ∈ l0, x.length ≤ maxLen ∧ ∀ n ∈ x, (Lit.int .i64 n).wf = true := by
    obtain ⟨fuel, hf⟩ := h0
    exact rows_in hf
  obtain ⟨a1, rfl, rfl, rfl, w1⟩ := open_int Try.underlying3 (hval 1 3 v1 rfl rfl) h1
  clear hA0 hval0
  obtain ⟨k, h⟩ := Pure.FnExactFair l0 a1 hm0 hw0 w1
  refine (MFnExactFair.laws_FnExactFair.calls k _ _ l0 a1 true W hr0 hc0 h).mono fun e W' ⟨he, bel⟩ => ?_
  subst he
  exact ⟨_, rfl, _, _, _, [], _, [], hW', trodAll_mk1 (shut_bool Try.underlying4 _), (trodAll_cons_mk (Below.trod laidOut (by kernel_rfl) (of_decide_eq_true (by kernel_rfl)) k0 bel lt0) (trodAll_cons_mk (shut_int Try.underlying3 w1) trodAll_mk0)), rfl, bel.frame _, fun h => by cases h⟩
theorem over : Rows.fnExactFairRow.holds Try.pinned (OpenSpec.ofChange Rows.fnExactFairSpec) :=
  OpenClaim.holds_of_wide 7 Try.f7 rfl rfl rfl rfl rfl rfl rfl ⟨rfl, rfl, rfl, rfl, rfl⟩ rfl rfl rfl rfl rfl (by kernel_rfl) Try.func7 (by kernel_rfl)
    (of_decide_eq_true (by kernel_rfl)) (by unfold Func.isWrapper; first | (rw [if_pos (by decide +kernel)]; kernel_rfl) | (rw [if_neg (by decide +kernel)]; exact ⟨rfl, rfl⟩))
    (fun os started H enc _ => lifted os started H enc)
theorem proved : Rows.FnExactFairSaid := over
#print axioms proved
end Go.Proofs.Ytcmcnpildccdeab.fnExactFair
namespace Go.Proofs.Ytcmcnpildccdeab
/-- The row, under a short name, for the claim. -/
theorem fnExactFair_holds : Rows.FnExactFairSaid := fnExactFair.proved
end Go.Proofs.Ytcmcnpildccdeab
