/- The row of the law FnExactConfigure with its two tables tied, the card: a slice of structs of two strings and a string. Turned from a printed row, written by wip/rowset.py. -/
import Derived.Test.YtfepbnolgceadaaDoorRows
import Derived.Test.YtfepbnolgceadaaDoorMFnExactConfigurex19
import Derived.Test.YtfepbnolgceadaaDoorQFnExactConfigure
import Derived.Shelf.Vars
import Derived.WalkKit
import Derived.ProofKit
import Derived.OpenShut
import Derived.ShutString
import Derived.ChangeOld
import Derived.Below
import Derived.SizedLaws
import Derived.ChangeArms
import Derived.WideShapes
import Derived.Deep.Matrix
import Derived.Deep.Slices
import Derived.Test.YtfepbnolgceadaaDoorCards
import Derived.Test.YtfepbnolgceadaaDoorTie
import Derived.Lib.LaidIn
import Derived.Lib.LaidU8T
import Derived.Deep.DeepHandedRow
import Derived.Deep.DeepWitnessRowRef
import Derived.SevenTiedAt
import Derived.PinnedBridge
namespace Go.Proofs.YtfepbnolgceadaaDoor.fnExactConfigure
open Go.ChangeShapes Go.WideShapes Go.ChangeAt Go.RowKit Go.Deep Go.Proofs.YtfepbnolgceadaaDoorW.PrintWords
open Go.ChangeMaps (open_string shut_string)
open Go.Shelf Go.Lib
open Go.Proofs.YtfepbnolgceadaaDoor.MFnExactConfigure
set_option linter.unusedVariables false
theorem own : ownKnob Tryd.prog.godebug = none := by kernel_rfl
theorem laidOut : laidOutB Tryd.prog = true := by kernel_rfl
set_option maxRecDepth 100000 in
/-- A struct of two strings that came in. -/
theorem pair_in {H : Type} {enc : TypeId × Value → H} {w : World} {cs : List Value} {x : DataW H × List MemPlace} {fuel : Nat} (h : DataW.trod enc Tryd.prog w 0 (fun _ => true) true fuel 42 cs = some x) :
    ∃ a b : ByteArray, cs = [.string a, .string b] ∧ a.size ≤ maxLen ∧ b.size ≤ maxLen := by
  obtain ⟨xs, n, _, _, hl, hxl, hf⟩ := DataW.trod_struct Tryd.underlying42 h
  have hl2 : cs.length = 2 := hl.trans (by kernel_rfl)
  have h2 : xs.length = 2 := hxl.trans (by rfl)
  obtain ⟨x0, e0⟩ : ∃ v, xs[0]? = some v := ⟨xs[0]'(by omega), List.getElem?_eq_getElem _⟩
  obtain ⟨x1, e1⟩ : ∃ v, xs[1]? = some v := ⟨xs[1]'(by omega), List.getElem?_eq_getElem _⟩
  have q0 := hf 0 _ rfl
  have q1 := hf 1 _ rfl
  rw [e0] at q0
  rw [e1] at q1
  clear hf
  obtain ⟨a, ga, _, sa⟩ := DataW.trod_string Tryd.underlying9 q0
  obtain ⟨b, gb, _, sb⟩ := DataW.trod_string Tryd.underlying9 q1
  have k1 : Tryd.prog.cellsOf 9 = 1 := by kernel_rfl
  replace ga : List.take (Tryd.prog.cellsOf 9) (List.drop 0 cs) = _ := ga
  replace gb : List.take (Tryd.prog.cellsOf 9) (List.drop 1 cs) = _ := gb
  rw [k1] at ga gb
  refine ⟨a, b, ?_, sa, sb⟩
  match cs, hl2 with
  | [u0, u1], _ =>
    simp at ga gb
    rw [ga, gb]
set_option maxRecDepth 100000 in
/-- A slice of such structs. -/
theorem list_in {H : Type} {enc : TypeId × Value → H} {w : World} {cs : List Value} {x : DataW H × List MemPlace} {fuel : Nat} (h : DataW.trod enc Tryd.prog w 0 (fun _ => true) true fuel 22 cs = some x) :
    ∃ (a0 : Option Addr) (c0 : Nat) (l : List S42), cs = [.slice a0 l.length c0] ∧ Kd.C k42 w a0 l.length l ∧ l.length ≤ c0 ∧ l.length ≤ maxLen ∧ ∀ x ∈ l, x.f0.size ≤ maxLen ∧ x.f1.size ≤ maxLen := by
  rcases open_slice Tryd.underlying22 h with ⟨hcs, _⟩ | ⟨a, len, cap, m, n, D, Pl, hcs, _, hl, hm, hmm, _, hx⟩
  · exact ⟨none, 0, [], hcs, ⟨rfl, by decide, fun h => absurd h (by decide)⟩, Nat.le_refl _, Nat.zero_le _, fun x hx => by cases hx⟩
  · have hml : len ≤ m := by rw [hmm]; simpa using hl
    have k3 : Tryd.prog.cellsOf 42 = 2 := by kernel_rfl
    rw [k3] at hx
    have each : ∀ r, r < len → ∃ s : S42, w.cells? 0 (a.add (r * 2)) 2 = some [.string s.f0, .string s.f1] ∧ s.f0.size ≤ maxLen ∧ s.f1.size ≤ maxLen := by
      intro r hr
      obtain ⟨cs', h1, h2⟩ := hx r (Nat.lt_of_lt_of_le hr hml)
      obtain ⟨x0, x1, rfl, s0, s1⟩ := pair_in h2
      exact ⟨⟨x0, x1⟩, h1, s0, s1⟩
    haveI : Inhabited S42 := ⟨z42⟩
    obtain ⟨f, hf⟩ := choose_lt each
    have hlen : ((List.range len).map f).length = len := by simp
    refine ⟨some a, cap, (List.range len).map f, by rw [hlen]; exact hcs, ⟨rfl, ?_, fun _ => ⟨a, rfl, fun j x hj => ?_⟩⟩, by rw [hlen]; exact hl, by rw [hlen]; exact Nat.le_trans hl hm, fun x hx => ?_⟩
    · rw [hlen]; have : maxLen = 9223372036854775807 := rfl; omega
    · simp only [List.getElem?_map] at hj
      obtain ⟨j2, hj2, rfl⟩ := Option.map_eq_some_iff.mp hj
      obtain ⟨hlt, rfl⟩ : j < len ∧ j = j2 := by
        obtain ⟨h1, h2⟩ := List.getElem?_eq_some_iff.mp hj2
        simp only [List.length_range] at h1
        exact ⟨h1, by simpa using h2⟩
      obtain ⟨_, hl3, hc⟩ := World.cells?_some (hf j hlt).1
      refine ⟨_, rfl, k42_mk w (f j), fun i u hu => ?_⟩
      obtain ⟨hi, _⟩ := List.getElem?_eq_some_iff.1 hu
      have h4 := hc i (by simpa using hi)
      rw [hu] at h4
      show w.cell? (a.add (j * 2 + i)) = _
      rw [← h4]
      congr 1
      exact (Addr.add_add a (j * 2) i).symm
    · obtain ⟨r, hr, rfl⟩ := List.mem_map.1 hx
      exact (hf r (List.mem_range.1 hr)).2
/-- The witness: the settled world, the two tables holding what their text lays. -/
noncomputable def laidWorld (os : Os) : World :=
  let w0 := World.holding Tryd.prog os ⟨#[], #[], []⟩
  let put (h : Array Obj) (g : Nat) (cs : Array Value) : Array Obj := h.modify g fun
    | .cells _ t frozen => .cells cs t frozen
    | o => o
  let h1 := put w0.heap (Tryd.lays196_ren.g 3) (Lib.firstTab.map fun z => Value.int .u8 z).toArray
  let h2 := put h1 (Tryd.lays196_ren.g 4) ((List.range 16).flatMap fun i => [Value.int .u8 (Lib.accLo i), Value.int .u8 (Lib.accHi i)]).toArray
  { w0 with heap := h2 }
theorem laid_met (os : Os) (args : Array Value) : laidMet Tryd.prog Rows.fnExactConfigureRow.laid ((laidWorld os).forCall (fun _ _ => 0) ⟨#[], args, []⟩).memory :=
  (LaidIn.of_run (l := Rows.fnExactConfigureRow.laid) [Tryd.lays196_ren.g 4, Tryd.lays196_ren.g 3] 8 (by kernel_rfl) (by kernel_rfl) (by kernel_rfl) (by kernel_rfl)).met
theorem witness_row (os : Os) {H : Type} (enc : TypeId × Value → H) :
    (OpenSpec.ofChange Rows.fnExactConfigureSpec).preRow enc Tryd.prog Tryd.f5 Rows.fnExactConfigureRow.domain false Rows.fnExactConfigureRow.laid ((laidWorld os).forCall (fun _ _ => 0) ⟨#[], #[.slice none 0 0, .string ⟨#[]⟩], []⟩).memory #[.slice none 0 0, .string ⟨#[]⟩] := by
  have hw : (DataW.whole enc Tryd.prog ((laidWorld os).forCall (fun _ _ => 0) ⟨#[], #[.slice none 0 0, .string ⟨#[]⟩], []⟩).memory Tryd.f5.params.toList (OpenSpec.ofChange Rows.fnExactConfigureSpec).vars false #[(.slice none 0 0 : Value), .string ⟨#[]⟩].toList 8).map (fun x => (x.1, x.2.1)) =
      some ([.nil, .lit (.string [])], []) := by kernel_rfl
  obtain ⟨⟨x1, x2, x3⟩, hx, hx1⟩ := Option.map_eq_some_iff.1 hw
  simp only [Prod.mk.injEq] at hx1
  obtain ⟨rfl, rfl⟩ := hx1
  exact OpenSpec.preRow_of_cond 8 hx (by kernel_rfl) (fun k hk => by cases hk) (by kernel_rfl) (laid_met os _)
set_option maxRecDepth 100000 in
set_option maxHeartbeats 8000000 in
theorem lifted (os : Os) (started : os.Started) (H : Type) (enc : TypeId × Value → H) (F : Stop.Interp) :
    ReturnsInHanded {} Tryd.checked os 5 .any ((OpenSpec.ofChange Rows.fnExactConfigureSpec).preRow enc Tryd.prog Tryd.f5 Rows.fnExactConfigureRow.domain false Rows.fnExactConfigureRow.laid) (((OpenSpec.ofChange Rows.fnExactConfigureSpec).at F).post enc Tryd.prog Tryd.f5 false true false false) := by
  refine returnsInHanded_of_row (C := Tryd.checked) (s := (OpenSpec.ofChange Rows.fnExactConfigureSpec)) own started (by kernel_rfl) Tryd.func5
    (witness_row_atRef (enc := enc) (C := Tryd.checked) false (laidWorld os) #[.slice none 0 0, .string ⟨#[]⟩] rfl (by kernel_rfl) (by kernel_rfl) (by kernel_rfl) (witness_row os enc)) ?_
  intro W base args ds gs before hval0 hW hcnd _ hsz0 hL hsh _
  have hsz : (DataW.weightsEach Tryd.prog (Tryd.f5.params.toList ++ Rows.fnExactConfigureSpec.plain.varTypes Tryd.prog) (ds ++ gs)).all (· ≤ reachBytes) = true := hsz0
  have hval : ∀ (j : Nat) t v, Tryd.f5.params[j]? = some t → args[j]? = some v → Value.okWide Tryd.prog W .any base t v := hval0
  have hW' := hW
  obtain ⟨p, q, hA0, hV, rfl, hfz, hnd⟩ := hW
  have hA : DataW.TrodAll enc Tryd.prog W 0 (fun _ => true) true Tryd.f5.params.toList args.toList ds p := hA0
  rw [Tryd.params5] at hA hval hsz
  obtain ⟨v0, vs0, d0, ds0, p0, q0, hargs, rfl, rfl, h0, r0⟩ := trodAll_cons hA
  obtain ⟨v1, vs1, d1, ds1, p1, q1, rfl, rfl, rfl, h1, r1⟩ := trodAll_cons r0
  obtain ⟨rfl, rfl, rfl⟩ := trodAll_nil r1
  obtain rfl : args = #[v0, v1] := by cases args; simp_all
  obtain ⟨rfl, rfl⟩ := trodVars_none hV
  obtain ⟨a0, len0, cap0, rfl⟩ := okWide_slice Tryd.underlying22 (hval 0 22 v0 rfl rfl)
  have k0 := h0
  have lt0 : ∀ x ∈ p0, x.block < W.heap.size := by obtain ⟨m, hm⟩ := k0; exact DataW.trod_lt m _ _ _ hm
  obtain ⟨l0, e0, hr0, hc0, hm0, hs0⟩ : ∃ l : List S42, len0 = l.length ∧ Kd.C k42 W a0 l.length l ∧ l.length ≤ cap0 ∧ l.length ≤ maxLen ∧ ∀ x ∈ l, x.f0.size ≤ maxLen ∧ x.f1.size ≤ maxLen := by
    obtain ⟨fuel, hf⟩ := h0
    obtain ⟨b, c, l, g, g1, g2, g3, g4⟩ := list_in hf
    simp [Value.cells] at g
    obtain ⟨rfl, rfl, rfl⟩ := g
    exact ⟨l, rfl, g1, g2, g3, g4⟩
  subst e0
  obtain ⟨a1, rfl, rfl, rfl, y1⟩ := open_string Tryd.underlying9 (hval 1 9 v1 rfl rfl) h1
  have w1 : a1.size ≤ 140737488351232 := by
    have z := sized_string hsz (j := 1) (t := 9) rfl rfl
    rw [Array.length_toList] at z
    exact z
  clear hA0 hval0
  have htab : Hand.Tabs W := ⟨utf8Tabs_of_readsT (U8Types.of196 Tryd.lays196) ⟨by kernel_rfl, by kernel_rfl, by kernel_rfl, by kernel_rfl, by kernel_rfl, by kernel_rfl, by kernel_rfl⟩ (by have h := Lib.laidMet.reads hL (.tail _ (.head _)); rw [show Rows.laid_unicode_utf8_first = Lib.firstData from Go.Pinned.utf8First_eq] at h; exact h) (Lib.laidMet.reads hL (.head _)), cell_of_shapedOpen_int (P := Tryd.prog) (g := 2) (t := 3) (zero := #[.int .i64 0]) hsh (of_decide_eq_true (by kernel_rfl)) (by kernel_rfl) rfl (by kernel_rfl) (by kernel_rfl) Tryd.underlying3⟩
  obtain ⟨k, h⟩ := Pure.FnExactConfigure l0 a1 hm0 hs0 w1
  refine (laws_FnExactConfigure.calls k a0 cap0 l0 a1 true W ⟨htab⟩ hr0 hc0 h).mono fun e W' ⟨he, bel⟩ => ?_
  subst he
  exact ⟨_, rfl, _, _, _, [], _, [], hW', trodAll_mk1 (shut_bool Tryd.underlying4 _), (trodAll_cons_mk (Below.trod laidOut (by kernel_rfl) (of_decide_eq_true (by kernel_rfl)) k0 bel lt0) (trodAll_cons_mk (shut_string Tryd.underlying9 y1) trodAll_mk0)), rfl, bel.frame _, fun h => by cases h⟩
theorem over : Rows.fnExactConfigureRow.holds Tryd.pinned (OpenSpec.ofChange Rows.fnExactConfigureSpec) :=
  OpenClaim.holds_of_cond 5 Tryd.f5 rfl rfl rfl rfl rfl rfl rfl ⟨rfl, rfl, rfl, rfl, rfl⟩ rfl rfl rfl rfl rfl (by kernel_rfl) Tryd.func5 (by kernel_rfl)
    (of_decide_eq_true (by kernel_rfl)) (by unfold Func.isWrapper; first | (rw [if_pos (by decide +kernel)]; kernel_rfl) | (rw [if_neg (by decide +kernel)]; exact ⟨rfl, rfl⟩))
    (fun os started H enc _ F0 => by rw [OpenClaim.pre_eq_preRow]; exact lifted os started H enc F0)
theorem proved : Rows.FnExactConfigureCardSaid :=
  Claim7.holds_tied_plain_at .later [] [.data, .pinned] true (true, "205fd830e621418cf2852b9ddbeef5f952f48beae50dacaf84b6ecd43533c262") true
    over (fun _ h => by cases h) (by kernel_rfl) (fun _ h => by cases h) fnExactConfigure_row_tie rfl ⟨rfl, rfl⟩ (by kernel_rfl) rfl
    (fun f fn hf hfn => by
      obtain rfl : f = 5 := Option.some.inj ((show Tryd.prog.funcNamed "loop.example/g00052/laws.FnExactConfigure" = some 5 by kernel_rfl).symm.trans hf) |>.symm
      obtain rfl : fn = Tryd.f5 := (Option.some.inj (Tryd.func5.symm.trans hfn)).symm
      exact ⟨by kernel_rfl, fun j t ht => by
        rw [Tryd.params5] at ht
        rcases j with _ | _ | j
        · obtain rfl : t = 22 := by simpa using ht.symm
          exact (show Tryd.prog.wantsStandIn 22 = false by kernel_rfl)
        · obtain rfl : t = 9 := by simpa using ht.symm
          exact (show Tryd.prog.wantsStandIn 9 = false by kernel_rfl)
        · simp at ht⟩)
    (by kernel_rfl)
#print axioms proved
end Go.Proofs.YtfepbnolgceadaaDoor.fnExactConfigure
namespace Go.Proofs.YtfepbnolgceadaaDoor
/-- The row, under a short name, for the claim. -/
theorem fnExactConfigure_holds : Rows.FnExactConfigureCardSaid := fnExactConfigure.proved
end Go.Proofs.YtfepbnolgceadaaDoor
