/-
  No cell of these rows narrows 'for every input' (looked for: loops, veiled, ifaces, maps, wideKeys, modest, calm, conditions, laid).
  DERIVED. THE GIVEN ROWS OF THIS SEAT. 6 by the template 'for every input the law returns true; each argument reads behind the call as it read before'; 0 by the template 'total and deterministic' (their statements: YtcmcnpildccdeaaTotals.lean).
  GIVEN WITH THE SEED: the statements are not yours to turn. If you find one false, say at which input.
  Laid BY PROGRAM, IN A SANDBOX (cutbox-rows.mjs): the forced cells as the released guide's own fill.sh prints them over the translation 62da6c56e3eb5b1c… (all of the seat's roots in one cut). By AI agents, Wed Nov 11 2026. No macro, syntax, notation, axiom, sorry.
-/
import Derived.Test.YtcmcnpildccdeaaChecked
import GoSem.Claim
import GoSem.ClaimJoined
import GoSem.ClaimMapViews
import Derived.JoinedTies
import Derived.KernelRfl
namespace Go.Proofs.Ytcmcnpildccdeaa
/- THE CELL 'sum', in the pinned program and in every row, IS THE sha256 OF THE DUMP (.gsa) THAT YtcmcnpildccdeaaProg.lean LOADS. Nothing in Lean hashes anything: it is a label: what it is worth is what the hold of that sum in a sandbox is worth. -/
noncomputable def Try.pinned : Pinned := { name := "ytcmcnpildccdeaa", sum := "62da6c56e3eb5b1c46a526a53d07affa36af4b3a8b1624b4e7ba894ff7387da7", checked := Try.checked }
namespace Rows
def none {H : Type} : Left H := { results := [], args := [] }

/-- 'laws.FnExactHop': WHATEVER THE INPUT: true; the input reads as it did. -/
def fnExactHopSpec : ChangeSpec := { name := "fnExactHop", fn := fun _ => fun
  | [d1, d2, d3] => { results := [.lit (.bool true)], args := [d1, d2, d3] }
  | _ => none }
def fnExactHopRow : OpenClaim := { program := "ytcmcnpildccdeaa", sum := "62da6c56e3eb5b1c46a526a53d07affa36af4b3a8b1624b4e7ba894ff7387da7", func := "loop.example/g00052/laws.FnExactHop", spec := "fnExactHop", apart := false }
def FnExactHopSaid : Prop := fnExactHopRow.holds Try.pinned (OpenSpec.ofChange fnExactHopSpec)

/-- ITS FALSE NEIGHBOUR: 'it returns false'. Refute it at one input. -/
def fnExactHopWrong : ChangeSpec := { name := "fnExactHop", fn := fun _ => fun
  | [d1, d2, d3] => { results := [.lit (.bool false)], args := [d1, d2, d3] }
  | _ => none }
def FnExactHopWrongFalsely : Prop := fnExactHopRow.holds Try.pinned (OpenSpec.ofChange fnExactHopWrong)

/-- 'laws.FnExactChanges': WHATEVER THE INPUT: true; the input reads as it did. -/
def fnExactChangesSpec : ChangeSpec := { name := "fnExactChanges", fn := fun _ => fun
  | [d] => { results := [.lit (.bool true)], args := [d] }
  | _ => none }
def fnExactChangesRow : OpenClaim := { program := "ytcmcnpildccdeaa", sum := "62da6c56e3eb5b1c46a526a53d07affa36af4b3a8b1624b4e7ba894ff7387da7", func := "loop.example/g00052/laws.FnExactChanges", spec := "fnExactChanges", apart := false }
def FnExactChangesSaid : Prop := fnExactChangesRow.holds Try.pinned (OpenSpec.ofChange fnExactChangesSpec)

/-- ITS FALSE NEIGHBOUR: 'it returns false'. Refute it at one input. -/
def fnExactChangesWrong : ChangeSpec := { name := "fnExactChanges", fn := fun _ => fun
  | [d] => { results := [.lit (.bool false)], args := [d] }
  | _ => none }
def FnExactChangesWrongFalsely : Prop := fnExactChangesRow.holds Try.pinned (OpenSpec.ofChange fnExactChangesWrong)

/-- 'laws.FnExactKey15': WHATEVER THE INPUT: true; the input reads as it did. -/
def fnExactKey15Spec : ChangeSpec := { name := "fnExactKey15", fn := fun _ => fun
  | [d1, d2] => { results := [.lit (.bool true)], args := [d1, d2] }
  | _ => none }
def fnExactKey15Row : OpenClaim := { program := "ytcmcnpildccdeaa", sum := "62da6c56e3eb5b1c46a526a53d07affa36af4b3a8b1624b4e7ba894ff7387da7", func := "loop.example/g00052/laws.FnExactKey15", spec := "fnExactKey15", apart := false }
def FnExactKey15Said : Prop := fnExactKey15Row.holds Try.pinned (OpenSpec.ofChange fnExactKey15Spec)

/-- ITS FALSE NEIGHBOUR: 'it returns false'. Refute it at one input. -/
def fnExactKey15Wrong : ChangeSpec := { name := "fnExactKey15", fn := fun _ => fun
  | [d1, d2] => { results := [.lit (.bool false)], args := [d1, d2] }
  | _ => none }
def FnExactKey15WrongFalsely : Prop := fnExactKey15Row.holds Try.pinned (OpenSpec.ofChange fnExactKey15Wrong)

/-- 'laws.FnExactStir15': WHATEVER THE INPUT: true; the input reads as it did. -/
def fnExactStir15Spec : ChangeSpec := { name := "fnExactStir15", fn := fun _ => fun
  | [d1, d2] => { results := [.lit (.bool true)], args := [d1, d2] }
  | _ => none }
def fnExactStir15Row : OpenClaim := { program := "ytcmcnpildccdeaa", sum := "62da6c56e3eb5b1c46a526a53d07affa36af4b3a8b1624b4e7ba894ff7387da7", func := "loop.example/g00052/laws.FnExactStir15", spec := "fnExactStir15", apart := false }
def FnExactStir15Said : Prop := fnExactStir15Row.holds Try.pinned (OpenSpec.ofChange fnExactStir15Spec)

/-- ITS FALSE NEIGHBOUR: 'it returns false'. Refute it at one input. -/
def fnExactStir15Wrong : ChangeSpec := { name := "fnExactStir15", fn := fun _ => fun
  | [d1, d2] => { results := [.lit (.bool false)], args := [d1, d2] }
  | _ => none }
def FnExactStir15WrongFalsely : Prop := fnExactStir15Row.holds Try.pinned (OpenSpec.ofChange fnExactStir15Wrong)

/-- 'laws.FnExactUnweave15': WHATEVER THE INPUT: true; the input reads as it did. -/
def fnExactUnweave15Spec : ChangeSpec := { name := "fnExactUnweave15", fn := fun _ => fun
  | [d1, d2] => { results := [.lit (.bool true)], args := [d1, d2] }
  | _ => none }
def fnExactUnweave15Row : OpenClaim := { program := "ytcmcnpildccdeaa", sum := "62da6c56e3eb5b1c46a526a53d07affa36af4b3a8b1624b4e7ba894ff7387da7", func := "loop.example/g00052/laws.FnExactUnweave15", spec := "fnExactUnweave15", apart := false }
def FnExactUnweave15Said : Prop := fnExactUnweave15Row.holds Try.pinned (OpenSpec.ofChange fnExactUnweave15Spec)

/-- ITS FALSE NEIGHBOUR: 'it returns false'. Refute it at one input. -/
def fnExactUnweave15Wrong : ChangeSpec := { name := "fnExactUnweave15", fn := fun _ => fun
  | [d1, d2] => { results := [.lit (.bool false)], args := [d1, d2] }
  | _ => none }
def FnExactUnweave15WrongFalsely : Prop := fnExactUnweave15Row.holds Try.pinned (OpenSpec.ofChange fnExactUnweave15Wrong)

/-- 'laws.FnExactWeave15': WHATEVER THE INPUT: true; the input reads as it did. -/
def fnExactWeave15Spec : ChangeSpec := { name := "fnExactWeave15", fn := fun _ => fun
  | [d1, d2] => { results := [.lit (.bool true)], args := [d1, d2] }
  | _ => none }
def fnExactWeave15Row : OpenClaim := { program := "ytcmcnpildccdeaa", sum := "62da6c56e3eb5b1c46a526a53d07affa36af4b3a8b1624b4e7ba894ff7387da7", func := "loop.example/g00052/laws.FnExactWeave15", spec := "fnExactWeave15", apart := false }
def FnExactWeave15Said : Prop := fnExactWeave15Row.holds Try.pinned (OpenSpec.ofChange fnExactWeave15Spec)

/-- ITS FALSE NEIGHBOUR: 'it returns false'. Refute it at one input. -/
def fnExactWeave15Wrong : ChangeSpec := { name := "fnExactWeave15", fn := fun _ => fun
  | [d1, d2] => { results := [.lit (.bool false)], args := [d1, d2] }
  | _ => none }
def FnExactWeave15WrongFalsely : Prop := fnExactWeave15Row.holds Try.pinned (OpenSpec.ofChange fnExactWeave15Wrong)

/- THE SECOND FORM. 'bulk': how many values and letters a reading holds, each counted each time it is reached (what is shared counts as often as it is met; a slice's spare places count too). A statement '..UptoSaid' is the law's where the arguments, and the package variables that the reading takes, are together of bulk at most 1048576: NARROWER than '..Said'. Prove '..Said' where nothing that the law and all that it calls make is longer than what came in: it says more and counts as full. Else prove '..UptoSaid'. A law counts once. -/
mutual
def uptoBulk {H : Type} : DataW H → Nat
  | .lit (.string bytes) => bytes.length + 1
  | .lit _ => 1
  | .nil => 1
  | .ptr d => uptoBulk d + 1
  | .slice elems spare => uptoBulkAll elems + uptoBulkAll spare + 1
  | .agg parts => uptoBulkAll parts + 1
  | .iface _ d => uptoBulk d + 1
  | .map entries => uptoBulkEntries entries + 1
  | .held _ => 1
def uptoBulkAll {H : Type} : List (DataW H) → Nat
  | [] => 0
  | d :: r => uptoBulk d + uptoBulkAll r
def uptoBulkEntries {H : Type} : List (Lit × DataW H) → Nat
  | [] => 0
  | x :: r => uptoBulkEntry x + uptoBulkEntries r
def uptoBulkEntry {H : Type} : Lit × DataW H → Nat
  | (.string bytes, d) => bytes.length + uptoBulk d + 1
  | (_, d) => uptoBulk d + 1
 end
def uptoSmall : (H : Type) → List (DataW H) → Bool := fun _ ds => decide (uptoBulkAll ds ≤ 1048576)
def OpenSpec.upto (s : _root_.Go.ChangeSpec) : _root_.Go.OpenSpec := { _root_.Go.OpenSpec.ofChange s with cond := some uptoSmall }

/-- 'laws.FnExactHop', WHERE WHAT IT READS IS OF BULK AT MOST 1048576: true; the input reads as it did. -/
def fnExactHopUptoRow : OpenClaim := { program := "ytcmcnpildccdeaa", sum := "62da6c56e3eb5b1c46a526a53d07affa36af4b3a8b1624b4e7ba894ff7387da7", func := "loop.example/g00052/laws.FnExactHop", spec := "fnExactHop", apart := false, narrowed := true }
def FnExactHopUptoSaid : Prop := fnExactHopUptoRow.holds Try.pinned (OpenSpec.upto fnExactHopSpec)

/-- 'laws.FnExactChanges', WHERE WHAT IT READS IS OF BULK AT MOST 1048576: true; the input reads as it did. -/
def fnExactChangesUptoRow : OpenClaim := { program := "ytcmcnpildccdeaa", sum := "62da6c56e3eb5b1c46a526a53d07affa36af4b3a8b1624b4e7ba894ff7387da7", func := "loop.example/g00052/laws.FnExactChanges", spec := "fnExactChanges", apart := false, narrowed := true }
def FnExactChangesUptoSaid : Prop := fnExactChangesUptoRow.holds Try.pinned (OpenSpec.upto fnExactChangesSpec)

/-- 'laws.FnExactKey15', WHERE WHAT IT READS IS OF BULK AT MOST 1048576: true; the input reads as it did. -/
def fnExactKey15UptoRow : OpenClaim := { program := "ytcmcnpildccdeaa", sum := "62da6c56e3eb5b1c46a526a53d07affa36af4b3a8b1624b4e7ba894ff7387da7", func := "loop.example/g00052/laws.FnExactKey15", spec := "fnExactKey15", apart := false, narrowed := true }
def FnExactKey15UptoSaid : Prop := fnExactKey15UptoRow.holds Try.pinned (OpenSpec.upto fnExactKey15Spec)

/-- 'laws.FnExactStir15', WHERE WHAT IT READS IS OF BULK AT MOST 1048576: true; the input reads as it did. -/
def fnExactStir15UptoRow : OpenClaim := { program := "ytcmcnpildccdeaa", sum := "62da6c56e3eb5b1c46a526a53d07affa36af4b3a8b1624b4e7ba894ff7387da7", func := "loop.example/g00052/laws.FnExactStir15", spec := "fnExactStir15", apart := false, narrowed := true }
def FnExactStir15UptoSaid : Prop := fnExactStir15UptoRow.holds Try.pinned (OpenSpec.upto fnExactStir15Spec)

/-- 'laws.FnExactUnweave15', WHERE WHAT IT READS IS OF BULK AT MOST 1048576: true; the input reads as it did. -/
def fnExactUnweave15UptoRow : OpenClaim := { program := "ytcmcnpildccdeaa", sum := "62da6c56e3eb5b1c46a526a53d07affa36af4b3a8b1624b4e7ba894ff7387da7", func := "loop.example/g00052/laws.FnExactUnweave15", spec := "fnExactUnweave15", apart := false, narrowed := true }
def FnExactUnweave15UptoSaid : Prop := fnExactUnweave15UptoRow.holds Try.pinned (OpenSpec.upto fnExactUnweave15Spec)

/-- 'laws.FnExactWeave15', WHERE WHAT IT READS IS OF BULK AT MOST 1048576: true; the input reads as it did. -/
def fnExactWeave15UptoRow : OpenClaim := { program := "ytcmcnpildccdeaa", sum := "62da6c56e3eb5b1c46a526a53d07affa36af4b3a8b1624b4e7ba894ff7387da7", func := "loop.example/g00052/laws.FnExactWeave15", spec := "fnExactWeave15", apart := false, narrowed := true }
def FnExactWeave15UptoSaid : Prop := fnExactWeave15UptoRow.holds Try.pinned (OpenSpec.upto fnExactWeave15Spec)

end Rows
end Go.Proofs.Ytcmcnpildccdeaa
