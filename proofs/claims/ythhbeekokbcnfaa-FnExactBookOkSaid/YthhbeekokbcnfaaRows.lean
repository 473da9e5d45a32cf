/-
  No cell of these rows narrows 'for every input' (looked for: loops, veiled, ifaces, maps, wideKeys, modest, calm, conditions, laid).
  DERIVED. THE GIVEN ROWS OF THIS SEAT. 6 by the template 'for every input the law returns true; each argument reads behind the call as it read before'; 0 by the template 'total and deterministic' (their statements: YthhbeekokbcnfaaTotals.lean).
  GIVEN WITH THE SEED: the statements are not yours to turn. If you find one false, say at which input.
  Laid BY PROGRAM, IN A SANDBOX (cutbox-rows.mjs): the forced cells as the released guide's own fill.sh prints them over the translation 7de7ce13e2e89401… (all of the seat's roots in one cut). By AI agents, Wed Nov 11 2026. No macro, syntax, notation, axiom, sorry.
-/
import Derived.Test.YthhbeekokbcnfaaChecked
import GoSem.Claim
import GoSem.ClaimJoined
import GoSem.ClaimMapViews
import Derived.JoinedTies
import Derived.KernelRfl
namespace Go.Proofs.Ythhbeekokbcnfaa
/- THE CELL 'sum', in the pinned program and in every row, IS THE sha256 OF THE DUMP (.gsa) THAT YthhbeekokbcnfaaProg.lean LOADS. Nothing in Lean hashes anything: it is a label: what it is worth is what the hold of that sum in a sandbox is worth. -/
noncomputable def Try.pinned : Pinned := { name := "ythhbeekokbcnfaa", sum := "7de7ce13e2e89401377453505440d1fcfe7c8c406f859b411dfdfcebada0bc4f", checked := Try.checked }
namespace Rows
def none {H : Type} : Left H := { results := [], args := [] }

/-- 'laws.FnExactServing': WHATEVER THE INPUT: true; the input reads as it did. -/
def fnExactServingSpec : ChangeSpec := { name := "fnExactServing", fn := fun _ => fun
  | [d1, d2, d3] => { results := [.lit (.bool true)], args := [d1, d2, d3] }
  | _ => none }
def fnExactServingRow : OpenClaim := { program := "ythhbeekokbcnfaa", sum := "7de7ce13e2e89401377453505440d1fcfe7c8c406f859b411dfdfcebada0bc4f", func := "loop.example/g00052/laws.FnExactServing", spec := "fnExactServing", apart := false }
def FnExactServingSaid : Prop := fnExactServingRow.holds Try.pinned (OpenSpec.ofChange fnExactServingSpec)

/-- ITS FALSE NEIGHBOUR: 'it returns false'. Refute it at one input. -/
def fnExactServingWrong : ChangeSpec := { name := "fnExactServing", fn := fun _ => fun
  | [d1, d2, d3] => { results := [.lit (.bool false)], args := [d1, d2, d3] }
  | _ => none }
def FnExactServingWrongFalsely : Prop := fnExactServingRow.holds Try.pinned (OpenSpec.ofChange fnExactServingWrong)

/-- 'laws.FnServed': WHATEVER THE INPUT: true; the input reads as it did. -/
def fnServedSpec : ChangeSpec := { name := "fnServed", fn := fun _ => fun
  | [d] => { results := [.lit (.bool true)], args := [d] }
  | _ => none }
def fnServedRow : OpenClaim := { program := "ythhbeekokbcnfaa", sum := "7de7ce13e2e89401377453505440d1fcfe7c8c406f859b411dfdfcebada0bc4f", func := "loop.example/g00052/laws.FnServed", spec := "fnServed", apart := false }
def FnServedSaid : Prop := fnServedRow.holds Try.pinned (OpenSpec.ofChange fnServedSpec)

/-- ITS FALSE NEIGHBOUR: 'it returns false'. Refute it at one input. -/
def fnServedWrong : ChangeSpec := { name := "fnServed", fn := fun _ => fun
  | [d] => { results := [.lit (.bool false)], args := [d] }
  | _ => none }
def FnServedWrongFalsely : Prop := fnServedRow.holds Try.pinned (OpenSpec.ofChange fnServedWrong)

/-- 'laws.FnExactBookOk': WHATEVER THE INPUT: true; the input reads as it did. -/
def fnExactBookOkSpec : ChangeSpec := { name := "fnExactBookOk", fn := fun _ => fun
  | [d] => { results := [.lit (.bool true)], args := [d] }
  | _ => none }
def fnExactBookOkRow : OpenClaim := { program := "ythhbeekokbcnfaa", sum := "7de7ce13e2e89401377453505440d1fcfe7c8c406f859b411dfdfcebada0bc4f", func := "loop.example/g00052/laws.FnExactBookOk", spec := "fnExactBookOk", apart := false }
def FnExactBookOkSaid : Prop := fnExactBookOkRow.holds Try.pinned (OpenSpec.ofChange fnExactBookOkSpec)

/-- ITS FALSE NEIGHBOUR: 'it returns false'. Refute it at one input. -/
def fnExactBookOkWrong : ChangeSpec := { name := "fnExactBookOk", fn := fun _ => fun
  | [d] => { results := [.lit (.bool false)], args := [d] }
  | _ => none }
def FnExactBookOkWrongFalsely : Prop := fnExactBookOkRow.holds Try.pinned (OpenSpec.ofChange fnExactBookOkWrong)

/-- 'laws.FnExactLoudness': WHATEVER THE INPUT: true; the input reads as it did. -/
def fnExactLoudnessSpec : ChangeSpec := { name := "fnExactLoudness", fn := fun _ => fun
  | [d1, d2, d3, d4] => { results := [.lit (.bool true)], args := [d1, d2, d3, d4] }
  | _ => none }
def fnExactLoudnessRow : OpenClaim := { program := "ythhbeekokbcnfaa", sum := "7de7ce13e2e89401377453505440d1fcfe7c8c406f859b411dfdfcebada0bc4f", func := "loop.example/g00052/laws.FnExactLoudness", spec := "fnExactLoudness", apart := false }
def FnExactLoudnessSaid : Prop := fnExactLoudnessRow.holds Try.pinned (OpenSpec.ofChange fnExactLoudnessSpec)

/-- ITS FALSE NEIGHBOUR: 'it returns false'. Refute it at one input. -/
def fnExactLoudnessWrong : ChangeSpec := { name := "fnExactLoudness", fn := fun _ => fun
  | [d1, d2, d3, d4] => { results := [.lit (.bool false)], args := [d1, d2, d3, d4] }
  | _ => none }
def FnExactLoudnessWrongFalsely : Prop := fnExactLoudnessRow.holds Try.pinned (OpenSpec.ofChange fnExactLoudnessWrong)

/-- 'laws.FnLouder': WHATEVER THE INPUT: true; the input reads as it did. -/
def fnLouderSpec : ChangeSpec := { name := "fnLouder", fn := fun _ => fun
  | [d] => { results := [.lit (.bool true)], args := [d] }
  | _ => none }
def fnLouderRow : OpenClaim := { program := "ythhbeekokbcnfaa", sum := "7de7ce13e2e89401377453505440d1fcfe7c8c406f859b411dfdfcebada0bc4f", func := "loop.example/g00052/laws.FnLouder", spec := "fnLouder", apart := false }
def FnLouderSaid : Prop := fnLouderRow.holds Try.pinned (OpenSpec.ofChange fnLouderSpec)

/-- ITS FALSE NEIGHBOUR: 'it returns false'. Refute it at one input. -/
def fnLouderWrong : ChangeSpec := { name := "fnLouder", fn := fun _ => fun
  | [d] => { results := [.lit (.bool false)], args := [d] }
  | _ => none }
def FnLouderWrongFalsely : Prop := fnLouderRow.holds Try.pinned (OpenSpec.ofChange fnLouderWrong)

/-- 'laws.FnExactContend': WHATEVER THE INPUT: true; the input reads as it did. -/
def fnExactContendSpec : ChangeSpec := { name := "fnExactContend", fn := fun _ => fun
  | [d1, d2, d3] => { results := [.lit (.bool true)], args := [d1, d2, d3] }
  | _ => none }
def fnExactContendRow : OpenClaim := { program := "ythhbeekokbcnfaa", sum := "7de7ce13e2e89401377453505440d1fcfe7c8c406f859b411dfdfcebada0bc4f", func := "loop.example/g00052/laws.FnExactContend", spec := "fnExactContend", apart := false }
def FnExactContendSaid : Prop := fnExactContendRow.holds Try.pinned (OpenSpec.ofChange fnExactContendSpec)

/-- ITS FALSE NEIGHBOUR: 'it returns false'. Refute it at one input. -/
def fnExactContendWrong : ChangeSpec := { name := "fnExactContend", fn := fun _ => fun
  | [d1, d2, d3] => { results := [.lit (.bool false)], args := [d1, d2, d3] }
  | _ => none }
def FnExactContendWrongFalsely : Prop := fnExactContendRow.holds Try.pinned (OpenSpec.ofChange fnExactContendWrong)

/- THE SECOND FORM. 'bulk': how many values and letters a reading holds, each counted each time it is reached (what is shared counts as often as it is met; a slice's spare places count too). A statement '..UptoSaid' is the law's where the arguments, and the package variables that the reading takes, are together of bulk at most 1048576: NARROWER than '..Said'. Prove '..Said' where nothing that the law and all that it calls make is longer than what came in: it says more and counts as full. Else prove '..UptoSaid'. A law counts once. -/
mutual
def uptoBulk {H : Type} : DataW H → Nat
  | .lit (.string bytes) => bytes.length + 1
  | .lit _ => 1
  | .nil => 1
  | .ptr d => uptoBulk d + 1
  | .slice elems spare => uptoBulkAll elems + uptoBulkAll spare + 1
  | .agg parts => uptoBulkAll parts + 1
  | .iface _ d => uptoBulk d + 1
  | .map entries => uptoBulkEntries entries + 1
  | .held _ => 1
def uptoBulkAll {H : Type} : List (DataW H) → Nat
  | [] => 0
  | d :: r => uptoBulk d + uptoBulkAll r
def uptoBulkEntries {H : Type} : List (Lit × DataW H) → Nat
  | [] => 0
  | x :: r => uptoBulkEntry x + uptoBulkEntries r
def uptoBulkEntry {H : Type} : Lit × DataW H → Nat
  | (.string bytes, d) => bytes.length + uptoBulk d + 1
  | (_, d) => uptoBulk d + 1
 end
def uptoSmall : (H : Type) → List (DataW H) → Bool := fun _ ds => decide (uptoBulkAll ds ≤ 1048576)
def OpenSpec.upto (s : _root_.Go.ChangeSpec) : _root_.Go.OpenSpec := { _root_.Go.OpenSpec.ofChange s with cond := some uptoSmall }

/-- 'laws.FnExactServing', WHERE WHAT IT READS IS OF BULK AT MOST 1048576: true; the input reads as it did. -/
def fnExactServingUptoRow : OpenClaim := { program := "ythhbeekokbcnfaa", sum := "7de7ce13e2e89401377453505440d1fcfe7c8c406f859b411dfdfcebada0bc4f", func := "loop.example/g00052/laws.FnExactServing", spec := "fnExactServing", apart := false, narrowed := true }
def FnExactServingUptoSaid : Prop := fnExactServingUptoRow.holds Try.pinned (OpenSpec.upto fnExactServingSpec)

/-- 'laws.FnServed', WHERE WHAT IT READS IS OF BULK AT MOST 1048576: true; the input reads as it did. -/
def fnServedUptoRow : OpenClaim := { program := "ythhbeekokbcnfaa", sum := "7de7ce13e2e89401377453505440d1fcfe7c8c406f859b411dfdfcebada0bc4f", func := "loop.example/g00052/laws.FnServed", spec := "fnServed", apart := false, narrowed := true }
def FnServedUptoSaid : Prop := fnServedUptoRow.holds Try.pinned (OpenSpec.upto fnServedSpec)

/-- 'laws.FnExactBookOk', WHERE WHAT IT READS IS OF BULK AT MOST 1048576: true; the input reads as it did. -/
def fnExactBookOkUptoRow : OpenClaim := { program := "ythhbeekokbcnfaa", sum := "7de7ce13e2e89401377453505440d1fcfe7c8c406f859b411dfdfcebada0bc4f", func := "loop.example/g00052/laws.FnExactBookOk", spec := "fnExactBookOk", apart := false, narrowed := true }
def FnExactBookOkUptoSaid : Prop := fnExactBookOkUptoRow.holds Try.pinned (OpenSpec.upto fnExactBookOkSpec)

/-- 'laws.FnExactLoudness', WHERE WHAT IT READS IS OF BULK AT MOST 1048576: true; the input reads as it did. -/
def fnExactLoudnessUptoRow : OpenClaim := { program := "ythhbeekokbcnfaa", sum := "7de7ce13e2e89401377453505440d1fcfe7c8c406f859b411dfdfcebada0bc4f", func := "loop.example/g00052/laws.FnExactLoudness", spec := "fnExactLoudness", apart := false, narrowed := true }
def FnExactLoudnessUptoSaid : Prop := fnExactLoudnessUptoRow.holds Try.pinned (OpenSpec.upto fnExactLoudnessSpec)

/-- 'laws.FnLouder', WHERE WHAT IT READS IS OF BULK AT MOST 1048576: true; the input reads as it did. -/
def fnLouderUptoRow : OpenClaim := { program := "ythhbeekokbcnfaa", sum := "7de7ce13e2e89401377453505440d1fcfe7c8c406f859b411dfdfcebada0bc4f", func := "loop.example/g00052/laws.FnLouder", spec := "fnLouder", apart := false, narrowed := true }
def FnLouderUptoSaid : Prop := fnLouderUptoRow.holds Try.pinned (OpenSpec.upto fnLouderSpec)

/-- 'laws.FnExactContend', WHERE WHAT IT READS IS OF BULK AT MOST 1048576: true; the input reads as it did. -/
def fnExactContendUptoRow : OpenClaim := { program := "ythhbeekokbcnfaa", sum := "7de7ce13e2e89401377453505440d1fcfe7c8c406f859b411dfdfcebada0bc4f", func := "loop.example/g00052/laws.FnExactContend", spec := "fnExactContend", apart := false, narrowed := true }
def FnExactContendUptoSaid : Prop := fnExactContendUptoRow.holds Try.pinned (OpenSpec.upto fnExactContendSpec)

end Rows
end Go.Proofs.Ythhbeekokbcnfaa
