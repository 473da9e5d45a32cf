/-
  No cell of these rows narrows 'for every input' (looked for: loops, veiled, ifaces, maps, wideKeys, modest, calm, conditions, laid).
  DERIVED. THE GIVEN ROWS OF THIS SEAT. 4 by the template 'for every input the law returns true; each argument reads behind the call as it read before'; 0 by the template 'total and deterministic' (their statements: YtakafcocojjeoaaTotals.lean).
  GIVEN WITH THE SEED: the statements are not yours to turn. If you find one false, say at which input.
  Laid BY PROGRAM, IN A SANDBOX (cutbox-rows.mjs): the forced cells as the released guide's own fill.sh prints them over the translation a03c474398919041… (all of the seat's roots in one cut). By AI agents, Wed Nov 11 2026. No macro, syntax, notation, axiom, sorry.
-/
import Derived.Test.YtakafcocojjeoaaChecked
import GoSem.Claim
import GoSem.ClaimJoined
import GoSem.ClaimMapViews
import Derived.JoinedTies
import Derived.KernelRfl
namespace Go.Proofs.Ytakafcocojjeoaa
/- THE CELL 'sum', in the pinned program and in every row, IS THE sha256 OF THE DUMP (.gsa) THAT YtakafcocojjeoaaProg.lean LOADS. Nothing in Lean hashes anything: it is a label: what it is worth is what the hold of that sum in a sandbox is worth. -/
noncomputable def Try.pinned : Pinned := { name := "ytakafcocojjeoaa", sum := "a03c47439891904184e993fd490bc98e67653e9384425361ac637b437ed2c1b0", checked := Try.checked }
namespace Rows
def none {H : Type} : Left H := { results := [], args := [] }

/-- 'laws.FnExactTry': WHATEVER THE INPUT: true; the input reads as it did. -/
def fnExactTrySpec : ChangeSpec := { name := "fnExactTry", fn := fun _ => fun
  | [d1, d2, d3] => { results := [.lit (.bool true)], args := [d1, d2, d3] }
  | _ => none }
def fnExactTryRow : OpenClaim := { program := "ytakafcocojjeoaa", sum := "a03c47439891904184e993fd490bc98e67653e9384425361ac637b437ed2c1b0", func := "loop.example/g00052/laws.FnExactTry", spec := "fnExactTry", unfollowed := true, recurses := true, apart := false }
def FnExactTrySaid : Prop := fnExactTryRow.holds Try.pinned (OpenSpec.ofChange fnExactTrySpec)

/-- ITS FALSE NEIGHBOUR: 'it returns false'. Refute it at one input. -/
def fnExactTryWrong : ChangeSpec := { name := "fnExactTry", fn := fun _ => fun
  | [d1, d2, d3] => { results := [.lit (.bool false)], args := [d1, d2, d3] }
  | _ => none }
def FnExactTryWrongFalsely : Prop := fnExactTryRow.holds Try.pinned (OpenSpec.ofChange fnExactTryWrong)

/-- 'laws.FnTried': WHATEVER THE INPUT: true; the input reads as it did. -/
def fnTriedSpec : ChangeSpec := { name := "fnTried", fn := fun _ => fun
  | [d] => { results := [.lit (.bool true)], args := [d] }
  | _ => none }
def fnTriedRow : OpenClaim := { program := "ytakafcocojjeoaa", sum := "a03c47439891904184e993fd490bc98e67653e9384425361ac637b437ed2c1b0", func := "loop.example/g00052/laws.FnTried", spec := "fnTried", unfollowed := true, recurses := true, apart := false }
def FnTriedSaid : Prop := fnTriedRow.holds Try.pinned (OpenSpec.ofChange fnTriedSpec)

/-- ITS FALSE NEIGHBOUR: 'it returns false'. Refute it at one input. -/
def fnTriedWrong : ChangeSpec := { name := "fnTried", fn := fun _ => fun
  | [d] => { results := [.lit (.bool false)], args := [d] }
  | _ => none }
def FnTriedWrongFalsely : Prop := fnTriedRow.holds Try.pinned (OpenSpec.ofChange fnTriedWrong)

/-- 'laws.FnExactShed': WHATEVER THE INPUT: true; the input reads as it did. -/
def fnExactShedSpec : ChangeSpec := { name := "fnExactShed", fn := fun _ => fun
  | [d1, d2, d3] => { results := [.lit (.bool true)], args := [d1, d2, d3] }
  | _ => none }
def fnExactShedRow : OpenClaim := { program := "ytakafcocojjeoaa", sum := "a03c47439891904184e993fd490bc98e67653e9384425361ac637b437ed2c1b0", func := "loop.example/g00052/laws.FnExactShed", spec := "fnExactShed", unfollowed := true, recurses := true, apart := false }
def FnExactShedSaid : Prop := fnExactShedRow.holds Try.pinned (OpenSpec.ofChange fnExactShedSpec)

/-- ITS FALSE NEIGHBOUR: 'it returns false'. Refute it at one input. -/
def fnExactShedWrong : ChangeSpec := { name := "fnExactShed", fn := fun _ => fun
  | [d1, d2, d3] => { results := [.lit (.bool false)], args := [d1, d2, d3] }
  | _ => none }
def FnExactShedWrongFalsely : Prop := fnExactShedRow.holds Try.pinned (OpenSpec.ofChange fnExactShedWrong)

/-- 'laws.FnShedKept': WHATEVER THE INPUT: true; the input reads as it did. -/
def fnShedKeptSpec : ChangeSpec := { name := "fnShedKept", fn := fun _ => fun
  | [d] => { results := [.lit (.bool true)], args := [d] }
  | _ => none }
def fnShedKeptRow : OpenClaim := { program := "ytakafcocojjeoaa", sum := "a03c47439891904184e993fd490bc98e67653e9384425361ac637b437ed2c1b0", func := "loop.example/g00052/laws.FnShedKept", spec := "fnShedKept", unfollowed := true, recurses := true, apart := false }
def FnShedKeptSaid : Prop := fnShedKeptRow.holds Try.pinned (OpenSpec.ofChange fnShedKeptSpec)

/-- ITS FALSE NEIGHBOUR: 'it returns false'. Refute it at one input. -/
def fnShedKeptWrong : ChangeSpec := { name := "fnShedKept", fn := fun _ => fun
  | [d] => { results := [.lit (.bool false)], args := [d] }
  | _ => none }
def FnShedKeptWrongFalsely : Prop := fnShedKeptRow.holds Try.pinned (OpenSpec.ofChange fnShedKeptWrong)

/- THE SECOND FORM. 'bulk': how many values and letters a reading holds, each counted each time it is reached (what is shared counts as often as it is met; a slice's spare places count too). A statement '..UptoSaid' is the law's where the arguments, and the package variables that the reading takes, are together of bulk at most 1048576: NARROWER than '..Said'. Prove '..Said' where nothing that the law and all that it calls make is longer than what came in: it says more and counts as full. Else prove '..UptoSaid'. A law counts once. -/
mutual
def uptoBulk {H : Type} : DataW H → Nat
  | .lit (.string bytes) => bytes.length + 1
  | .lit _ => 1
  | .nil => 1
  | .ptr d => uptoBulk d + 1
  | .slice elems spare => uptoBulkAll elems + uptoBulkAll spare + 1
  | .agg parts => uptoBulkAll parts + 1
  | .iface _ d => uptoBulk d + 1
  | .map entries => uptoBulkEntries entries + 1
  | .held _ => 1
def uptoBulkAll {H : Type} : List (DataW H) → Nat
  | [] => 0
  | d :: r => uptoBulk d + uptoBulkAll r
def uptoBulkEntries {H : Type} : List (Lit × DataW H) → Nat
  | [] => 0
  | x :: r => uptoBulkEntry x + uptoBulkEntries r
def uptoBulkEntry {H : Type} : Lit × DataW H → Nat
  | (.string bytes, d) => bytes.length + uptoBulk d + 1
  | (_, d) => uptoBulk d + 1
 end
def uptoSmall : (H : Type) → List (DataW H) → Bool := fun _ ds => decide (uptoBulkAll ds ≤ 1048576)
def OpenSpec.upto (s : _root_.Go.ChangeSpec) : _root_.Go.OpenSpec := { _root_.Go.OpenSpec.ofChange s with cond := some uptoSmall }

/-- 'laws.FnExactTry', WHERE WHAT IT READS IS OF BULK AT MOST 1048576: true; the input reads as it did. -/
def fnExactTryUptoRow : OpenClaim := { program := "ytakafcocojjeoaa", sum := "a03c47439891904184e993fd490bc98e67653e9384425361ac637b437ed2c1b0", func := "loop.example/g00052/laws.FnExactTry", spec := "fnExactTry", unfollowed := true, recurses := true, apart := false, narrowed := true }
def FnExactTryUptoSaid : Prop := fnExactTryUptoRow.holds Try.pinned (OpenSpec.upto fnExactTrySpec)

/-- 'laws.FnTried', WHERE WHAT IT READS IS OF BULK AT MOST 1048576: true; the input reads as it did. -/
def fnTriedUptoRow : OpenClaim := { program := "ytakafcocojjeoaa", sum := "a03c47439891904184e993fd490bc98e67653e9384425361ac637b437ed2c1b0", func := "loop.example/g00052/laws.FnTried", spec := "fnTried", unfollowed := true, recurses := true, apart := false, narrowed := true }
def FnTriedUptoSaid : Prop := fnTriedUptoRow.holds Try.pinned (OpenSpec.upto fnTriedSpec)

/-- 'laws.FnExactShed', WHERE WHAT IT READS IS OF BULK AT MOST 1048576: true; the input reads as it did. -/
def fnExactShedUptoRow : OpenClaim := { program := "ytakafcocojjeoaa", sum := "a03c47439891904184e993fd490bc98e67653e9384425361ac637b437ed2c1b0", func := "loop.example/g00052/laws.FnExactShed", spec := "fnExactShed", unfollowed := true, recurses := true, apart := false, narrowed := true }
def FnExactShedUptoSaid : Prop := fnExactShedUptoRow.holds Try.pinned (OpenSpec.upto fnExactShedSpec)

/-- 'laws.FnShedKept', WHERE WHAT IT READS IS OF BULK AT MOST 1048576: true; the input reads as it did. -/
def fnShedKeptUptoRow : OpenClaim := { program := "ytakafcocojjeoaa", sum := "a03c47439891904184e993fd490bc98e67653e9384425361ac637b437ed2c1b0", func := "loop.example/g00052/laws.FnShedKept", spec := "fnShedKept", unfollowed := true, recurses := true, apart := false, narrowed := true }
def FnShedKeptUptoSaid : Prop := fnShedKeptUptoRow.holds Try.pinned (OpenSpec.upto fnShedKeptSpec)

end Rows
end Go.Proofs.Ytakafcocojjeoaa
