/-
  No cell of these rows narrows 'for every input' (looked for: loops, veiled, ifaces, maps, wideKeys, modest, calm, conditions, laid).
  DERIVED. THE GIVEN ROWS OF THIS SEAT. 6 by the template 'for every input the law returns true; each argument reads behind the call as it read before'; 0 by the template 'total and deterministic' (their statements: YtcmcnpildccdeabTotals.lean).
  GIVEN WITH THE SEED: the statements are not yours to turn. If you find one false, say at which input.
  Laid BY PROGRAM, IN A SANDBOX (cutbox-rows.mjs): the forced cells as the released guide's own fill.sh prints them over the translation ec552392d64125b6… (all of the seat's roots in one cut). By AI agents, Wed Nov 11 2026. No macro, syntax, notation, axiom, sorry.
-/
import Derived.Test.YtcmcnpildccdeabChecked
import GoSem.Claim
import GoSem.ClaimJoined
import GoSem.ClaimMapViews
import Derived.JoinedTies
import Derived.KernelRfl
namespace Go.Proofs.Ytcmcnpildccdeab
/- THE CELL 'sum', in the pinned program and in every row, IS THE sha256 OF THE DUMP (.gsa) THAT YtcmcnpildccdeabProg.lean LOADS. Nothing in Lean hashes anything: it is a label: what it is worth is what the hold of that sum in a sandbox is worth. -/
noncomputable def Try.pinned : Pinned := { name := "ytcmcnpildccdeab", sum := "ec552392d64125b68462f2cc148d532fcc9d3fcdb302a19e48d6a9bdbe726d14", checked := Try.checked }
namespace Rows
def none {H : Type} : Left H := { results := [], args := [] }

/-- 'laws.FnHops15': WHATEVER THE INPUT: true; the input reads as it did. -/
def fnHops15Spec : ChangeSpec := { name := "fnHops15", fn := fun _ => fun
  | [d] => { results := [.lit (.bool true)], args := [d] }
  | _ => none }
def fnHops15Row : OpenClaim := { program := "ytcmcnpildccdeab", sum := "ec552392d64125b68462f2cc148d532fcc9d3fcdb302a19e48d6a9bdbe726d14", func := "loop.example/g00052/laws.FnHops15", spec := "fnHops15", apart := false }
def FnHops15Said : Prop := fnHops15Row.holds Try.pinned (OpenSpec.ofChange fnHops15Spec)

/-- ITS FALSE NEIGHBOUR: 'it returns false'. Refute it at one input. -/
def fnHops15Wrong : ChangeSpec := { name := "fnHops15", fn := fun _ => fun
  | [d] => { results := [.lit (.bool false)], args := [d] }
  | _ => none }
def FnHops15WrongFalsely : Prop := fnHops15Row.holds Try.pinned (OpenSpec.ofChange fnHops15Wrong)

/-- 'laws.FnStirred15': WHATEVER THE INPUT: true; the input reads as it did. -/
def fnStirred15Spec : ChangeSpec := { name := "fnStirred15", fn := fun _ => fun
  | [d] => { results := [.lit (.bool true)], args := [d] }
  | _ => none }
def fnStirred15Row : OpenClaim := { program := "ytcmcnpildccdeab", sum := "ec552392d64125b68462f2cc148d532fcc9d3fcdb302a19e48d6a9bdbe726d14", func := "loop.example/g00052/laws.FnStirred15", spec := "fnStirred15", apart := false }
def FnStirred15Said : Prop := fnStirred15Row.holds Try.pinned (OpenSpec.ofChange fnStirred15Spec)

/-- ITS FALSE NEIGHBOUR: 'it returns false'. Refute it at one input. -/
def fnStirred15Wrong : ChangeSpec := { name := "fnStirred15", fn := fun _ => fun
  | [d] => { results := [.lit (.bool false)], args := [d] }
  | _ => none }
def FnStirred15WrongFalsely : Prop := fnStirred15Row.holds Try.pinned (OpenSpec.ofChange fnStirred15Wrong)

/-- 'laws.FnExactAdmit': WHATEVER THE INPUT: true; the input reads as it did. -/
def fnExactAdmitSpec : ChangeSpec := { name := "fnExactAdmit", fn := fun _ => fun
  | [d1, d2, d3] => { results := [.lit (.bool true)], args := [d1, d2, d3] }
  | _ => none }
def fnExactAdmitRow : OpenClaim := { program := "ytcmcnpildccdeab", sum := "ec552392d64125b68462f2cc148d532fcc9d3fcdb302a19e48d6a9bdbe726d14", func := "loop.example/g00052/laws.FnExactAdmit", spec := "fnExactAdmit", apart := false }
def FnExactAdmitSaid : Prop := fnExactAdmitRow.holds Try.pinned (OpenSpec.ofChange fnExactAdmitSpec)

/-- ITS FALSE NEIGHBOUR: 'it returns false'. Refute it at one input. -/
def fnExactAdmitWrong : ChangeSpec := { name := "fnExactAdmit", fn := fun _ => fun
  | [d1, d2, d3] => { results := [.lit (.bool false)], args := [d1, d2, d3] }
  | _ => none }
def FnExactAdmitWrongFalsely : Prop := fnExactAdmitRow.holds Try.pinned (OpenSpec.ofChange fnExactAdmitWrong)

/-- 'laws.FnAdmitted': WHATEVER THE INPUT: true; the input reads as it did. -/
def fnAdmittedSpec : ChangeSpec := { name := "fnAdmitted", fn := fun _ => fun
  | [d] => { results := [.lit (.bool true)], args := [d] }
  | _ => none }
def fnAdmittedRow : OpenClaim := { program := "ytcmcnpildccdeab", sum := "ec552392d64125b68462f2cc148d532fcc9d3fcdb302a19e48d6a9bdbe726d14", func := "loop.example/g00052/laws.FnAdmitted", spec := "fnAdmitted", apart := false }
def FnAdmittedSaid : Prop := fnAdmittedRow.holds Try.pinned (OpenSpec.ofChange fnAdmittedSpec)

/-- ITS FALSE NEIGHBOUR: 'it returns false'. Refute it at one input. -/
def fnAdmittedWrong : ChangeSpec := { name := "fnAdmitted", fn := fun _ => fun
  | [d] => { results := [.lit (.bool false)], args := [d] }
  | _ => none }
def FnAdmittedWrongFalsely : Prop := fnAdmittedRow.holds Try.pinned (OpenSpec.ofChange fnAdmittedWrong)

/-- 'laws.FnExactFair': WHATEVER THE INPUT: true; the input reads as it did. -/
def fnExactFairSpec : ChangeSpec := { name := "fnExactFair", fn := fun _ => fun
  | [d1, d2] => { results := [.lit (.bool true)], args := [d1, d2] }
  | _ => none }
def fnExactFairRow : OpenClaim := { program := "ytcmcnpildccdeab", sum := "ec552392d64125b68462f2cc148d532fcc9d3fcdb302a19e48d6a9bdbe726d14", func := "loop.example/g00052/laws.FnExactFair", spec := "fnExactFair", apart := false }
def FnExactFairSaid : Prop := fnExactFairRow.holds Try.pinned (OpenSpec.ofChange fnExactFairSpec)

/-- ITS FALSE NEIGHBOUR: 'it returns false'. Refute it at one input. -/
def fnExactFairWrong : ChangeSpec := { name := "fnExactFair", fn := fun _ => fun
  | [d1, d2] => { results := [.lit (.bool false)], args := [d1, d2] }
  | _ => none }
def FnExactFairWrongFalsely : Prop := fnExactFairRow.holds Try.pinned (OpenSpec.ofChange fnExactFairWrong)

/-- 'laws.FnFairTurns': WHATEVER THE INPUT: true; the input reads as it did. -/
def fnFairTurnsSpec : ChangeSpec := { name := "fnFairTurns", fn := fun _ => fun
  | [d] => { results := [.lit (.bool true)], args := [d] }
  | _ => none }
def fnFairTurnsRow : OpenClaim := { program := "ytcmcnpildccdeab", sum := "ec552392d64125b68462f2cc148d532fcc9d3fcdb302a19e48d6a9bdbe726d14", func := "loop.example/g00052/laws.FnFairTurns", spec := "fnFairTurns", apart := false }
def FnFairTurnsSaid : Prop := fnFairTurnsRow.holds Try.pinned (OpenSpec.ofChange fnFairTurnsSpec)

/-- ITS FALSE NEIGHBOUR: 'it returns false'. Refute it at one input. -/
def fnFairTurnsWrong : ChangeSpec := { name := "fnFairTurns", fn := fun _ => fun
  | [d] => { results := [.lit (.bool false)], args := [d] }
  | _ => none }
def FnFairTurnsWrongFalsely : Prop := fnFairTurnsRow.holds Try.pinned (OpenSpec.ofChange fnFairTurnsWrong)

/- THE SECOND FORM. 'bulk': how many values and letters a reading holds, each counted each time it is reached (what is shared counts as often as it is met; a slice's spare places count too). A statement '..UptoSaid' is the law's where the arguments, and the package variables that the reading takes, are together of bulk at most 1048576: NARROWER than '..Said'. Prove '..Said' where nothing that the law and all that it calls make is longer than what came in: it says more and counts as full. Else prove '..UptoSaid'. A law counts once. -/
mutual
def uptoBulk {H : Type} : DataW H → Nat
  | .lit (.string bytes) => bytes.length + 1
  | .lit _ => 1
  | .nil => 1
  | .ptr d => uptoBulk d + 1
  | .slice elems spare => uptoBulkAll elems + uptoBulkAll spare + 1
  | .agg parts => uptoBulkAll parts + 1
  | .iface _ d => uptoBulk d + 1
  | .map entries => uptoBulkEntries entries + 1
  | .held _ => 1
def uptoBulkAll {H : Type} : List (DataW H) → Nat
  | [] => 0
  | d :: r => uptoBulk d + uptoBulkAll r
def uptoBulkEntries {H : Type} : List (Lit × DataW H) → Nat
  | [] => 0
  | x :: r => uptoBulkEntry x + uptoBulkEntries r
def uptoBulkEntry {H : Type} : Lit × DataW H → Nat
  | (.string bytes, d) => bytes.length + uptoBulk d + 1
  | (_, d) => uptoBulk d + 1
 end
def uptoSmall : (H : Type) → List (DataW H) → Bool := fun _ ds => decide (uptoBulkAll ds ≤ 1048576)
def OpenSpec.upto (s : _root_.Go.ChangeSpec) : _root_.Go.OpenSpec := { _root_.Go.OpenSpec.ofChange s with cond := some uptoSmall }

/-- 'laws.FnHops15', WHERE WHAT IT READS IS OF BULK AT MOST 1048576: true; the input reads as it did. -/
def fnHops15UptoRow : OpenClaim := { program := "ytcmcnpildccdeab", sum := "ec552392d64125b68462f2cc148d532fcc9d3fcdb302a19e48d6a9bdbe726d14", func := "loop.example/g00052/laws.FnHops15", spec := "fnHops15", apart := false, narrowed := true }
def FnHops15UptoSaid : Prop := fnHops15UptoRow.holds Try.pinned (OpenSpec.upto fnHops15Spec)

/-- 'laws.FnStirred15', WHERE WHAT IT READS IS OF BULK AT MOST 1048576: true; the input reads as it did. -/
def fnStirred15UptoRow : OpenClaim := { program := "ytcmcnpildccdeab", sum := "ec552392d64125b68462f2cc148d532fcc9d3fcdb302a19e48d6a9bdbe726d14", func := "loop.example/g00052/laws.FnStirred15", spec := "fnStirred15", apart := false, narrowed := true }
def FnStirred15UptoSaid : Prop := fnStirred15UptoRow.holds Try.pinned (OpenSpec.upto fnStirred15Spec)

/-- 'laws.FnExactAdmit', WHERE WHAT IT READS IS OF BULK AT MOST 1048576: true; the input reads as it did. -/
def fnExactAdmitUptoRow : OpenClaim := { program := "ytcmcnpildccdeab", sum := "ec552392d64125b68462f2cc148d532fcc9d3fcdb302a19e48d6a9bdbe726d14", func := "loop.example/g00052/laws.FnExactAdmit", spec := "fnExactAdmit", apart := false, narrowed := true }
def FnExactAdmitUptoSaid : Prop := fnExactAdmitUptoRow.holds Try.pinned (OpenSpec.upto fnExactAdmitSpec)

/-- 'laws.FnAdmitted', WHERE WHAT IT READS IS OF BULK AT MOST 1048576: true; the input reads as it did. -/
def fnAdmittedUptoRow : OpenClaim := { program := "ytcmcnpildccdeab", sum := "ec552392d64125b68462f2cc148d532fcc9d3fcdb302a19e48d6a9bdbe726d14", func := "loop.example/g00052/laws.FnAdmitted", spec := "fnAdmitted", apart := false, narrowed := true }
def FnAdmittedUptoSaid : Prop := fnAdmittedUptoRow.holds Try.pinned (OpenSpec.upto fnAdmittedSpec)

/-- 'laws.FnExactFair', WHERE WHAT IT READS IS OF BULK AT MOST 1048576: true; the input reads as it did. -/
def fnExactFairUptoRow : OpenClaim := { program := "ytcmcnpildccdeab", sum := "ec552392d64125b68462f2cc148d532fcc9d3fcdb302a19e48d6a9bdbe726d14", func := "loop.example/g00052/laws.FnExactFair", spec := "fnExactFair", apart := false, narrowed := true }
def FnExactFairUptoSaid : Prop := fnExactFairUptoRow.holds Try.pinned (OpenSpec.upto fnExactFairSpec)

/-- 'laws.FnFairTurns', WHERE WHAT IT READS IS OF BULK AT MOST 1048576: true; the input reads as it did. -/
def fnFairTurnsUptoRow : OpenClaim := { program := "ytcmcnpildccdeab", sum := "ec552392d64125b68462f2cc148d532fcc9d3fcdb302a19e48d6a9bdbe726d14", func := "loop.example/g00052/laws.FnFairTurns", spec := "fnFairTurns", apart := false, narrowed := true }
def FnFairTurnsUptoSaid : Prop := fnFairTurnsUptoRow.holds Try.pinned (OpenSpec.upto fnFairTurnsSpec)

end Rows
end Go.Proofs.Ytcmcnpildccdeab
