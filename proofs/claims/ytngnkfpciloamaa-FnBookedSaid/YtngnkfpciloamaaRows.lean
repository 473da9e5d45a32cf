/-
  No cell of these rows narrows 'for every input' (looked for: loops, veiled, ifaces, maps, wideKeys, modest, calm, conditions, laid).
  DERIVED. THE GIVEN ROWS OF THIS SEAT. 6 by the template 'for every input the law returns true; each argument reads behind the call as it read before'; 0 by the template 'total and deterministic' (their statements: YtngnkfpciloamaaTotals.lean).
  GIVEN WITH THE SEED: the statements are not yours to turn. If you find one false, say at which input.
  Laid BY PROGRAM, IN A SANDBOX (cutbox-rows.mjs): the forced cells as the released guide's own fill.sh prints them over the translation 226a32b75c6b31a8… (all of the seat's roots in one cut). By AI agents, Wed Nov 11 2026. No macro, syntax, notation, axiom, sorry.
-/
import Derived.Test.YtngnkfpciloamaaChecked
import GoSem.Claim
import GoSem.ClaimJoined
import GoSem.ClaimMapViews
import Derived.JoinedTies
import Derived.KernelRfl
namespace Go.Proofs.Ytngnkfpciloamaa
/- THE CELL 'sum', in the pinned program and in every row, IS THE sha256 OF THE DUMP (.gsa) THAT YtngnkfpciloamaaProg.lean LOADS. Nothing in Lean hashes anything: it is a label: what it is worth is what the hold of that sum in a sandbox is worth. -/
noncomputable def Try.pinned : Pinned := { name := "ytngnkfpciloamaa", sum := "226a32b75c6b31a808deb03031049ccd0f22d615b0459982506d2ae235d402ad", checked := Try.checked }
namespace Rows
def none {H : Type} : Left H := { results := [], args := [] }

/-- 'laws.FnExactMendBook': WHATEVER THE INPUT: true; the input reads as it did. -/
def fnExactMendBookSpec : ChangeSpec := { name := "fnExactMendBook", fn := fun _ => fun
  | [d] => { results := [.lit (.bool true)], args := [d] }
  | _ => none }
def fnExactMendBookRow : OpenClaim := { program := "ytngnkfpciloamaa", sum := "226a32b75c6b31a808deb03031049ccd0f22d615b0459982506d2ae235d402ad", func := "loop.example/g00052/laws.FnExactMendBook", spec := "fnExactMendBook", unfollowed := true, recurses := true, apart := false }
def FnExactMendBookSaid : Prop := fnExactMendBookRow.holds Try.pinned (OpenSpec.ofChange fnExactMendBookSpec)

/-- ITS FALSE NEIGHBOUR: 'it returns false'. Refute it at one input. -/
def fnExactMendBookWrong : ChangeSpec := { name := "fnExactMendBook", fn := fun _ => fun
  | [d] => { results := [.lit (.bool false)], args := [d] }
  | _ => none }
def FnExactMendBookWrongFalsely : Prop := fnExactMendBookRow.holds Try.pinned (OpenSpec.ofChange fnExactMendBookWrong)

/-- 'laws.FnExactFaults': WHATEVER THE INPUT: true; the input reads as it did. -/
def fnExactFaultsSpec : ChangeSpec := { name := "fnExactFaults", fn := fun _ => fun
  | [d] => { results := [.lit (.bool true)], args := [d] }
  | _ => none }
def fnExactFaultsRow : OpenClaim := { program := "ytngnkfpciloamaa", sum := "226a32b75c6b31a808deb03031049ccd0f22d615b0459982506d2ae235d402ad", func := "loop.example/g00052/laws.FnExactFaults", spec := "fnExactFaults", unfollowed := true, recurses := true, apart := false }
def FnExactFaultsSaid : Prop := fnExactFaultsRow.holds Try.pinned (OpenSpec.ofChange fnExactFaultsSpec)

/-- ITS FALSE NEIGHBOUR: 'it returns false'. Refute it at one input. -/
def fnExactFaultsWrong : ChangeSpec := { name := "fnExactFaults", fn := fun _ => fun
  | [d] => { results := [.lit (.bool false)], args := [d] }
  | _ => none }
def FnExactFaultsWrongFalsely : Prop := fnExactFaultsRow.holds Try.pinned (OpenSpec.ofChange fnExactFaultsWrong)

/-- 'laws.FnMendedBook': WHATEVER THE INPUT: true; the input reads as it did. -/
def fnMendedBookSpec : ChangeSpec := { name := "fnMendedBook", fn := fun _ => fun
  | [d] => { results := [.lit (.bool true)], args := [d] }
  | _ => none }
def fnMendedBookRow : OpenClaim := { program := "ytngnkfpciloamaa", sum := "226a32b75c6b31a808deb03031049ccd0f22d615b0459982506d2ae235d402ad", func := "loop.example/g00052/laws.FnMendedBook", spec := "fnMendedBook", unfollowed := true, recurses := true, apart := false }
def FnMendedBookSaid : Prop := fnMendedBookRow.holds Try.pinned (OpenSpec.ofChange fnMendedBookSpec)

/-- ITS FALSE NEIGHBOUR: 'it returns false'. Refute it at one input. -/
def fnMendedBookWrong : ChangeSpec := { name := "fnMendedBook", fn := fun _ => fun
  | [d] => { results := [.lit (.bool false)], args := [d] }
  | _ => none }
def FnMendedBookWrongFalsely : Prop := fnMendedBookRow.holds Try.pinned (OpenSpec.ofChange fnMendedBookWrong)

/-- 'laws.FnExactRestart': WHATEVER THE INPUT: true; the input reads as it did. -/
def fnExactRestartSpec : ChangeSpec := { name := "fnExactRestart", fn := fun _ => fun
  | [d1, d2] => { results := [.lit (.bool true)], args := [d1, d2] }
  | _ => none }
def fnExactRestartRow : OpenClaim := { program := "ytngnkfpciloamaa", sum := "226a32b75c6b31a808deb03031049ccd0f22d615b0459982506d2ae235d402ad", func := "loop.example/g00052/laws.FnExactRestart", spec := "fnExactRestart", unfollowed := true, recurses := true, apart := false }
def FnExactRestartSaid : Prop := fnExactRestartRow.holds Try.pinned (OpenSpec.ofChange fnExactRestartSpec)

/-- ITS FALSE NEIGHBOUR: 'it returns false'. Refute it at one input. -/
def fnExactRestartWrong : ChangeSpec := { name := "fnExactRestart", fn := fun _ => fun
  | [d1, d2] => { results := [.lit (.bool false)], args := [d1, d2] }
  | _ => none }
def FnExactRestartWrongFalsely : Prop := fnExactRestartRow.holds Try.pinned (OpenSpec.ofChange fnExactRestartWrong)

/-- 'laws.FnBooked': WHATEVER THE INPUT: true; the input reads as it did. -/
def fnBookedSpec : ChangeSpec := { name := "fnBooked", fn := fun _ => fun
  | [d] => { results := [.lit (.bool true)], args := [d] }
  | _ => none }
def fnBookedRow : OpenClaim := { program := "ytngnkfpciloamaa", sum := "226a32b75c6b31a808deb03031049ccd0f22d615b0459982506d2ae235d402ad", func := "loop.example/g00052/laws.FnBooked", spec := "fnBooked", unfollowed := true, recurses := true, apart := false }
def FnBookedSaid : Prop := fnBookedRow.holds Try.pinned (OpenSpec.ofChange fnBookedSpec)

/-- ITS FALSE NEIGHBOUR: 'it returns false'. Refute it at one input. -/
def fnBookedWrong : ChangeSpec := { name := "fnBooked", fn := fun _ => fun
  | [d] => { results := [.lit (.bool false)], args := [d] }
  | _ => none }
def FnBookedWrongFalsely : Prop := fnBookedRow.holds Try.pinned (OpenSpec.ofChange fnBookedWrong)

/-- 'laws.FnExactAdd18': WHATEVER THE INPUT: true; the input reads as it did. -/
def fnExactAdd18Spec : ChangeSpec := { name := "fnExactAdd18", fn := fun _ => fun
  | [d1, d2] => { results := [.lit (.bool true)], args := [d1, d2] }
  | _ => none }
def fnExactAdd18Row : OpenClaim := { program := "ytngnkfpciloamaa", sum := "226a32b75c6b31a808deb03031049ccd0f22d615b0459982506d2ae235d402ad", func := "loop.example/g00052/laws.FnExactAdd18", spec := "fnExactAdd18", unfollowed := true, recurses := true, apart := false }
def FnExactAdd18Said : Prop := fnExactAdd18Row.holds Try.pinned (OpenSpec.ofChange fnExactAdd18Spec)

/-- ITS FALSE NEIGHBOUR: 'it returns false'. Refute it at one input. -/
def fnExactAdd18Wrong : ChangeSpec := { name := "fnExactAdd18", fn := fun _ => fun
  | [d1, d2] => { results := [.lit (.bool false)], args := [d1, d2] }
  | _ => none }
def FnExactAdd18WrongFalsely : Prop := fnExactAdd18Row.holds Try.pinned (OpenSpec.ofChange fnExactAdd18Wrong)

/- THE SECOND FORM. 'bulk': how many values and letters a reading holds, each counted each time it is reached (what is shared counts as often as it is met; a slice's spare places count too). A statement '..UptoSaid' is the law's where the arguments, and the package variables that the reading takes, are together of bulk at most 1048576: NARROWER than '..Said'. Prove '..Said' where nothing that the law and all that it calls make is longer than what came in: it says more and counts as full. Else prove '..UptoSaid'. A law counts once. -/
mutual
def uptoBulk {H : Type} : DataW H → Nat
  | .lit (.string bytes) => bytes.length + 1
  | .lit _ => 1
  | .nil => 1
  | .ptr d => uptoBulk d + 1
  | .slice elems spare => uptoBulkAll elems + uptoBulkAll spare + 1
  | .agg parts => uptoBulkAll parts + 1
  | .iface _ d => uptoBulk d + 1
  | .map entries => uptoBulkEntries entries + 1
  | .held _ => 1
def uptoBulkAll {H : Type} : List (DataW H) → Nat
  | [] => 0
  | d :: r => uptoBulk d + uptoBulkAll r
def uptoBulkEntries {H : Type} : List (Lit × DataW H) → Nat
  | [] => 0
  | x :: r => uptoBulkEntry x + uptoBulkEntries r
def uptoBulkEntry {H : Type} : Lit × DataW H → Nat
  | (.string bytes, d) => bytes.length + uptoBulk d + 1
  | (_, d) => uptoBulk d + 1
 end
def uptoSmall : (H : Type) → List (DataW H) → Bool := fun _ ds => decide (uptoBulkAll ds ≤ 1048576)
def OpenSpec.upto (s : _root_.Go.ChangeSpec) : _root_.Go.OpenSpec := { _root_.Go.OpenSpec.ofChange s with cond := some uptoSmall }

/-- 'laws.FnExactMendBook', WHERE WHAT IT READS IS OF BULK AT MOST 1048576: true; the input reads as it did. -/
def fnExactMendBookUptoRow : OpenClaim := { program := "ytngnkfpciloamaa", sum := "226a32b75c6b31a808deb03031049ccd0f22d615b0459982506d2ae235d402ad", func := "loop.example/g00052/laws.FnExactMendBook", spec := "fnExactMendBook", unfollowed := true, recurses := true, apart := false, narrowed := true }
def FnExactMendBookUptoSaid : Prop := fnExactMendBookUptoRow.holds Try.pinned (OpenSpec.upto fnExactMendBookSpec)

/-- 'laws.FnExactFaults', WHERE WHAT IT READS IS OF BULK AT MOST 1048576: true; the input reads as it did. -/
def fnExactFaultsUptoRow : OpenClaim := { program := "ytngnkfpciloamaa", sum := "226a32b75c6b31a808deb03031049ccd0f22d615b0459982506d2ae235d402ad", func := "loop.example/g00052/laws.FnExactFaults", spec := "fnExactFaults", unfollowed := true, recurses := true, apart := false, narrowed := true }
def FnExactFaultsUptoSaid : Prop := fnExactFaultsUptoRow.holds Try.pinned (OpenSpec.upto fnExactFaultsSpec)

/-- 'laws.FnMendedBook', WHERE WHAT IT READS IS OF BULK AT MOST 1048576: true; the input reads as it did. -/
def fnMendedBookUptoRow : OpenClaim := { program := "ytngnkfpciloamaa", sum := "226a32b75c6b31a808deb03031049ccd0f22d615b0459982506d2ae235d402ad", func := "loop.example/g00052/laws.FnMendedBook", spec := "fnMendedBook", unfollowed := true, recurses := true, apart := false, narrowed := true }
def FnMendedBookUptoSaid : Prop := fnMendedBookUptoRow.holds Try.pinned (OpenSpec.upto fnMendedBookSpec)

/-- 'laws.FnExactRestart', WHERE WHAT IT READS IS OF BULK AT MOST 1048576: true; the input reads as it did. -/
def fnExactRestartUptoRow : OpenClaim := { program := "ytngnkfpciloamaa", sum := "226a32b75c6b31a808deb03031049ccd0f22d615b0459982506d2ae235d402ad", func := "loop.example/g00052/laws.FnExactRestart", spec := "fnExactRestart", unfollowed := true, recurses := true, apart := false, narrowed := true }
def FnExactRestartUptoSaid : Prop := fnExactRestartUptoRow.holds Try.pinned (OpenSpec.upto fnExactRestartSpec)

/-- 'laws.FnBooked', WHERE WHAT IT READS IS OF BULK AT MOST 1048576: true; the input reads as it did. -/
def fnBookedUptoRow : OpenClaim := { program := "ytngnkfpciloamaa", sum := "226a32b75c6b31a808deb03031049ccd0f22d615b0459982506d2ae235d402ad", func := "loop.example/g00052/laws.FnBooked", spec := "fnBooked", unfollowed := true, recurses := true, apart := false, narrowed := true }
def FnBookedUptoSaid : Prop := fnBookedUptoRow.holds Try.pinned (OpenSpec.upto fnBookedSpec)

/-- 'laws.FnExactAdd18', WHERE WHAT IT READS IS OF BULK AT MOST 1048576: true; the input reads as it did. -/
def fnExactAdd18UptoRow : OpenClaim := { program := "ytngnkfpciloamaa", sum := "226a32b75c6b31a808deb03031049ccd0f22d615b0459982506d2ae235d402ad", func := "loop.example/g00052/laws.FnExactAdd18", spec := "fnExactAdd18", unfollowed := true, recurses := true, apart := false, narrowed := true }
def FnExactAdd18UptoSaid : Prop := fnExactAdd18UptoRow.holds Try.pinned (OpenSpec.upto fnExactAdd18Spec)

end Rows
end Go.Proofs.Ytngnkfpciloamaa
