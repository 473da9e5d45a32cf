/-
  No cell of these rows narrows 'for every input' (looked for: loops, veiled, ifaces, maps, wideKeys, modest, calm, conditions, laid).
  DERIVED. THE GIVEN ROWS OF THIS SEAT. 7 by the template 'for every input the law returns true; each argument reads behind the call as it read before'; 0 by the template 'total and deterministic' (their statements: YtigbdfhlpnabdaaTotals.lean).
  GIVEN WITH THE SEED: the statements are not yours to turn. If you find one false, say at which input.
  Laid BY PROGRAM, IN A SANDBOX (cutbox-rows.mjs): the forced cells as the released guide's own fill.sh prints them over the translation 2b6657f7fe401605… (all of the seat's roots in one cut). By AI agents, Wed Nov 11 2026. No macro, syntax, notation, axiom, sorry.
-/
import Derived.Test.YtigbdfhlpnabdaaChecked
import GoSem.Claim
import GoSem.ClaimJoined
import GoSem.ClaimMapViews
import Derived.JoinedTies
import Derived.KernelRfl
namespace Go.Proofs.Ytigbdfhlpnabdaa
/- THE CELL 'sum', in the pinned program and in every row, IS THE sha256 OF THE DUMP (.gsa) THAT YtigbdfhlpnabdaaProg.lean LOADS. Nothing in Lean hashes anything: it is a label: what it is worth is what the hold of that sum in a sandbox is worth. -/
noncomputable def Try.pinned : Pinned := { name := "ytigbdfhlpnabdaa", sum := "2b6657f7fe4016050e169fa6856337ce3ef3e9e6b8ecf7af3728ad84789c7db7", checked := Try.checked }
namespace Rows
def none {H : Type} : Left H := { results := [], args := [] }

/-- 'laws.FnExactTrain': WHATEVER THE INPUT: true; the input reads as it did. -/
def fnExactTrainSpec : ChangeSpec := { name := "fnExactTrain", fn := fun _ => fun
  | [] => { results := [.lit (.bool true)], args := [] }
  | _ => none }
def fnExactTrainRow : OpenClaim := { program := "ytigbdfhlpnabdaa", sum := "2b6657f7fe4016050e169fa6856337ce3ef3e9e6b8ecf7af3728ad84789c7db7", func := "loop.example/g00052/laws.FnExactTrain", spec := "fnExactTrain", apart := false }
def FnExactTrainSaid : Prop := fnExactTrainRow.holds Try.pinned (OpenSpec.ofChange fnExactTrainSpec)

/-- ITS FALSE NEIGHBOUR: 'it returns false'. Refute it at one input. -/
def fnExactTrainWrong : ChangeSpec := { name := "fnExactTrain", fn := fun _ => fun
  | [] => { results := [.lit (.bool false)], args := [] }
  | _ => none }
def FnExactTrainWrongFalsely : Prop := fnExactTrainRow.holds Try.pinned (OpenSpec.ofChange fnExactTrainWrong)

/-- 'laws.FnExactSums': WHATEVER THE INPUT: true; the input reads as it did. -/
def fnExactSumsSpec : ChangeSpec := { name := "fnExactSums", fn := fun _ => fun
  | [d] => { results := [.lit (.bool true)], args := [d] }
  | _ => none }
def fnExactSumsRow : OpenClaim := { program := "ytigbdfhlpnabdaa", sum := "2b6657f7fe4016050e169fa6856337ce3ef3e9e6b8ecf7af3728ad84789c7db7", func := "loop.example/g00052/laws.FnExactSums", spec := "fnExactSums", apart := false }
def FnExactSumsSaid : Prop := fnExactSumsRow.holds Try.pinned (OpenSpec.ofChange fnExactSumsSpec)

/-- ITS FALSE NEIGHBOUR: 'it returns false'. Refute it at one input. -/
def fnExactSumsWrong : ChangeSpec := { name := "fnExactSums", fn := fun _ => fun
  | [d] => { results := [.lit (.bool false)], args := [d] }
  | _ => none }
def FnExactSumsWrongFalsely : Prop := fnExactSumsRow.holds Try.pinned (OpenSpec.ofChange fnExactSumsWrong)

/-- 'laws.FnExactQuotWide': WHATEVER THE INPUT: true; the input reads as it did. -/
def fnExactQuotWideSpec : ChangeSpec := { name := "fnExactQuotWide", fn := fun _ => fun
  | [d1, d2] => { results := [.lit (.bool true)], args := [d1, d2] }
  | _ => none }
def fnExactQuotWideRow : OpenClaim := { program := "ytigbdfhlpnabdaa", sum := "2b6657f7fe4016050e169fa6856337ce3ef3e9e6b8ecf7af3728ad84789c7db7", func := "loop.example/g00052/laws.FnExactQuotWide", spec := "fnExactQuotWide", inPlace := ["math.Float64bits", "math.Float64frombits"], apart := false }
def FnExactQuotWideSaid : Prop := fnExactQuotWideRow.holds Try.pinned (OpenSpec.ofChange fnExactQuotWideSpec)

/-- ITS FALSE NEIGHBOUR: 'it returns false'. Refute it at one input. -/
def fnExactQuotWideWrong : ChangeSpec := { name := "fnExactQuotWide", fn := fun _ => fun
  | [d1, d2] => { results := [.lit (.bool false)], args := [d1, d2] }
  | _ => none }
def FnExactQuotWideWrongFalsely : Prop := fnExactQuotWideRow.holds Try.pinned (OpenSpec.ofChange fnExactQuotWideWrong)

/-- 'laws.FnExactMatch14': WHATEVER THE INPUT: true; the input reads as it did. -/
def fnExactMatch14Spec : ChangeSpec := { name := "fnExactMatch14", fn := fun _ => fun
  | [d1, d2] => { results := [.lit (.bool true)], args := [d1, d2] }
  | _ => none }
def fnExactMatch14Row : OpenClaim := { program := "ytigbdfhlpnabdaa", sum := "2b6657f7fe4016050e169fa6856337ce3ef3e9e6b8ecf7af3728ad84789c7db7", func := "loop.example/g00052/laws.FnExactMatch14", spec := "fnExactMatch14", apart := false }
def FnExactMatch14Said : Prop := fnExactMatch14Row.holds Try.pinned (OpenSpec.ofChange fnExactMatch14Spec)

/-- ITS FALSE NEIGHBOUR: 'it returns false'. Refute it at one input. -/
def fnExactMatch14Wrong : ChangeSpec := { name := "fnExactMatch14", fn := fun _ => fun
  | [d1, d2] => { results := [.lit (.bool false)], args := [d1, d2] }
  | _ => none }
def FnExactMatch14WrongFalsely : Prop := fnExactMatch14Row.holds Try.pinned (OpenSpec.ofChange fnExactMatch14Wrong)

/-- 'laws.FnExactGain15': WHATEVER THE INPUT: true; the input reads as it did. -/
def fnExactGain15Spec : ChangeSpec := { name := "fnExactGain15", fn := fun _ => fun
  | [d] => { results := [.lit (.bool true)], args := [d] }
  | _ => none }
def fnExactGain15Row : OpenClaim := { program := "ytigbdfhlpnabdaa", sum := "2b6657f7fe4016050e169fa6856337ce3ef3e9e6b8ecf7af3728ad84789c7db7", func := "loop.example/g00052/laws.FnExactGain15", spec := "fnExactGain15", apart := false }
def FnExactGain15Said : Prop := fnExactGain15Row.holds Try.pinned (OpenSpec.ofChange fnExactGain15Spec)

/-- ITS FALSE NEIGHBOUR: 'it returns false'. Refute it at one input. -/
def fnExactGain15Wrong : ChangeSpec := { name := "fnExactGain15", fn := fun _ => fun
  | [d] => { results := [.lit (.bool false)], args := [d] }
  | _ => none }
def FnExactGain15WrongFalsely : Prop := fnExactGain15Row.holds Try.pinned (OpenSpec.ofChange fnExactGain15Wrong)

/-- 'laws.FnExactBurst': WHATEVER THE INPUT: true; the input reads as it did. -/
def fnExactBurstSpec : ChangeSpec := { name := "fnExactBurst", fn := fun _ => fun
  | [d] => { results := [.lit (.bool true)], args := [d] }
  | _ => none }
def fnExactBurstRow : OpenClaim := { program := "ytigbdfhlpnabdaa", sum := "2b6657f7fe4016050e169fa6856337ce3ef3e9e6b8ecf7af3728ad84789c7db7", func := "loop.example/g00052/laws.FnExactBurst", spec := "fnExactBurst", apart := false }
def FnExactBurstSaid : Prop := fnExactBurstRow.holds Try.pinned (OpenSpec.ofChange fnExactBurstSpec)

/-- ITS FALSE NEIGHBOUR: 'it returns false'. Refute it at one input. -/
def fnExactBurstWrong : ChangeSpec := { name := "fnExactBurst", fn := fun _ => fun
  | [d] => { results := [.lit (.bool false)], args := [d] }
  | _ => none }
def FnExactBurstWrongFalsely : Prop := fnExactBurstRow.holds Try.pinned (OpenSpec.ofChange fnExactBurstWrong)

/-- 'laws.FnExactBits15': WHATEVER THE INPUT: true; the input reads as it did. -/
def fnExactBits15Spec : ChangeSpec := { name := "fnExactBits15", fn := fun _ => fun
  | [d] => { results := [.lit (.bool true)], args := [d] }
  | _ => none }
def fnExactBits15Row : OpenClaim := { program := "ytigbdfhlpnabdaa", sum := "2b6657f7fe4016050e169fa6856337ce3ef3e9e6b8ecf7af3728ad84789c7db7", func := "loop.example/g00052/laws.FnExactBits15", spec := "fnExactBits15", inPlace := ["math.Float64bits", "math.Float64frombits"], unfollowed := true, recurses := true, apart := false }
def FnExactBits15Said : Prop := fnExactBits15Row.holds Try.pinned (OpenSpec.ofChange fnExactBits15Spec)

/-- ITS FALSE NEIGHBOUR: 'it returns false'. Refute it at one input. -/
def fnExactBits15Wrong : ChangeSpec := { name := "fnExactBits15", fn := fun _ => fun
  | [d] => { results := [.lit (.bool false)], args := [d] }
  | _ => none }
def FnExactBits15WrongFalsely : Prop := fnExactBits15Row.holds Try.pinned (OpenSpec.ofChange fnExactBits15Wrong)

/- THE SECOND FORM. 'bulk': how many values and letters a reading holds, each counted each time it is reached (what is shared counts as often as it is met; a slice's spare places count too). A statement '..UptoSaid' is the law's where the arguments, and the package variables that the reading takes, are together of bulk at most 1048576: NARROWER than '..Said'. Prove '..Said' where nothing that the law and all that it calls make is longer than what came in: it says more and counts as full. Else prove '..UptoSaid'. A law counts once. -/
mutual
def uptoBulk {H : Type} : DataW H → Nat
  | .lit (.string bytes) => bytes.length + 1
  | .lit _ => 1
  | .nil => 1
  | .ptr d => uptoBulk d + 1
  | .slice elems spare => uptoBulkAll elems + uptoBulkAll spare + 1
  | .agg parts => uptoBulkAll parts + 1
  | .iface _ d => uptoBulk d + 1
  | .map entries => uptoBulkEntries entries + 1
  | .held _ => 1
def uptoBulkAll {H : Type} : List (DataW H) → Nat
  | [] => 0
  | d :: r => uptoBulk d + uptoBulkAll r
def uptoBulkEntries {H : Type} : List (Lit × DataW H) → Nat
  | [] => 0
  | x :: r => uptoBulkEntry x + uptoBulkEntries r
def uptoBulkEntry {H : Type} : Lit × DataW H → Nat
  | (.string bytes, d) => bytes.length + uptoBulk d + 1
  | (_, d) => uptoBulk d + 1
 end
def uptoSmall : (H : Type) → List (DataW H) → Bool := fun _ ds => decide (uptoBulkAll ds ≤ 1048576)
def OpenSpec.upto (s : _root_.Go.ChangeSpec) : _root_.Go.OpenSpec := { _root_.Go.OpenSpec.ofChange s with cond := some uptoSmall }

/-- 'laws.FnExactTrain', WHERE WHAT IT READS IS OF BULK AT MOST 1048576: true; the input reads as it did. -/
def fnExactTrainUptoRow : OpenClaim := { program := "ytigbdfhlpnabdaa", sum := "2b6657f7fe4016050e169fa6856337ce3ef3e9e6b8ecf7af3728ad84789c7db7", func := "loop.example/g00052/laws.FnExactTrain", spec := "fnExactTrain", apart := false, narrowed := true }
def FnExactTrainUptoSaid : Prop := fnExactTrainUptoRow.holds Try.pinned (OpenSpec.upto fnExactTrainSpec)

/-- 'laws.FnExactSums', WHERE WHAT IT READS IS OF BULK AT MOST 1048576: true; the input reads as it did. -/
def fnExactSumsUptoRow : OpenClaim := { program := "ytigbdfhlpnabdaa", sum := "2b6657f7fe4016050e169fa6856337ce3ef3e9e6b8ecf7af3728ad84789c7db7", func := "loop.example/g00052/laws.FnExactSums", spec := "fnExactSums", apart := false, narrowed := true }
def FnExactSumsUptoSaid : Prop := fnExactSumsUptoRow.holds Try.pinned (OpenSpec.upto fnExactSumsSpec)

/-- 'laws.FnExactQuotWide', WHERE WHAT IT READS IS OF BULK AT MOST 1048576: true; the input reads as it did. -/
def fnExactQuotWideUptoRow : OpenClaim := { program := "ytigbdfhlpnabdaa", sum := "2b6657f7fe4016050e169fa6856337ce3ef3e9e6b8ecf7af3728ad84789c7db7", func := "loop.example/g00052/laws.FnExactQuotWide", spec := "fnExactQuotWide", inPlace := ["math.Float64bits", "math.Float64frombits"], apart := false, narrowed := true }
def FnExactQuotWideUptoSaid : Prop := fnExactQuotWideUptoRow.holds Try.pinned (OpenSpec.upto fnExactQuotWideSpec)

/-- 'laws.FnExactMatch14', WHERE WHAT IT READS IS OF BULK AT MOST 1048576: true; the input reads as it did. -/
def fnExactMatch14UptoRow : OpenClaim := { program := "ytigbdfhlpnabdaa", sum := "2b6657f7fe4016050e169fa6856337ce3ef3e9e6b8ecf7af3728ad84789c7db7", func := "loop.example/g00052/laws.FnExactMatch14", spec := "fnExactMatch14", apart := false, narrowed := true }
def FnExactMatch14UptoSaid : Prop := fnExactMatch14UptoRow.holds Try.pinned (OpenSpec.upto fnExactMatch14Spec)

/-- 'laws.FnExactGain15', WHERE WHAT IT READS IS OF BULK AT MOST 1048576: true; the input reads as it did. -/
def fnExactGain15UptoRow : OpenClaim := { program := "ytigbdfhlpnabdaa", sum := "2b6657f7fe4016050e169fa6856337ce3ef3e9e6b8ecf7af3728ad84789c7db7", func := "loop.example/g00052/laws.FnExactGain15", spec := "fnExactGain15", apart := false, narrowed := true }
def FnExactGain15UptoSaid : Prop := fnExactGain15UptoRow.holds Try.pinned (OpenSpec.upto fnExactGain15Spec)

/-- 'laws.FnExactBurst', WHERE WHAT IT READS IS OF BULK AT MOST 1048576: true; the input reads as it did. -/
def fnExactBurstUptoRow : OpenClaim := { program := "ytigbdfhlpnabdaa", sum := "2b6657f7fe4016050e169fa6856337ce3ef3e9e6b8ecf7af3728ad84789c7db7", func := "loop.example/g00052/laws.FnExactBurst", spec := "fnExactBurst", apart := false, narrowed := true }
def FnExactBurstUptoSaid : Prop := fnExactBurstUptoRow.holds Try.pinned (OpenSpec.upto fnExactBurstSpec)

/-- 'laws.FnExactBits15', WHERE WHAT IT READS IS OF BULK AT MOST 1048576: true; the input reads as it did. -/
def fnExactBits15UptoRow : OpenClaim := { program := "ytigbdfhlpnabdaa", sum := "2b6657f7fe4016050e169fa6856337ce3ef3e9e6b8ecf7af3728ad84789c7db7", func := "loop.example/g00052/laws.FnExactBits15", spec := "fnExactBits15", inPlace := ["math.Float64bits", "math.Float64frombits"], unfollowed := true, recurses := true, apart := false, narrowed := true }
def FnExactBits15UptoSaid : Prop := fnExactBits15UptoRow.holds Try.pinned (OpenSpec.upto fnExactBits15Spec)

end Rows
end Go.Proofs.Ytigbdfhlpnabdaa
