/-
  DERIVED. GIVEN WITH THE SEED: THE CARDS: each row of YtfepbnolgceadaaDoorRows.lean that lists a variable, with what it lists TIED to the program's text (the seventh form; the later family's looks); each row that meets fmt, with fmt's text TOLD by the authors' own Lean function (tested against real Go, not proved from fmt's source: count such statements apart). THE CARD IS WHAT COUNTS. Prove the row's statement (the work); the ties are given (YtfepbnolgceadaaDoorTie.lean); close each card by the builder's one call (the guide's Derived/Test/ToyasCard.lean, 'card_holds'). Laid BY PROGRAM, IN A SANDBOX (cutbox-door.mjs). By AI agents, Wed Nov 11 2026. No macro, syntax, notation, axiom, sorry.
-/
import Derived.Test.YtfepbnolgceadaaDoorRows
import GoSem.ClaimSeven
namespace Go.Proofs.YtfepbnolgceadaaDoor
namespace Rows

/-- THE TIED CARD OF 'laws.FnExactDiff19'. -/
def fnExactDiff19Card : Claim7 := { stood := { row := fnExactDiff19Row, standIns := [], harness := (true, "205fd830e621418cf2852b9ddbeef5f952f48beae50dacaf84b6ecd43533c262"), looks := true }, kinds := [], alts := [], laidByText := true, laidKinds := [.data, .pinned], laidTests := true, laidLooks := .later }
def FnExactDiff19CardSaid : Prop := Claim7.holds Tryd.pinned (.plain (OpenSpec.ofChange fnExactDiff19Spec)) fnExactDiff19Card

/-- THE TIED CARD OF 'laws.FnDiffed'. -/
def fnDiffedCard : Claim7 := { stood := { row := fnDiffedRow, standIns := [], harness := (true, "205fd830e621418cf2852b9ddbeef5f952f48beae50dacaf84b6ecd43533c262"), looks := true }, kinds := [], alts := [], laidByText := true, laidKinds := [.data, .pinned], laidTests := true, laidLooks := .later }
def FnDiffedCardSaid : Prop := Claim7.holds Tryd.pinned (.plain (OpenSpec.ofChange fnDiffedSpec)) fnDiffedCard

/-- THE TIED CARD OF 'laws.FnExactConfigure'. -/
def fnExactConfigureCard : Claim7 := { stood := { row := fnExactConfigureRow, standIns := [], harness := (true, "205fd830e621418cf2852b9ddbeef5f952f48beae50dacaf84b6ecd43533c262"), looks := true }, kinds := [], alts := [], laidByText := true, laidKinds := [.data, .pinned], laidTests := true, laidLooks := .later }
def FnExactConfigureCardSaid : Prop := Claim7.holds Tryd.pinned (.plain (OpenSpec.ofChange fnExactConfigureSpec)) fnExactConfigureCard

/-- THE SECOND FORM's CARD OF 'laws.FnExactDiff19'. -/
def fnExactDiff19UptoCard : Claim7 := { stood := { row := fnExactDiff19UptoRow, standIns := [], harness := (true, "205fd830e621418cf2852b9ddbeef5f952f48beae50dacaf84b6ecd43533c262"), looks := true }, kinds := [], alts := [], laidByText := true, laidKinds := [.data, .pinned], laidTests := true, laidLooks := .later }
def FnExactDiff19UptoCardSaid : Prop := Claim7.holds Tryd.pinned (.plain (OpenSpec.upto fnExactDiff19Spec)) fnExactDiff19UptoCard

/-- THE SECOND FORM's CARD OF 'laws.FnDiffed'. -/
def fnDiffedUptoCard : Claim7 := { stood := { row := fnDiffedUptoRow, standIns := [], harness := (true, "205fd830e621418cf2852b9ddbeef5f952f48beae50dacaf84b6ecd43533c262"), looks := true }, kinds := [], alts := [], laidByText := true, laidKinds := [.data, .pinned], laidTests := true, laidLooks := .later }
def FnDiffedUptoCardSaid : Prop := Claim7.holds Tryd.pinned (.plain (OpenSpec.upto fnDiffedSpec)) fnDiffedUptoCard

/-- THE SECOND FORM's CARD OF 'laws.FnExactConfigure'. -/
def fnExactConfigureUptoCard : Claim7 := { stood := { row := fnExactConfigureUptoRow, standIns := [], harness := (true, "205fd830e621418cf2852b9ddbeef5f952f48beae50dacaf84b6ecd43533c262"), looks := true }, kinds := [], alts := [], laidByText := true, laidKinds := [.data, .pinned], laidTests := true, laidLooks := .later }
def FnExactConfigureUptoCardSaid : Prop := Claim7.holds Tryd.pinned (.plain (OpenSpec.upto fnExactConfigureSpec)) fnExactConfigureUptoCard
end Rows
end Go.Proofs.YtfepbnolgceadaaDoor
