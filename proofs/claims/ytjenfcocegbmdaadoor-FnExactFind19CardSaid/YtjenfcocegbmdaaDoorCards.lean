/-
  DERIVED. GIVEN WITH THE SEED: THE CARDS: each row of YtjenfcocegbmdaaDoorRows.lean that lists a variable, with what it lists TIED to the program's text (the seventh form; the later family's looks); each row that meets fmt, with fmt's text TOLD by the authors' own Lean function (tested against real Go, not proved from fmt's source: count such statements apart). THE CARD IS WHAT COUNTS. Prove the row's statement (the work); the ties are given (YtjenfcocegbmdaaDoorTie.lean); close each card by the builder's one call (the guide's Derived/Test/ToyasCard.lean, 'card_holds'). Laid BY PROGRAM, IN A SANDBOX (cutbox-door.mjs). By AI agents, Wed Nov 11 2026. No macro, syntax, notation, axiom, sorry.
-/
import Derived.Test.YtjenfcocegbmdaaDoorRows
import GoSem.ClaimSeven
namespace Go.Proofs.YtjenfcocegbmdaaDoor
namespace Rows

/-- THE TIED CARD OF 'laws.FnExactWordOk'. -/
def fnExactWordOkCard : Claim7 := { stood := { row := fnExactWordOkRow, standIns := [], harness := (true, "0cd5c28527e6efe654087dbd9e09e1bd3d8aa80437e13ce3a0b1b05f4ee3d38e"), looks := false }, kinds := [], alts := [], laidByText := true, laidKinds := [.data, .pinned], laidTests := true, laidLooks := .later }
def FnExactWordOkCardSaid : Prop := Claim7.holds Tryd.pinned (.plain (OpenSpec.ofChange fnExactWordOkSpec)) fnExactWordOkCard

/-- THE TIED CARD OF 'laws.FnExactSettingsOk'. -/
def fnExactSettingsOkCard : Claim7 := { stood := { row := fnExactSettingsOkRow, standIns := [], harness := (true, "0cd5c28527e6efe654087dbd9e09e1bd3d8aa80437e13ce3a0b1b05f4ee3d38e"), looks := false }, kinds := [], alts := [], laidByText := true, laidKinds := [.data, .pinned], laidTests := true, laidLooks := .later }
def FnExactSettingsOkCardSaid : Prop := Claim7.holds Tryd.pinned (.plain (OpenSpec.ofChange fnExactSettingsOkSpec)) fnExactSettingsOkCard

/-- THE TIED CARD OF 'laws.FnExactUpper'. -/
def fnExactUpperCard : Claim7 := { stood := { row := fnExactUpperRow, standIns := [], harness := (true, "0cd5c28527e6efe654087dbd9e09e1bd3d8aa80437e13ce3a0b1b05f4ee3d38e"), looks := false }, kinds := [], alts := [], laidByText := true, laidKinds := [.data, .pinned], laidTests := true, laidLooks := .later }
def FnExactUpperCardSaid : Prop := Claim7.holds Tryd.pinned (.plain (OpenSpec.ofChange fnExactUpperSpec)) fnExactUpperCard

/-- THE TIED CARD OF 'laws.FnUpper'. -/
def fnUpperCard : Claim7 := { stood := { row := fnUpperRow, standIns := [], harness := (true, "0cd5c28527e6efe654087dbd9e09e1bd3d8aa80437e13ce3a0b1b05f4ee3d38e"), looks := false }, kinds := [], alts := [], laidByText := true, laidKinds := [.data, .pinned], laidTests := true, laidLooks := .later }
def FnUpperCardSaid : Prop := Claim7.holds Tryd.pinned (.plain (OpenSpec.ofChange fnUpperSpec)) fnUpperCard

/-- THE TIED CARD OF 'laws.FnExactFind19'. -/
def fnExactFind19Card : Claim7 := { stood := { row := fnExactFind19Row, standIns := [], harness := (true, "0cd5c28527e6efe654087dbd9e09e1bd3d8aa80437e13ce3a0b1b05f4ee3d38e"), looks := false }, kinds := [], alts := [], laidByText := true, laidKinds := [.data, .pinned], laidTests := true, laidLooks := .later }
def FnExactFind19CardSaid : Prop := Claim7.holds Tryd.pinned (.plain (OpenSpec.ofChange fnExactFind19Spec)) fnExactFind19Card

/-- THE SECOND FORM's CARD OF 'laws.FnExactWordOk'. -/
def fnExactWordOkUptoCard : Claim7 := { stood := { row := fnExactWordOkUptoRow, standIns := [], harness := (true, "0cd5c28527e6efe654087dbd9e09e1bd3d8aa80437e13ce3a0b1b05f4ee3d38e"), looks := false }, kinds := [], alts := [], laidByText := true, laidKinds := [.data, .pinned], laidTests := true, laidLooks := .later }
def FnExactWordOkUptoCardSaid : Prop := Claim7.holds Tryd.pinned (.plain (OpenSpec.upto fnExactWordOkSpec)) fnExactWordOkUptoCard

/-- THE SECOND FORM's CARD OF 'laws.FnExactSettingsOk'. -/
def fnExactSettingsOkUptoCard : Claim7 := { stood := { row := fnExactSettingsOkUptoRow, standIns := [], harness := (true, "0cd5c28527e6efe654087dbd9e09e1bd3d8aa80437e13ce3a0b1b05f4ee3d38e"), looks := false }, kinds := [], alts := [], laidByText := true, laidKinds := [.data, .pinned], laidTests := true, laidLooks := .later }
def FnExactSettingsOkUptoCardSaid : Prop := Claim7.holds Tryd.pinned (.plain (OpenSpec.upto fnExactSettingsOkSpec)) fnExactSettingsOkUptoCard

/-- THE SECOND FORM's CARD OF 'laws.FnExactUpper'. -/
def fnExactUpperUptoCard : Claim7 := { stood := { row := fnExactUpperUptoRow, standIns := [], harness := (true, "0cd5c28527e6efe654087dbd9e09e1bd3d8aa80437e13ce3a0b1b05f4ee3d38e"), looks := false }, kinds := [], alts := [], laidByText := true, laidKinds := [.data, .pinned], laidTests := true, laidLooks := .later }
def FnExactUpperUptoCardSaid : Prop := Claim7.holds Tryd.pinned (.plain (OpenSpec.upto fnExactUpperSpec)) fnExactUpperUptoCard

/-- THE SECOND FORM's CARD OF 'laws.FnUpper'. -/
def fnUpperUptoCard : Claim7 := { stood := { row := fnUpperUptoRow, standIns := [], harness := (true, "0cd5c28527e6efe654087dbd9e09e1bd3d8aa80437e13ce3a0b1b05f4ee3d38e"), looks := false }, kinds := [], alts := [], laidByText := true, laidKinds := [.data, .pinned], laidTests := true, laidLooks := .later }
def FnUpperUptoCardSaid : Prop := Claim7.holds Tryd.pinned (.plain (OpenSpec.upto fnUpperSpec)) fnUpperUptoCard

/-- THE SECOND FORM's CARD OF 'laws.FnExactFind19'. -/
def fnExactFind19UptoCard : Claim7 := { stood := { row := fnExactFind19UptoRow, standIns := [], harness := (true, "0cd5c28527e6efe654087dbd9e09e1bd3d8aa80437e13ce3a0b1b05f4ee3d38e"), looks := false }, kinds := [], alts := [], laidByText := true, laidKinds := [.data, .pinned], laidTests := true, laidLooks := .later }
def FnExactFind19UptoCardSaid : Prop := Claim7.holds Tryd.pinned (.plain (OpenSpec.upto fnExactFind19Spec)) fnExactFind19UptoCard
end Rows
end Go.Proofs.YtjenfcocegbmdaaDoor
