/-
  DERIVED. GIVEN WITH THE SEED: THE CARDS: each row of YtkmdhlaionpdbaaGreatDoorRows.lean that lists a variable, with what it lists TIED to the program's text (the seventh form; the later family's looks); each row that meets fmt, with fmt's text TOLD by the authors' own Lean function (tested against real Go, not proved from fmt's source: count such statements apart). THE CARD IS WHAT COUNTS. Prove the row's statement (the work); the ties are given (YtkmdhlaionpdbaaGreatDoorTie.lean); close each card by the builder's one call (the guide's Derived/Test/ToyasCard.lean, 'card_holds'). Laid BY PROGRAM, IN A SANDBOX (cutbox-door.mjs). By AI agents, Wed Nov 11 2026. No macro, syntax, notation, axiom, sorry.
-/
import Derived.Test.YtkmdhlaionpdbaaGreatDoorRows
import GoSem.ClaimSeven
namespace Go.Proofs.YtkmdhlaionpdbaaGreatDoor
namespace Rows

/-- THE TIED CARD OF 'laws.FnExactWorldOk'. -/
def fnExactWorldOkCard : Claim7 := { stood := { row := fnExactWorldOkRow, standIns := [], harness := (true, "736fa407375af2cca82d5d3a04bc9bebda282ee6eb521c0105aab476ff0d14e2"), looks := true }, kinds := [], alts := [], laidByText := true, laidKinds := [.data, .data, .data, .sentinel, .sentinel], laidTests := true, laidLooks := .later }
def FnExactWorldOkCardSaid : Prop := Claim7.holds Tryz.pinned (.plain (OpenSpec.ofChange fnExactWorldOkSpec)) fnExactWorldOkCard

/-- THE TIED CARD OF 'laws.FnExactCurrent'. -/
def fnExactCurrentCard : Claim7 := { stood := { row := fnExactCurrentRow, standIns := [], harness := (true, "736fa407375af2cca82d5d3a04bc9bebda282ee6eb521c0105aab476ff0d14e2"), looks := true }, kinds := [], alts := [], laidByText := true, laidKinds := [.data, .data, .data, .sentinel, .sentinel], laidTests := true, laidLooks := .later }
def FnExactCurrentCardSaid : Prop := Claim7.holds Tryz.pinned (.plain (OpenSpec.ofChange fnExactCurrentSpec)) fnExactCurrentCard

/-- THE TIED CARD OF 'laws.FnExactWaste'. -/
def fnExactWasteCard : Claim7 := { stood := { row := fnExactWasteRow, standIns := [], harness := (true, "736fa407375af2cca82d5d3a04bc9bebda282ee6eb521c0105aab476ff0d14e2"), looks := true }, kinds := [], alts := [], laidByText := true, laidKinds := [.data, .data, .data, .sentinel, .sentinel], laidTests := true, laidLooks := .later }
def FnExactWasteCardSaid : Prop := Claim7.holds Tryz.pinned (.plain (OpenSpec.ofChange fnExactWasteSpec)) fnExactWasteCard

/-- THE TIED CARD OF 'laws.FnExactExports'. -/
def fnExactExportsCard : Claim7 := { stood := { row := fnExactExportsRow, standIns := [], harness := (true, "736fa407375af2cca82d5d3a04bc9bebda282ee6eb521c0105aab476ff0d14e2"), looks := true }, kinds := [], alts := [], laidByText := true, laidKinds := [.data, .data, .data, .sentinel, .sentinel], laidTests := true, laidLooks := .later }
def FnExactExportsCardSaid : Prop := Claim7.holds Tryz.pinned (.plain (OpenSpec.ofChange fnExactExportsSpec)) fnExactExportsCard

/-- THE SECOND FORM's CARD OF 'laws.FnExactWorldOk'. -/
def fnExactWorldOkUptoCard : Claim7 := { stood := { row := fnExactWorldOkUptoRow, standIns := [], harness := (true, "736fa407375af2cca82d5d3a04bc9bebda282ee6eb521c0105aab476ff0d14e2"), looks := true }, kinds := [], alts := [], laidByText := true, laidKinds := [.data, .data, .data, .sentinel, .sentinel], laidTests := true, laidLooks := .later }
def FnExactWorldOkUptoCardSaid : Prop := Claim7.holds Tryz.pinned (.plain (OpenSpec.upto fnExactWorldOkSpec)) fnExactWorldOkUptoCard

/-- THE SECOND FORM's CARD OF 'laws.FnExactCurrent'. -/
def fnExactCurrentUptoCard : Claim7 := { stood := { row := fnExactCurrentUptoRow, standIns := [], harness := (true, "736fa407375af2cca82d5d3a04bc9bebda282ee6eb521c0105aab476ff0d14e2"), looks := true }, kinds := [], alts := [], laidByText := true, laidKinds := [.data, .data, .data, .sentinel, .sentinel], laidTests := true, laidLooks := .later }
def FnExactCurrentUptoCardSaid : Prop := Claim7.holds Tryz.pinned (.plain (OpenSpec.upto fnExactCurrentSpec)) fnExactCurrentUptoCard

/-- THE SECOND FORM's CARD OF 'laws.FnExactWaste'. -/
def fnExactWasteUptoCard : Claim7 := { stood := { row := fnExactWasteUptoRow, standIns := [], harness := (true, "736fa407375af2cca82d5d3a04bc9bebda282ee6eb521c0105aab476ff0d14e2"), looks := true }, kinds := [], alts := [], laidByText := true, laidKinds := [.data, .data, .data, .sentinel, .sentinel], laidTests := true, laidLooks := .later }
def FnExactWasteUptoCardSaid : Prop := Claim7.holds Tryz.pinned (.plain (OpenSpec.upto fnExactWasteSpec)) fnExactWasteUptoCard

/-- THE SECOND FORM's CARD OF 'laws.FnExactExports'. -/
def fnExactExportsUptoCard : Claim7 := { stood := { row := fnExactExportsUptoRow, standIns := [], harness := (true, "736fa407375af2cca82d5d3a04bc9bebda282ee6eb521c0105aab476ff0d14e2"), looks := true }, kinds := [], alts := [], laidByText := true, laidKinds := [.data, .data, .data, .sentinel, .sentinel], laidTests := true, laidLooks := .later }
def FnExactExportsUptoCardSaid : Prop := Claim7.holds Tryz.pinned (.plain (OpenSpec.upto fnExactExportsSpec)) fnExactExportsUptoCard
end Rows
end Go.Proofs.YtkmdhlaionpdbaaGreatDoor
