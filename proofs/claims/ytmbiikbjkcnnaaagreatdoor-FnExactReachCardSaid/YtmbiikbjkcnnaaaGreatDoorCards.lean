/-
  DERIVED. GIVEN WITH THE SEED: THE CARDS: each row of YtmbiikbjkcnnaaaGreatDoorRows.lean that lists a variable, with what it lists TIED to the program's text (the seventh form; the later family's looks); each row that meets fmt, with fmt's text TOLD by the authors' own Lean function (tested against real Go, not proved from fmt's source: count such statements apart). THE CARD IS WHAT COUNTS. Prove the row's statement (the work); the ties are given (YtmbiikbjkcnnaaaGreatDoorTie.lean); close each card by the builder's one call (the guide's Derived/Test/ToyasCard.lean, 'card_holds'). Laid BY PROGRAM, IN A SANDBOX (cutbox-door.mjs). By AI agents, Wed Nov 11 2026. No macro, syntax, notation, axiom, sorry.
-/
import Derived.Test.YtmbiikbjkcnnaaaGreatDoorRows
import GoSem.ClaimSeven
namespace Go.Proofs.YtmbiikbjkcnnaaaGreatDoor
namespace Rows

/-- THE TIED CARD OF 'laws.FnExactWaste'. -/
def fnExactWasteCard : Claim7 := { stood := { row := fnExactWasteRow, standIns := [], harness := (true, "e5990092e9ad3baa3e8c1e2bf7031c98f5a212b0ea8f367021af7f37557bafba"), looks := true }, kinds := [], alts := [], laidByText := true, laidKinds := [.data, .data, .data, .sentinel, .sentinel], laidTests := true, laidLooks := .later }
def FnExactWasteCardSaid : Prop := Claim7.holds Tryz.pinned (.plain (OpenSpec.ofChange fnExactWasteSpec)) fnExactWasteCard

/-- THE TIED CARD OF 'laws.FnExactPortrait'. -/
def fnExactPortraitCard : Claim7 := { stood := { row := fnExactPortraitRow, standIns := [], harness := (true, "e5990092e9ad3baa3e8c1e2bf7031c98f5a212b0ea8f367021af7f37557bafba"), looks := true }, kinds := [], alts := [], laidByText := true, laidKinds := [.data, .data, .data, .sentinel, .sentinel], laidTests := true, laidLooks := .later }
def FnExactPortraitCardSaid : Prop := Claim7.holds Tryz.pinned (.plain (OpenSpec.ofChange fnExactPortraitSpec)) fnExactPortraitCard

/-- THE TIED CARD OF 'laws.FnExactReach'. -/
def fnExactReachCard : Claim7 := { stood := { row := fnExactReachRow, standIns := [], harness := (true, "e5990092e9ad3baa3e8c1e2bf7031c98f5a212b0ea8f367021af7f37557bafba"), looks := true }, kinds := [], alts := [], laidByText := true, laidKinds := [.data, .data, .data, .sentinel, .sentinel], laidTests := true, laidLooks := .later }
def FnExactReachCardSaid : Prop := Claim7.holds Tryz.pinned (.plain (OpenSpec.ofChange fnExactReachSpec)) fnExactReachCard

/-- THE TIED CARD OF 'laws.FnExactAlive'. -/
def fnExactAliveCard : Claim7 := { stood := { row := fnExactAliveRow, standIns := [], harness := (true, "e5990092e9ad3baa3e8c1e2bf7031c98f5a212b0ea8f367021af7f37557bafba"), looks := true }, kinds := [], alts := [], laidByText := true, laidKinds := [.data, .data, .data, .sentinel, .sentinel], laidTests := true, laidLooks := .later }
def FnExactAliveCardSaid : Prop := Claim7.holds Tryz.pinned (.plain (OpenSpec.ofChange fnExactAliveSpec)) fnExactAliveCard

/-- THE SECOND FORM's CARD OF 'laws.FnExactWaste'. -/
def fnExactWasteUptoCard : Claim7 := { stood := { row := fnExactWasteUptoRow, standIns := [], harness := (true, "e5990092e9ad3baa3e8c1e2bf7031c98f5a212b0ea8f367021af7f37557bafba"), looks := true }, kinds := [], alts := [], laidByText := true, laidKinds := [.data, .data, .data, .sentinel, .sentinel], laidTests := true, laidLooks := .later }
def FnExactWasteUptoCardSaid : Prop := Claim7.holds Tryz.pinned (.plain (OpenSpec.upto fnExactWasteSpec)) fnExactWasteUptoCard

/-- THE SECOND FORM's CARD OF 'laws.FnExactPortrait'. -/
def fnExactPortraitUptoCard : Claim7 := { stood := { row := fnExactPortraitUptoRow, standIns := [], harness := (true, "e5990092e9ad3baa3e8c1e2bf7031c98f5a212b0ea8f367021af7f37557bafba"), looks := true }, kinds := [], alts := [], laidByText := true, laidKinds := [.data, .data, .data, .sentinel, .sentinel], laidTests := true, laidLooks := .later }
def FnExactPortraitUptoCardSaid : Prop := Claim7.holds Tryz.pinned (.plain (OpenSpec.upto fnExactPortraitSpec)) fnExactPortraitUptoCard

/-- THE SECOND FORM's CARD OF 'laws.FnExactReach'. -/
def fnExactReachUptoCard : Claim7 := { stood := { row := fnExactReachUptoRow, standIns := [], harness := (true, "e5990092e9ad3baa3e8c1e2bf7031c98f5a212b0ea8f367021af7f37557bafba"), looks := true }, kinds := [], alts := [], laidByText := true, laidKinds := [.data, .data, .data, .sentinel, .sentinel], laidTests := true, laidLooks := .later }
def FnExactReachUptoCardSaid : Prop := Claim7.holds Tryz.pinned (.plain (OpenSpec.upto fnExactReachSpec)) fnExactReachUptoCard

/-- THE SECOND FORM's CARD OF 'laws.FnExactAlive'. -/
def fnExactAliveUptoCard : Claim7 := { stood := { row := fnExactAliveUptoRow, standIns := [], harness := (true, "e5990092e9ad3baa3e8c1e2bf7031c98f5a212b0ea8f367021af7f37557bafba"), looks := true }, kinds := [], alts := [], laidByText := true, laidKinds := [.data, .data, .data, .sentinel, .sentinel], laidTests := true, laidLooks := .later }
def FnExactAliveUptoCardSaid : Prop := Claim7.holds Tryz.pinned (.plain (OpenSpec.upto fnExactAliveSpec)) fnExactAliveUptoCard
end Rows
end Go.Proofs.YtmbiikbjkcnnaaaGreatDoor
