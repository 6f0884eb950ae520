/-
  DERIVED. GIVEN WITH THE SEED: THE CARDS: each row of YtfanjfmgacfpjaaGreatDoorRows.lean that lists a variable, with what it lists TIED to the program's text (the seventh form; the later family's looks); each row that meets fmt, with fmt's text TOLD by the authors' own Lean function (tested against real Go, not proved from fmt's source: count such statements apart). THE CARD IS WHAT COUNTS. Prove the row's statement (the work); the ties are given (YtfanjfmgacfpjaaGreatDoorTie.lean); close each card by the builder's one call (the guide's Derived/Test/ToyasCard.lean, 'card_holds'). Laid BY PROGRAM, IN A SANDBOX (cutbox-door.mjs). By AI agents, Wed Nov 11 2026. No macro, syntax, notation, axiom, sorry.
-/
import Derived.Test.YtfanjfmgacfpjaaGreatDoorRows
import GoSem.ClaimSeven
namespace Go.Proofs.YtfanjfmgacfpjaaGreatDoor
namespace Rows

/-- THE TIED CARD OF 'laws.FnPrim'. -/
def fnPrimCard : Claim7 := { stood := { row := fnPrimRow, standIns := [], harness := (true, "37d79035fef6682ba73066924beff7434d65caa436428a5cd7a28de684e53a6d"), looks := true }, kinds := [], alts := [], laidByText := true, laidKinds := [.data, .data, .data, .sentinel, .sentinel], laidTests := true, laidLooks := .later }
def FnPrimCardSaid : Prop := Claim7.holds Tryz.pinned (.plain (OpenSpec.ofChange fnPrimSpec)) fnPrimCard

/-- THE TIED CARD OF 'laws.FnExactPrim'. -/
def fnExactPrimCard : Claim7 := { stood := { row := fnExactPrimRow, standIns := [], harness := (true, "37d79035fef6682ba73066924beff7434d65caa436428a5cd7a28de684e53a6d"), looks := true }, kinds := [], alts := [], laidByText := true, laidKinds := [.data, .data, .data, .sentinel, .sentinel], laidTests := true, laidLooks := .later }
def FnExactPrimCardSaid : Prop := Claim7.holds Tryz.pinned (.plain (OpenSpec.ofChange fnExactPrimSpec)) fnExactPrimCard

/-- THE TIED CARD OF 'laws.FnExactConstant'. -/
def fnExactConstantCard : Claim7 := { stood := { row := fnExactConstantRow, standIns := [], harness := (true, "37d79035fef6682ba73066924beff7434d65caa436428a5cd7a28de684e53a6d"), looks := true }, kinds := [], alts := [], laidByText := true, laidKinds := [.data, .data, .data, .sentinel, .sentinel], laidTests := true, laidLooks := .later }
def FnExactConstantCardSaid : Prop := Claim7.holds Tryz.pinned (.plain (OpenSpec.ofChange fnExactConstantSpec)) fnExactConstantCard

/-- THE TIED CARD OF 'laws.FnExactFold'. -/
def fnExactFoldCard : Claim7 := { stood := { row := fnExactFoldRow, standIns := [], harness := (true, "37d79035fef6682ba73066924beff7434d65caa436428a5cd7a28de684e53a6d"), looks := true }, kinds := [], alts := [], laidByText := true, laidKinds := [.data, .data, .data, .sentinel, .sentinel], laidTests := true, laidLooks := .later }
def FnExactFoldCardSaid : Prop := Claim7.holds Tryz.pinned (.plain (OpenSpec.ofChange fnExactFoldSpec)) fnExactFoldCard

/-- THE SECOND FORM's CARD OF 'laws.FnPrim'. -/
def fnPrimUptoCard : Claim7 := { stood := { row := fnPrimUptoRow, standIns := [], harness := (true, "37d79035fef6682ba73066924beff7434d65caa436428a5cd7a28de684e53a6d"), looks := true }, kinds := [], alts := [], laidByText := true, laidKinds := [.data, .data, .data, .sentinel, .sentinel], laidTests := true, laidLooks := .later }
def FnPrimUptoCardSaid : Prop := Claim7.holds Tryz.pinned (.plain (OpenSpec.upto fnPrimSpec)) fnPrimUptoCard

/-- THE SECOND FORM's CARD OF 'laws.FnExactPrim'. -/
def fnExactPrimUptoCard : Claim7 := { stood := { row := fnExactPrimUptoRow, standIns := [], harness := (true, "37d79035fef6682ba73066924beff7434d65caa436428a5cd7a28de684e53a6d"), looks := true }, kinds := [], alts := [], laidByText := true, laidKinds := [.data, .data, .data, .sentinel, .sentinel], laidTests := true, laidLooks := .later }
def FnExactPrimUptoCardSaid : Prop := Claim7.holds Tryz.pinned (.plain (OpenSpec.upto fnExactPrimSpec)) fnExactPrimUptoCard

/-- THE SECOND FORM's CARD OF 'laws.FnExactConstant'. -/
def fnExactConstantUptoCard : Claim7 := { stood := { row := fnExactConstantUptoRow, standIns := [], harness := (true, "37d79035fef6682ba73066924beff7434d65caa436428a5cd7a28de684e53a6d"), looks := true }, kinds := [], alts := [], laidByText := true, laidKinds := [.data, .data, .data, .sentinel, .sentinel], laidTests := true, laidLooks := .later }
def FnExactConstantUptoCardSaid : Prop := Claim7.holds Tryz.pinned (.plain (OpenSpec.upto fnExactConstantSpec)) fnExactConstantUptoCard

/-- THE SECOND FORM's CARD OF 'laws.FnExactFold'. -/
def fnExactFoldUptoCard : Claim7 := { stood := { row := fnExactFoldUptoRow, standIns := [], harness := (true, "37d79035fef6682ba73066924beff7434d65caa436428a5cd7a28de684e53a6d"), looks := true }, kinds := [], alts := [], laidByText := true, laidKinds := [.data, .data, .data, .sentinel, .sentinel], laidTests := true, laidLooks := .later }
def FnExactFoldUptoCardSaid : Prop := Claim7.holds Tryz.pinned (.plain (OpenSpec.upto fnExactFoldSpec)) fnExactFoldUptoCard
end Rows
end Go.Proofs.YtfanjfmgacfpjaaGreatDoor
