/-
  DERIVED. GIVEN WITH THE SEED: THE CARDS: each row of YtalckpkiplhbcaaGreatDoorRows.lean that lists a variable, with what it lists TIED to the program's text (the seventh form; the later family's looks); each row that meets fmt, with fmt's text TOLD by the authors' own Lean function (tested against real Go, not proved from fmt's source: count such statements apart). THE CARD IS WHAT COUNTS. Prove the row's statement (the work); the ties are given (YtalckpkiplhbcaaGreatDoorTie.lean); close each card by the builder's one call (the guide's Derived/Test/ToyasCard.lean, 'card_holds'). Laid BY PROGRAM, IN A SANDBOX (cutbox-door.mjs). By AI agents, Wed Nov 11 2026. No macro, syntax, notation, axiom, sorry.
-/
import Derived.Test.YtalckpkiplhbcaaGreatDoorRows
import GoSem.ClaimSeven
namespace Go.Proofs.YtalckpkiplhbcaaGreatDoor
namespace Rows

/-- THE TIED CARD OF 'sortilegelaw09.CoreRights'. -/
def coreRightsCard : Claim7 := { stood := { row := coreRightsRow, standIns := [], harness := (true, "3ee02a16661b92b04f8be1219d930dfaa6231c6997ff030047cd139c893957a2"), looks := true }, kinds := [], alts := [], laidByText := true, laidKinds := [.widerDeep], laidTests := true, laidLooks := .later }
def CoreRightsCardSaid : Prop := Claim7.holds Tryz.pinned (.plain (OpenSpec.ofChange coreRightsSpec)) coreRightsCard

/-- THE TIED CARD OF 'sortilegelaw09.CoreSames'. -/
def coreSamesCard : Claim7 := { stood := { row := coreSamesRow, standIns := [], harness := (true, "3ee02a16661b92b04f8be1219d930dfaa6231c6997ff030047cd139c893957a2"), looks := true }, kinds := [], alts := [], laidByText := true, laidKinds := [.widerDeep], laidTests := true, laidLooks := .later }
def CoreSamesCardSaid : Prop := Claim7.holds Tryz.pinned (.plain (OpenSpec.ofChange coreSamesSpec)) coreSamesCard

/-- THE TIED CARD OF 'sortilegelaw09.CoreParts'. -/
def corePartsCard : Claim7 := { stood := { row := corePartsRow, standIns := [], harness := (true, "3ee02a16661b92b04f8be1219d930dfaa6231c6997ff030047cd139c893957a2"), looks := true }, kinds := [], alts := [], laidByText := true, laidKinds := [.widerDeep], laidTests := true, laidLooks := .later }
def CorePartsCardSaid : Prop := Claim7.holds Tryz.pinned (.plain (OpenSpec.ofChange corePartsSpec)) corePartsCard

/-- THE SECOND FORM's CARD OF 'sortilegelaw09.CoreRights'. -/
def coreRightsUptoCard : Claim7 := { stood := { row := coreRightsUptoRow, standIns := [], harness := (true, "3ee02a16661b92b04f8be1219d930dfaa6231c6997ff030047cd139c893957a2"), looks := true }, kinds := [], alts := [], laidByText := true, laidKinds := [.widerDeep], laidTests := true, laidLooks := .later }
def CoreRightsUptoCardSaid : Prop := Claim7.holds Tryz.pinned (.plain (OpenSpec.upto coreRightsSpec)) coreRightsUptoCard

/-- THE SECOND FORM's CARD OF 'sortilegelaw09.CoreSames'. -/
def coreSamesUptoCard : Claim7 := { stood := { row := coreSamesUptoRow, standIns := [], harness := (true, "3ee02a16661b92b04f8be1219d930dfaa6231c6997ff030047cd139c893957a2"), looks := true }, kinds := [], alts := [], laidByText := true, laidKinds := [.widerDeep], laidTests := true, laidLooks := .later }
def CoreSamesUptoCardSaid : Prop := Claim7.holds Tryz.pinned (.plain (OpenSpec.upto coreSamesSpec)) coreSamesUptoCard

/-- THE SECOND FORM's CARD OF 'sortilegelaw09.CoreParts'. -/
def corePartsUptoCard : Claim7 := { stood := { row := corePartsUptoRow, standIns := [], harness := (true, "3ee02a16661b92b04f8be1219d930dfaa6231c6997ff030047cd139c893957a2"), looks := true }, kinds := [], alts := [], laidByText := true, laidKinds := [.widerDeep], laidTests := true, laidLooks := .later }
def CorePartsUptoCardSaid : Prop := Claim7.holds Tryz.pinned (.plain (OpenSpec.upto corePartsSpec)) corePartsUptoCard
end Rows
end Go.Proofs.YtalckpkiplhbcaaGreatDoor
