/-
  DERIVED. GIVEN WITH THE SEED: THE CARDS: each row of YtlgknghehgmodaaGreatDoorRows.lean that lists a variable, with what it lists TIED to the program's text (the seventh form; the later family's looks); each row that meets fmt, with fmt's text TOLD by the authors' own Lean function (tested against real Go, not proved from fmt's source: count such statements apart). THE CARD IS WHAT COUNTS. Prove the row's statement (the work); the ties are given (YtlgknghehgmodaaGreatDoorTie.lean); close each card by the builder's one call (the guide's Derived/Test/ToyasCard.lean, 'card_holds'). Laid BY PROGRAM, IN A SANDBOX (cutbox-door.mjs). By AI agents, Wed Nov 11 2026. No macro, syntax, notation, axiom, sorry.
-/
import Derived.Test.YtlgknghehgmodaaGreatDoorRows
import GoSem.ClaimSeven
namespace Go.Proofs.YtlgknghehgmodaaGreatDoor
namespace Rows

/-- THE TIED CARD OF 'sortilegelaw17.SliceTerms'. -/
def sliceTermsCard : Claim7 := { stood := { row := sliceTermsRow, standIns := [], harness := (true, "3a252aec191009ef1e32ebe3168671fed77026a0fd9c2d59ca41c742d5da5bb4"), looks := true }, kinds := [], alts := [], laidByText := true, laidKinds := [.widerDeep], laidTests := true, laidLooks := .later }
def SliceTermsCardSaid : Prop := Claim7.holds Tryz.pinned (.plain (OpenSpec.ofChange sliceTermsSpec)) sliceTermsCard

/-- THE TIED CARD OF 'sortilegelaw17.SliceCores'. -/
def sliceCoresCard : Claim7 := { stood := { row := sliceCoresRow, standIns := [], harness := (true, "3a252aec191009ef1e32ebe3168671fed77026a0fd9c2d59ca41c742d5da5bb4"), looks := true }, kinds := [], alts := [], laidByText := true, laidKinds := [.widerDeep], laidTests := true, laidLooks := .later }
def SliceCoresCardSaid : Prop := Claim7.holds Tryz.pinned (.plain (OpenSpec.ofChange sliceCoresSpec)) sliceCoresCard

/-- THE TIED CARD OF 'sortilegelaw17.SliceOwn'. -/
def sliceOwnCard : Claim7 := { stood := { row := sliceOwnRow, standIns := [], harness := (true, "3a252aec191009ef1e32ebe3168671fed77026a0fd9c2d59ca41c742d5da5bb4"), looks := true }, kinds := [], alts := [], laidByText := true, laidKinds := [.widerDeep], laidTests := true, laidLooks := .later }
def SliceOwnCardSaid : Prop := Claim7.holds Tryz.pinned (.plain (OpenSpec.ofChange sliceOwnSpec)) sliceOwnCard

/-- THE TIED CARD OF 'sortilegelaw17.SliceEnds'. -/
def sliceEndsCard : Claim7 := { stood := { row := sliceEndsRow, standIns := [], harness := (true, "3a252aec191009ef1e32ebe3168671fed77026a0fd9c2d59ca41c742d5da5bb4"), looks := true }, kinds := [], alts := [], laidByText := true, laidKinds := [.widerDeep], laidTests := true, laidLooks := .later }
def SliceEndsCardSaid : Prop := Claim7.holds Tryz.pinned (.plain (OpenSpec.ofChange sliceEndsSpec)) sliceEndsCard

/-- THE SECOND FORM's CARD OF 'sortilegelaw17.SliceTerms'. -/
def sliceTermsUptoCard : Claim7 := { stood := { row := sliceTermsUptoRow, standIns := [], harness := (true, "3a252aec191009ef1e32ebe3168671fed77026a0fd9c2d59ca41c742d5da5bb4"), looks := true }, kinds := [], alts := [], laidByText := true, laidKinds := [.widerDeep], laidTests := true, laidLooks := .later }
def SliceTermsUptoCardSaid : Prop := Claim7.holds Tryz.pinned (.plain (OpenSpec.upto sliceTermsSpec)) sliceTermsUptoCard

/-- THE SECOND FORM's CARD OF 'sortilegelaw17.SliceCores'. -/
def sliceCoresUptoCard : Claim7 := { stood := { row := sliceCoresUptoRow, standIns := [], harness := (true, "3a252aec191009ef1e32ebe3168671fed77026a0fd9c2d59ca41c742d5da5bb4"), looks := true }, kinds := [], alts := [], laidByText := true, laidKinds := [.widerDeep], laidTests := true, laidLooks := .later }
def SliceCoresUptoCardSaid : Prop := Claim7.holds Tryz.pinned (.plain (OpenSpec.upto sliceCoresSpec)) sliceCoresUptoCard

/-- THE SECOND FORM's CARD OF 'sortilegelaw17.SliceOwn'. -/
def sliceOwnUptoCard : Claim7 := { stood := { row := sliceOwnUptoRow, standIns := [], harness := (true, "3a252aec191009ef1e32ebe3168671fed77026a0fd9c2d59ca41c742d5da5bb4"), looks := true }, kinds := [], alts := [], laidByText := true, laidKinds := [.widerDeep], laidTests := true, laidLooks := .later }
def SliceOwnUptoCardSaid : Prop := Claim7.holds Tryz.pinned (.plain (OpenSpec.upto sliceOwnSpec)) sliceOwnUptoCard

/-- THE SECOND FORM's CARD OF 'sortilegelaw17.SliceEnds'. -/
def sliceEndsUptoCard : Claim7 := { stood := { row := sliceEndsUptoRow, standIns := [], harness := (true, "3a252aec191009ef1e32ebe3168671fed77026a0fd9c2d59ca41c742d5da5bb4"), looks := true }, kinds := [], alts := [], laidByText := true, laidKinds := [.widerDeep], laidTests := true, laidLooks := .later }
def SliceEndsUptoCardSaid : Prop := Claim7.holds Tryz.pinned (.plain (OpenSpec.upto sliceEndsSpec)) sliceEndsUptoCard
end Rows
end Go.Proofs.YtlgknghehgmodaaGreatDoor
