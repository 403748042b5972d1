/-
  NARROWER THAN 'FOR EVERY INPUT', by the rows' own cells (each row's printed sentence says how): SliceTerms: loops, laid · SliceCores: loops, laid · SliceOwn: loops, laid · SliceEnds: loops, laid.
  DERIVED. THE GIVEN ROWS OF THIS SEAT. 4 by the template 'for every input the law returns true; each argument reads behind the call as it read before'; 0 by the template 'total and deterministic' (their statements: YtlgknghehgmodaaGreatDoorTotals.lean).
  GIVEN WITH THE SEED: the statements are not yours to turn. If you find one false, say at which input.
  Laid BY PROGRAM, IN A SANDBOX (cutbox-rows.mjs): the forced cells as the released guide's own fill.sh prints them over the translation c3f9a713beb8d877… (all of the seat's roots in one cut). By AI agents, Wed Nov 11 2026. No macro, syntax, notation, axiom, sorry.
-/
import Derived.Test.YtlgknghehgmodaaGreatDoorChecked
import GoSem.Claim
import GoSem.ClaimJoined
import GoSem.ClaimMapViews
import Derived.JoinedTies
import Derived.KernelRfl
namespace Go.Proofs.YtlgknghehgmodaaGreatDoor
/- THE CELL 'sum', in the pinned program and in every row, IS THE sha256 OF THE DUMP (.gsa) THAT YtlgknghehgmodaaGreatDoorProg.lean LOADS. Nothing in Lean hashes anything: it is a label: what it is worth is what the hold of that sum in a sandbox is worth. -/
noncomputable def Tryz.pinned : Pinned := { name := "ytlgknghehgmodaagreatdoor", sum := "c3f9a713beb8d87747cc6e6ca782c87738ff56cc88f839a2a7fc36c496493930", checked := Tryz.checked }
namespace Rows
def none {H : Type} : Left H := { results := [], args := [] }

/- WHAT THE LISTED PACKAGE-LEVEL VARIABLES READ AS WHEN THE CALL BEGINS. Each datum BY PROGRAM (the guide's laid-datum.mjs) off the statement by which the dump's own 'gosem.cut.vars' lays the variable. In a bare row this is a premise. The card (YtlgknghehgmodaaGreatDoorCards.lean) ties it to the program's text. -/
def laid_sortilege_core_ops {H : Type} : DataW H := .agg [.lit (.string []), .lit (.string [43]), .lit (.string [45]), .lit (.string [42]), .lit (.string [47]), .lit (.string [37]), .lit (.string [61, 61]), .lit (.string [60]), .lit (.string [60, 61]), .lit (.string [58, 58]), .lit (.string [97, 110, 100]), .lit (.string [111, 114]), .lit (.string [110, 111, 116]), .lit (.string [110, 101, 103])]

/-- 'sortilegelaw17.SliceTerms': WHATEVER THE INPUT: true; the input reads as it did. -/
def sliceTermsSpec : ChangeSpec := { name := "sliceTerms", fn := fun _ => fun
  | [d1, d2] => { results := [.lit (.bool true)], args := [d1, d2] }
  | _ => none }
def sliceTermsRow : OpenClaim := { program := "ytlgknghehgmodaagreatdoor", sum := "c3f9a713beb8d87747cc6e6ca782c87738ff56cc88f839a2a7fc36c496493930", func := "sortilege/sortilegelaw17.SliceTerms", spec := "sliceTerms", inPlace := ["internal/bytealg.IndexByteString", "internal/bytealg.IndexString"], unfollowed := true, recurses := true, named := ["internal/bytealg.MaxLen", "sortilege/core.ops"], loops := true, apart := false, laid := [("sortilege/core.ops", laid_sortilege_core_ops)] }
def SliceTermsSaid : Prop := sliceTermsRow.holds Tryz.pinned (OpenSpec.ofChange sliceTermsSpec)

/-- ITS FALSE NEIGHBOUR: 'it returns false'. Refute it at one input. -/
def sliceTermsWrong : ChangeSpec := { name := "sliceTerms", fn := fun _ => fun
  | [d1, d2] => { results := [.lit (.bool false)], args := [d1, d2] }
  | _ => none }
def SliceTermsWrongFalsely : Prop := sliceTermsRow.holds Tryz.pinned (OpenSpec.ofChange sliceTermsWrong)

/-- 'sortilegelaw17.SliceCores': WHATEVER THE INPUT: true; the input reads as it did. -/
def sliceCoresSpec : ChangeSpec := { name := "sliceCores", fn := fun _ => fun
  | [d] => { results := [.lit (.bool true)], args := [d] }
  | _ => none }
def sliceCoresRow : OpenClaim := { program := "ytlgknghehgmodaagreatdoor", sum := "c3f9a713beb8d87747cc6e6ca782c87738ff56cc88f839a2a7fc36c496493930", func := "sortilege/sortilegelaw17.SliceCores", spec := "sliceCores", inPlace := ["internal/bytealg.IndexByteString", "internal/bytealg.IndexString"], unfollowed := true, recurses := true, named := ["internal/bytealg.MaxLen", "sortilege/core.ops"], loops := true, apart := false, laid := [("sortilege/core.ops", laid_sortilege_core_ops)] }
def SliceCoresSaid : Prop := sliceCoresRow.holds Tryz.pinned (OpenSpec.ofChange sliceCoresSpec)

/-- ITS FALSE NEIGHBOUR: 'it returns false'. Refute it at one input. -/
def sliceCoresWrong : ChangeSpec := { name := "sliceCores", fn := fun _ => fun
  | [d] => { results := [.lit (.bool false)], args := [d] }
  | _ => none }
def SliceCoresWrongFalsely : Prop := sliceCoresRow.holds Tryz.pinned (OpenSpec.ofChange sliceCoresWrong)

/-- 'sortilegelaw17.SliceOwn': WHATEVER THE INPUT: true; the input reads as it did. -/
def sliceOwnSpec : ChangeSpec := { name := "sliceOwn", fn := fun _ => fun
  | [d] => { results := [.lit (.bool true)], args := [d] }
  | _ => none }
def sliceOwnRow : OpenClaim := { program := "ytlgknghehgmodaagreatdoor", sum := "c3f9a713beb8d87747cc6e6ca782c87738ff56cc88f839a2a7fc36c496493930", func := "sortilege/sortilegelaw17.SliceOwn", spec := "sliceOwn", inPlace := ["internal/bytealg.IndexByteString", "internal/bytealg.IndexString"], unfollowed := true, recurses := true, named := ["internal/bytealg.MaxLen", "sortilege/core.ops"], loops := true, apart := false, laid := [("sortilege/core.ops", laid_sortilege_core_ops)] }
def SliceOwnSaid : Prop := sliceOwnRow.holds Tryz.pinned (OpenSpec.ofChange sliceOwnSpec)

/-- ITS FALSE NEIGHBOUR: 'it returns false'. Refute it at one input. -/
def sliceOwnWrong : ChangeSpec := { name := "sliceOwn", fn := fun _ => fun
  | [d] => { results := [.lit (.bool false)], args := [d] }
  | _ => none }
def SliceOwnWrongFalsely : Prop := sliceOwnRow.holds Tryz.pinned (OpenSpec.ofChange sliceOwnWrong)

/-- 'sortilegelaw17.SliceEnds': WHATEVER THE INPUT: true; the input reads as it did. -/
def sliceEndsSpec : ChangeSpec := { name := "sliceEnds", fn := fun _ => fun
  | [d] => { results := [.lit (.bool true)], args := [d] }
  | _ => none }
def sliceEndsRow : OpenClaim := { program := "ytlgknghehgmodaagreatdoor", sum := "c3f9a713beb8d87747cc6e6ca782c87738ff56cc88f839a2a7fc36c496493930", func := "sortilege/sortilegelaw17.SliceEnds", spec := "sliceEnds", inPlace := ["internal/bytealg.IndexByteString", "internal/bytealg.IndexString"], unfollowed := true, recurses := true, named := ["internal/bytealg.MaxLen", "sortilege/core.ops"], loops := true, apart := false, laid := [("sortilege/core.ops", laid_sortilege_core_ops)] }
def SliceEndsSaid : Prop := sliceEndsRow.holds Tryz.pinned (OpenSpec.ofChange sliceEndsSpec)

/-- ITS FALSE NEIGHBOUR: 'it returns false'. Refute it at one input. -/
def sliceEndsWrong : ChangeSpec := { name := "sliceEnds", fn := fun _ => fun
  | [d] => { results := [.lit (.bool false)], args := [d] }
  | _ => none }
def SliceEndsWrongFalsely : Prop := sliceEndsRow.holds Tryz.pinned (OpenSpec.ofChange sliceEndsWrong)

/- THE SECOND FORM. 'bulk': how many values and letters a reading holds, each counted each time it is reached (what is shared counts as often as it is met; a slice's spare places count too). A statement '..UptoSaid' is the law's where the arguments, and the package variables that the reading takes, are together of bulk at most 1048576: NARROWER than '..Said'. Prove '..Said' where nothing that the law and all that it calls make is longer than what came in: it says more and counts as full. Else prove '..UptoSaid'. A law counts once. -/
mutual
def uptoBulk {H : Type} : DataW H → Nat
  | .lit (.string bytes) => bytes.length + 1
  | .lit _ => 1
  | .nil => 1
  | .ptr d => uptoBulk d + 1
  | .slice elems spare => uptoBulkAll elems + uptoBulkAll spare + 1
  | .agg parts => uptoBulkAll parts + 1
  | .iface _ d => uptoBulk d + 1
  | .map entries => uptoBulkEntries entries + 1
  | .held _ => 1
def uptoBulkAll {H : Type} : List (DataW H) → Nat
  | [] => 0
  | d :: r => uptoBulk d + uptoBulkAll r
def uptoBulkEntries {H : Type} : List (Lit × DataW H) → Nat
  | [] => 0
  | x :: r => uptoBulkEntry x + uptoBulkEntries r
def uptoBulkEntry {H : Type} : Lit × DataW H → Nat
  | (.string bytes, d) => bytes.length + uptoBulk d + 1
  | (_, d) => uptoBulk d + 1
 end
def uptoSmall : (H : Type) → List (DataW H) → Bool := fun _ ds => decide (uptoBulkAll ds ≤ 1048576)
def OpenSpec.upto (s : _root_.Go.ChangeSpec) : _root_.Go.OpenSpec := { _root_.Go.OpenSpec.ofChange s with cond := some uptoSmall }

/-- 'sortilegelaw17.SliceTerms', WHERE WHAT IT READS IS OF BULK AT MOST 1048576: true; the input reads as it did. -/
def sliceTermsUptoRow : OpenClaim := { program := "ytlgknghehgmodaagreatdoor", sum := "c3f9a713beb8d87747cc6e6ca782c87738ff56cc88f839a2a7fc36c496493930", func := "sortilege/sortilegelaw17.SliceTerms", spec := "sliceTerms", inPlace := ["internal/bytealg.IndexByteString", "internal/bytealg.IndexString"], unfollowed := true, recurses := true, named := ["internal/bytealg.MaxLen", "sortilege/core.ops"], loops := true, apart := false, laid := [("sortilege/core.ops", laid_sortilege_core_ops)], narrowed := true }
def SliceTermsUptoSaid : Prop := sliceTermsUptoRow.holds Tryz.pinned (OpenSpec.upto sliceTermsSpec)

/-- 'sortilegelaw17.SliceCores', WHERE WHAT IT READS IS OF BULK AT MOST 1048576: true; the input reads as it did. -/
def sliceCoresUptoRow : OpenClaim := { program := "ytlgknghehgmodaagreatdoor", sum := "c3f9a713beb8d87747cc6e6ca782c87738ff56cc88f839a2a7fc36c496493930", func := "sortilege/sortilegelaw17.SliceCores", spec := "sliceCores", inPlace := ["internal/bytealg.IndexByteString", "internal/bytealg.IndexString"], unfollowed := true, recurses := true, named := ["internal/bytealg.MaxLen", "sortilege/core.ops"], loops := true, apart := false, laid := [("sortilege/core.ops", laid_sortilege_core_ops)], narrowed := true }
def SliceCoresUptoSaid : Prop := sliceCoresUptoRow.holds Tryz.pinned (OpenSpec.upto sliceCoresSpec)

/-- 'sortilegelaw17.SliceOwn', WHERE WHAT IT READS IS OF BULK AT MOST 1048576: true; the input reads as it did. -/
def sliceOwnUptoRow : OpenClaim := { program := "ytlgknghehgmodaagreatdoor", sum := "c3f9a713beb8d87747cc6e6ca782c87738ff56cc88f839a2a7fc36c496493930", func := "sortilege/sortilegelaw17.SliceOwn", spec := "sliceOwn", inPlace := ["internal/bytealg.IndexByteString", "internal/bytealg.IndexString"], unfollowed := true, recurses := true, named := ["internal/bytealg.MaxLen", "sortilege/core.ops"], loops := true, apart := false, laid := [("sortilege/core.ops", laid_sortilege_core_ops)], narrowed := true }
def SliceOwnUptoSaid : Prop := sliceOwnUptoRow.holds Tryz.pinned (OpenSpec.upto sliceOwnSpec)

/-- 'sortilegelaw17.SliceEnds', WHERE WHAT IT READS IS OF BULK AT MOST 1048576: true; the input reads as it did. -/
def sliceEndsUptoRow : OpenClaim := { program := "ytlgknghehgmodaagreatdoor", sum := "c3f9a713beb8d87747cc6e6ca782c87738ff56cc88f839a2a7fc36c496493930", func := "sortilege/sortilegelaw17.SliceEnds", spec := "sliceEnds", inPlace := ["internal/bytealg.IndexByteString", "internal/bytealg.IndexString"], unfollowed := true, recurses := true, named := ["internal/bytealg.MaxLen", "sortilege/core.ops"], loops := true, apart := false, laid := [("sortilege/core.ops", laid_sortilege_core_ops)], narrowed := true }
def SliceEndsUptoSaid : Prop := sliceEndsUptoRow.holds Tryz.pinned (OpenSpec.upto sliceEndsSpec)

end Rows
end Go.Proofs.YtlgknghehgmodaaGreatDoor
