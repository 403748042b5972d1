/-
  NARROWER THAN 'FOR EVERY INPUT', by the rows' own cells (each row's printed sentence says how): CoreRights: loops, laid · CoreSames: loops, laid · CoreParts: loops, laid.
  DERIVED. THE GIVEN ROWS OF THIS SEAT. 3 by the template 'for every input the law returns true; each argument reads behind the call as it read before'; 0 by the template 'total and deterministic' (their statements: YtalckpkiplhbcaaGreatDoorTotals.lean).
  GIVEN WITH THE SEED: the statements are not yours to turn. If you find one false, say at which input.
  Laid BY PROGRAM, IN A SANDBOX (cutbox-rows.mjs): the forced cells as the released guide's own fill.sh prints them over the translation b1678272b0f4d893… (all of the seat's roots in one cut). By AI agents, Wed Nov 11 2026. No macro, syntax, notation, axiom, sorry.
-/
import Derived.Test.YtalckpkiplhbcaaGreatDoorChecked
import GoSem.Claim
import GoSem.ClaimJoined
import GoSem.ClaimMapViews
import Derived.JoinedTies
import Derived.KernelRfl
namespace Go.Proofs.YtalckpkiplhbcaaGreatDoor
/- THE CELL 'sum', in the pinned program and in every row, IS THE sha256 OF THE DUMP (.gsa) THAT YtalckpkiplhbcaaGreatDoorProg.lean LOADS. Nothing in Lean hashes anything: it is a label: what it is worth is what the hold of that sum in a sandbox is worth. -/
noncomputable def Tryz.pinned : Pinned := { name := "ytalckpkiplhbcaagreatdoor", sum := "b1678272b0f4d89318b468acab42e2abe9ec89e225bcfe523ae266d379a63601", checked := Tryz.checked }
namespace Rows
def none {H : Type} : Left H := { results := [], args := [] }

/- WHAT THE LISTED PACKAGE-LEVEL VARIABLES READ AS WHEN THE CALL BEGINS. Each datum BY PROGRAM (the guide's laid-datum.mjs) off the statement by which the dump's own 'gosem.cut.vars' lays the variable. In a bare row this is a premise. The card (YtalckpkiplhbcaaGreatDoorCards.lean) ties it to the program's text. -/
def laid_sortilege_core_ops {H : Type} : DataW H := .agg [.lit (.string []), .lit (.string [43]), .lit (.string [45]), .lit (.string [42]), .lit (.string [47]), .lit (.string [37]), .lit (.string [61, 61]), .lit (.string [60]), .lit (.string [60, 61]), .lit (.string [58, 58]), .lit (.string [97, 110, 100]), .lit (.string [111, 114]), .lit (.string [110, 111, 116]), .lit (.string [110, 101, 103])]

/-- 'sortilegelaw09.CoreRights': WHATEVER THE INPUT: true; the input reads as it did. -/
def coreRightsSpec : ChangeSpec := { name := "coreRights", fn := fun _ => fun
  | [d1, d2] => { results := [.lit (.bool true)], args := [d1, d2] }
  | _ => none }
def coreRightsRow : OpenClaim := { program := "ytalckpkiplhbcaagreatdoor", sum := "b1678272b0f4d89318b468acab42e2abe9ec89e225bcfe523ae266d379a63601", func := "sortilege/sortilegelaw09.CoreRights", spec := "coreRights", inPlace := ["internal/bytealg.IndexByteString", "internal/bytealg.IndexString"], unfollowed := true, recurses := true, named := ["internal/bytealg.MaxLen", "sortilege/core.ops"], loops := true, apart := false, laid := [("sortilege/core.ops", laid_sortilege_core_ops)] }
def CoreRightsSaid : Prop := coreRightsRow.holds Tryz.pinned (OpenSpec.ofChange coreRightsSpec)

/-- ITS FALSE NEIGHBOUR: 'it returns false'. Refute it at one input. -/
def coreRightsWrong : ChangeSpec := { name := "coreRights", fn := fun _ => fun
  | [d1, d2] => { results := [.lit (.bool false)], args := [d1, d2] }
  | _ => none }
def CoreRightsWrongFalsely : Prop := coreRightsRow.holds Tryz.pinned (OpenSpec.ofChange coreRightsWrong)

/-- 'sortilegelaw09.CoreSames': WHATEVER THE INPUT: true; the input reads as it did. -/
def coreSamesSpec : ChangeSpec := { name := "coreSames", fn := fun _ => fun
  | [d1, d2] => { results := [.lit (.bool true)], args := [d1, d2] }
  | _ => none }
def coreSamesRow : OpenClaim := { program := "ytalckpkiplhbcaagreatdoor", sum := "b1678272b0f4d89318b468acab42e2abe9ec89e225bcfe523ae266d379a63601", func := "sortilege/sortilegelaw09.CoreSames", spec := "coreSames", inPlace := ["internal/bytealg.IndexByteString", "internal/bytealg.IndexString"], unfollowed := true, recurses := true, named := ["internal/bytealg.MaxLen", "sortilege/core.ops"], loops := true, apart := false, laid := [("sortilege/core.ops", laid_sortilege_core_ops)] }
def CoreSamesSaid : Prop := coreSamesRow.holds Tryz.pinned (OpenSpec.ofChange coreSamesSpec)

/-- ITS FALSE NEIGHBOUR: 'it returns false'. Refute it at one input. -/
def coreSamesWrong : ChangeSpec := { name := "coreSames", fn := fun _ => fun
  | [d1, d2] => { results := [.lit (.bool false)], args := [d1, d2] }
  | _ => none }
def CoreSamesWrongFalsely : Prop := coreSamesRow.holds Tryz.pinned (OpenSpec.ofChange coreSamesWrong)

/-- 'sortilegelaw09.CoreParts': WHATEVER THE INPUT: true; the input reads as it did. -/
def corePartsSpec : ChangeSpec := { name := "coreParts", fn := fun _ => fun
  | [d] => { results := [.lit (.bool true)], args := [d] }
  | _ => none }
def corePartsRow : OpenClaim := { program := "ytalckpkiplhbcaagreatdoor", sum := "b1678272b0f4d89318b468acab42e2abe9ec89e225bcfe523ae266d379a63601", func := "sortilege/sortilegelaw09.CoreParts", spec := "coreParts", inPlace := ["internal/bytealg.IndexByteString", "internal/bytealg.IndexString"], unfollowed := true, recurses := true, named := ["internal/bytealg.MaxLen", "sortilege/core.ops"], loops := true, apart := false, laid := [("sortilege/core.ops", laid_sortilege_core_ops)] }
def CorePartsSaid : Prop := corePartsRow.holds Tryz.pinned (OpenSpec.ofChange corePartsSpec)

/-- ITS FALSE NEIGHBOUR: 'it returns false'. Refute it at one input. -/
def corePartsWrong : ChangeSpec := { name := "coreParts", fn := fun _ => fun
  | [d] => { results := [.lit (.bool false)], args := [d] }
  | _ => none }
def CorePartsWrongFalsely : Prop := corePartsRow.holds Tryz.pinned (OpenSpec.ofChange corePartsWrong)

/- THE SECOND FORM. 'bulk': how many values and letters a reading holds, each counted each time it is reached (what is shared counts as often as it is met; a slice's spare places count too). A statement '..UptoSaid' is the law's where the arguments, and the package variables that the reading takes, are together of bulk at most 1048576: NARROWER than '..Said'. Prove '..Said' where nothing that the law and all that it calls make is longer than what came in: it says more and counts as full. Else prove '..UptoSaid'. A law counts once. -/
mutual
def uptoBulk {H : Type} : DataW H → Nat
  | .lit (.string bytes) => bytes.length + 1
  | .lit _ => 1
  | .nil => 1
  | .ptr d => uptoBulk d + 1
  | .slice elems spare => uptoBulkAll elems + uptoBulkAll spare + 1
  | .agg parts => uptoBulkAll parts + 1
  | .iface _ d => uptoBulk d + 1
  | .map entries => uptoBulkEntries entries + 1
  | .held _ => 1
def uptoBulkAll {H : Type} : List (DataW H) → Nat
  | [] => 0
  | d :: r => uptoBulk d + uptoBulkAll r
def uptoBulkEntries {H : Type} : List (Lit × DataW H) → Nat
  | [] => 0
  | x :: r => uptoBulkEntry x + uptoBulkEntries r
def uptoBulkEntry {H : Type} : Lit × DataW H → Nat
  | (.string bytes, d) => bytes.length + uptoBulk d + 1
  | (_, d) => uptoBulk d + 1
 end
def uptoSmall : (H : Type) → List (DataW H) → Bool := fun _ ds => decide (uptoBulkAll ds ≤ 1048576)
def OpenSpec.upto (s : _root_.Go.ChangeSpec) : _root_.Go.OpenSpec := { _root_.Go.OpenSpec.ofChange s with cond := some uptoSmall }

/-- 'sortilegelaw09.CoreRights', WHERE WHAT IT READS IS OF BULK AT MOST 1048576: true; the input reads as it did. -/
def coreRightsUptoRow : OpenClaim := { program := "ytalckpkiplhbcaagreatdoor", sum := "b1678272b0f4d89318b468acab42e2abe9ec89e225bcfe523ae266d379a63601", func := "sortilege/sortilegelaw09.CoreRights", spec := "coreRights", inPlace := ["internal/bytealg.IndexByteString", "internal/bytealg.IndexString"], unfollowed := true, recurses := true, named := ["internal/bytealg.MaxLen", "sortilege/core.ops"], loops := true, apart := false, laid := [("sortilege/core.ops", laid_sortilege_core_ops)], narrowed := true }
def CoreRightsUptoSaid : Prop := coreRightsUptoRow.holds Tryz.pinned (OpenSpec.upto coreRightsSpec)

/-- 'sortilegelaw09.CoreSames', WHERE WHAT IT READS IS OF BULK AT MOST 1048576: true; the input reads as it did. -/
def coreSamesUptoRow : OpenClaim := { program := "ytalckpkiplhbcaagreatdoor", sum := "b1678272b0f4d89318b468acab42e2abe9ec89e225bcfe523ae266d379a63601", func := "sortilege/sortilegelaw09.CoreSames", spec := "coreSames", inPlace := ["internal/bytealg.IndexByteString", "internal/bytealg.IndexString"], unfollowed := true, recurses := true, named := ["internal/bytealg.MaxLen", "sortilege/core.ops"], loops := true, apart := false, laid := [("sortilege/core.ops", laid_sortilege_core_ops)], narrowed := true }
def CoreSamesUptoSaid : Prop := coreSamesUptoRow.holds Tryz.pinned (OpenSpec.upto coreSamesSpec)

/-- 'sortilegelaw09.CoreParts', WHERE WHAT IT READS IS OF BULK AT MOST 1048576: true; the input reads as it did. -/
def corePartsUptoRow : OpenClaim := { program := "ytalckpkiplhbcaagreatdoor", sum := "b1678272b0f4d89318b468acab42e2abe9ec89e225bcfe523ae266d379a63601", func := "sortilege/sortilegelaw09.CoreParts", spec := "coreParts", inPlace := ["internal/bytealg.IndexByteString", "internal/bytealg.IndexString"], unfollowed := true, recurses := true, named := ["internal/bytealg.MaxLen", "sortilege/core.ops"], loops := true, apart := false, laid := [("sortilege/core.ops", laid_sortilege_core_ops)], narrowed := true }
def CorePartsUptoSaid : Prop := corePartsUptoRow.holds Tryz.pinned (OpenSpec.upto corePartsSpec)

end Rows
end Go.Proofs.YtalckpkiplhbcaaGreatDoor
