/-
  NARROWER THAN 'FOR EVERY INPUT', by the rows' own cells (each row's printed sentence says how): CheckCalls: loops.
  DERIVED. THE GIVEN ROWS OF THIS SEAT. 5 by the template 'for every input the law returns true; each argument reads behind the call as it read before'; 0 by the template 'total and deterministic' (their statements: YtjdiibhkdanbiaaTotals.lean).
  GIVEN WITH THE SEED: the statements are not yours to turn. If you find one false, say at which input.
  Laid BY PROGRAM, IN A SANDBOX (cutbox-rows.mjs): the forced cells as the released guide's own fill.sh prints them over the translation fbe936e172cb8099… (all of the seat's roots in one cut). By AI agents, Wed Nov 11 2026. No macro, syntax, notation, axiom, sorry.
-/
import Derived.Test.YtjdiibhkdanbiaaChecked
import GoSem.Claim
import GoSem.ClaimJoined
import GoSem.ClaimMapViews
import Derived.JoinedTies
import Derived.KernelRfl
namespace Go.Proofs.Ytjdiibhkdanbiaa
/- THE CELL 'sum', in the pinned program and in every row, IS THE sha256 OF THE DUMP (.gsa) THAT YtjdiibhkdanbiaaProg.lean LOADS. Nothing in Lean hashes anything: it is a label: what it is worth is what the hold of that sum in a sandbox is worth. -/
noncomputable def Try.pinned : Pinned := { name := "ytjdiibhkdanbiaa", sum := "fbe936e172cb8099875981fcfb6e3438f6f3d1decc4a786794de8c54f027b5d8", checked := Try.checked }
namespace Rows
def none {H : Type} : Left H := { results := [], args := [] }

/-- 'sortilegelaw08.CheckCalls': WHATEVER THE INPUT: true; the input reads as it did. -/
def checkCallsSpec : ChangeSpec := { name := "checkCalls", fn := fun _ => fun
  | [d] => { results := [.lit (.bool true)], args := [d] }
  | _ => none }
def checkCallsRow : OpenClaim := { program := "ytjdiibhkdanbiaa", sum := "fbe936e172cb8099875981fcfb6e3438f6f3d1decc4a786794de8c54f027b5d8", func := "sortilege/sortilegelaw08.CheckCalls", spec := "checkCalls", inPlace := ["internal/bytealg.IndexByteString", "internal/bytealg.IndexString"], unfollowed := true, recurses := true, named := ["internal/bytealg.MaxLen"], loops := true, apart := false }
def CheckCallsSaid : Prop := checkCallsRow.holds Try.pinned (OpenSpec.ofChange checkCallsSpec)

/-- ITS FALSE NEIGHBOUR: 'it returns false'. Refute it at one input. -/
def checkCallsWrong : ChangeSpec := { name := "checkCalls", fn := fun _ => fun
  | [d] => { results := [.lit (.bool false)], args := [d] }
  | _ => none }
def CheckCallsWrongFalsely : Prop := checkCallsRow.holds Try.pinned (OpenSpec.ofChange checkCallsWrong)

/-- 'sortilegelaw08.CheckNames': WHATEVER THE INPUT: true; the input reads as it did. -/
def checkNamesSpec : ChangeSpec := { name := "checkNames", fn := fun _ => fun
  | [d] => { results := [.lit (.bool true)], args := [d] }
  | _ => none }
def checkNamesRow : OpenClaim := { program := "ytjdiibhkdanbiaa", sum := "fbe936e172cb8099875981fcfb6e3438f6f3d1decc4a786794de8c54f027b5d8", func := "sortilege/sortilegelaw08.CheckNames", spec := "checkNames", inPlace := ["internal/bytealg.IndexByteString", "internal/bytealg.IndexString"], unfollowed := true, recurses := true, named := ["internal/bytealg.MaxLen"], apart := false }
def CheckNamesSaid : Prop := checkNamesRow.holds Try.pinned (OpenSpec.ofChange checkNamesSpec)

/-- ITS FALSE NEIGHBOUR: 'it returns false'. Refute it at one input. -/
def checkNamesWrong : ChangeSpec := { name := "checkNames", fn := fun _ => fun
  | [d] => { results := [.lit (.bool false)], args := [d] }
  | _ => none }
def CheckNamesWrongFalsely : Prop := checkNamesRow.holds Try.pinned (OpenSpec.ofChange checkNamesWrong)

/-- 'sortilegelaw08.CheckLet': WHATEVER THE INPUT: true; the input reads as it did. -/
def checkLetSpec : ChangeSpec := { name := "checkLet", fn := fun _ => fun
  | [d] => { results := [.lit (.bool true)], args := [d] }
  | _ => none }
def checkLetRow : OpenClaim := { program := "ytjdiibhkdanbiaa", sum := "fbe936e172cb8099875981fcfb6e3438f6f3d1decc4a786794de8c54f027b5d8", func := "sortilege/sortilegelaw08.CheckLet", spec := "checkLet", inPlace := ["internal/bytealg.IndexByteString", "internal/bytealg.IndexString"], unfollowed := true, recurses := true, named := ["internal/bytealg.MaxLen"], apart := false }
def CheckLetSaid : Prop := checkLetRow.holds Try.pinned (OpenSpec.ofChange checkLetSpec)

/-- ITS FALSE NEIGHBOUR: 'it returns false'. Refute it at one input. -/
def checkLetWrong : ChangeSpec := { name := "checkLet", fn := fun _ => fun
  | [d] => { results := [.lit (.bool false)], args := [d] }
  | _ => none }
def CheckLetWrongFalsely : Prop := checkLetRow.holds Try.pinned (OpenSpec.ofChange checkLetWrong)

/-- 'sortilegelaw08.CheckUnreached': WHATEVER THE INPUT: true; the input reads as it did. -/
def checkUnreachedSpec : ChangeSpec := { name := "checkUnreached", fn := fun _ => fun
  | [d1, d2] => { results := [.lit (.bool true)], args := [d1, d2] }
  | _ => none }
def checkUnreachedRow : OpenClaim := { program := "ytjdiibhkdanbiaa", sum := "fbe936e172cb8099875981fcfb6e3438f6f3d1decc4a786794de8c54f027b5d8", func := "sortilege/sortilegelaw08.CheckUnreached", spec := "checkUnreached", inPlace := ["internal/bytealg.IndexByteString", "internal/bytealg.IndexString"], unfollowed := true, recurses := true, named := ["internal/bytealg.MaxLen"], apart := false }
def CheckUnreachedSaid : Prop := checkUnreachedRow.holds Try.pinned (OpenSpec.ofChange checkUnreachedSpec)

/-- ITS FALSE NEIGHBOUR: 'it returns false'. Refute it at one input. -/
def checkUnreachedWrong : ChangeSpec := { name := "checkUnreached", fn := fun _ => fun
  | [d1, d2] => { results := [.lit (.bool false)], args := [d1, d2] }
  | _ => none }
def CheckUnreachedWrongFalsely : Prop := checkUnreachedRow.holds Try.pinned (OpenSpec.ofChange checkUnreachedWrong)

/-- 'sortilegelaw08.CheckOrder': WHATEVER THE INPUT: true; the input reads as it did. -/
def checkOrderSpec : ChangeSpec := { name := "checkOrder", fn := fun _ => fun
  | [d1, d2] => { results := [.lit (.bool true)], args := [d1, d2] }
  | _ => none }
def checkOrderRow : OpenClaim := { program := "ytjdiibhkdanbiaa", sum := "fbe936e172cb8099875981fcfb6e3438f6f3d1decc4a786794de8c54f027b5d8", func := "sortilege/sortilegelaw08.CheckOrder", spec := "checkOrder", inPlace := ["internal/bytealg.IndexByteString", "internal/bytealg.IndexString"], unfollowed := true, recurses := true, named := ["internal/bytealg.MaxLen"], apart := false }
def CheckOrderSaid : Prop := checkOrderRow.holds Try.pinned (OpenSpec.ofChange checkOrderSpec)

/-- ITS FALSE NEIGHBOUR: 'it returns false'. Refute it at one input. -/
def checkOrderWrong : ChangeSpec := { name := "checkOrder", fn := fun _ => fun
  | [d1, d2] => { results := [.lit (.bool false)], args := [d1, d2] }
  | _ => none }
def CheckOrderWrongFalsely : Prop := checkOrderRow.holds Try.pinned (OpenSpec.ofChange checkOrderWrong)

/- THE SECOND FORM. 'bulk': how many values and letters a reading holds, each counted each time it is reached (what is shared counts as often as it is met; a slice's spare places count too). A statement '..UptoSaid' is the law's where the arguments, and the package variables that the reading takes, are together of bulk at most 1048576: NARROWER than '..Said'. Prove '..Said' where nothing that the law and all that it calls make is longer than what came in: it says more and counts as full. Else prove '..UptoSaid'. A law counts once. -/
mutual
def uptoBulk {H : Type} : DataW H → Nat
  | .lit (.string bytes) => bytes.length + 1
  | .lit _ => 1
  | .nil => 1
  | .ptr d => uptoBulk d + 1
  | .slice elems spare => uptoBulkAll elems + uptoBulkAll spare + 1
  | .agg parts => uptoBulkAll parts + 1
  | .iface _ d => uptoBulk d + 1
  | .map entries => uptoBulkEntries entries + 1
  | .held _ => 1
def uptoBulkAll {H : Type} : List (DataW H) → Nat
  | [] => 0
  | d :: r => uptoBulk d + uptoBulkAll r
def uptoBulkEntries {H : Type} : List (Lit × DataW H) → Nat
  | [] => 0
  | x :: r => uptoBulkEntry x + uptoBulkEntries r
def uptoBulkEntry {H : Type} : Lit × DataW H → Nat
  | (.string bytes, d) => bytes.length + uptoBulk d + 1
  | (_, d) => uptoBulk d + 1
 end
def uptoSmall : (H : Type) → List (DataW H) → Bool := fun _ ds => decide (uptoBulkAll ds ≤ 1048576)
def OpenSpec.upto (s : _root_.Go.ChangeSpec) : _root_.Go.OpenSpec := { _root_.Go.OpenSpec.ofChange s with cond := some uptoSmall }

/-- 'sortilegelaw08.CheckCalls', WHERE WHAT IT READS IS OF BULK AT MOST 1048576: true; the input reads as it did. -/
def checkCallsUptoRow : OpenClaim := { program := "ytjdiibhkdanbiaa", sum := "fbe936e172cb8099875981fcfb6e3438f6f3d1decc4a786794de8c54f027b5d8", func := "sortilege/sortilegelaw08.CheckCalls", spec := "checkCalls", inPlace := ["internal/bytealg.IndexByteString", "internal/bytealg.IndexString"], unfollowed := true, recurses := true, named := ["internal/bytealg.MaxLen"], loops := true, apart := false, narrowed := true }
def CheckCallsUptoSaid : Prop := checkCallsUptoRow.holds Try.pinned (OpenSpec.upto checkCallsSpec)

/-- 'sortilegelaw08.CheckNames', WHERE WHAT IT READS IS OF BULK AT MOST 1048576: true; the input reads as it did. -/
def checkNamesUptoRow : OpenClaim := { program := "ytjdiibhkdanbiaa", sum := "fbe936e172cb8099875981fcfb6e3438f6f3d1decc4a786794de8c54f027b5d8", func := "sortilege/sortilegelaw08.CheckNames", spec := "checkNames", inPlace := ["internal/bytealg.IndexByteString", "internal/bytealg.IndexString"], unfollowed := true, recurses := true, named := ["internal/bytealg.MaxLen"], apart := false, narrowed := true }
def CheckNamesUptoSaid : Prop := checkNamesUptoRow.holds Try.pinned (OpenSpec.upto checkNamesSpec)

/-- 'sortilegelaw08.CheckLet', WHERE WHAT IT READS IS OF BULK AT MOST 1048576: true; the input reads as it did. -/
def checkLetUptoRow : OpenClaim := { program := "ytjdiibhkdanbiaa", sum := "fbe936e172cb8099875981fcfb6e3438f6f3d1decc4a786794de8c54f027b5d8", func := "sortilege/sortilegelaw08.CheckLet", spec := "checkLet", inPlace := ["internal/bytealg.IndexByteString", "internal/bytealg.IndexString"], unfollowed := true, recurses := true, named := ["internal/bytealg.MaxLen"], apart := false, narrowed := true }
def CheckLetUptoSaid : Prop := checkLetUptoRow.holds Try.pinned (OpenSpec.upto checkLetSpec)

/-- 'sortilegelaw08.CheckUnreached', WHERE WHAT IT READS IS OF BULK AT MOST 1048576: true; the input reads as it did. -/
def checkUnreachedUptoRow : OpenClaim := { program := "ytjdiibhkdanbiaa", sum := "fbe936e172cb8099875981fcfb6e3438f6f3d1decc4a786794de8c54f027b5d8", func := "sortilege/sortilegelaw08.CheckUnreached", spec := "checkUnreached", inPlace := ["internal/bytealg.IndexByteString", "internal/bytealg.IndexString"], unfollowed := true, recurses := true, named := ["internal/bytealg.MaxLen"], apart := false, narrowed := true }
def CheckUnreachedUptoSaid : Prop := checkUnreachedUptoRow.holds Try.pinned (OpenSpec.upto checkUnreachedSpec)

/-- 'sortilegelaw08.CheckOrder', WHERE WHAT IT READS IS OF BULK AT MOST 1048576: true; the input reads as it did. -/
def checkOrderUptoRow : OpenClaim := { program := "ytjdiibhkdanbiaa", sum := "fbe936e172cb8099875981fcfb6e3438f6f3d1decc4a786794de8c54f027b5d8", func := "sortilege/sortilegelaw08.CheckOrder", spec := "checkOrder", inPlace := ["internal/bytealg.IndexByteString", "internal/bytealg.IndexString"], unfollowed := true, recurses := true, named := ["internal/bytealg.MaxLen"], apart := false, narrowed := true }
def CheckOrderUptoSaid : Prop := checkOrderUptoRow.holds Try.pinned (OpenSpec.upto checkOrderSpec)

end Rows
end Go.Proofs.Ytjdiibhkdanbiaa
