/-
  No cell of these rows narrows 'for every input' (looked for: loops, veiled, ifaces, maps, wideKeys, modest, calm, conditions, laid).
  DERIVED. THE GIVEN ROWS OF THIS SEAT. 15 by the template 'for every input the law returns true; each argument reads behind the call as it read before'; 0 by the template 'total and deterministic' (their statements: YtbbppknnkghkjaaTotals.lean).
  GIVEN WITH THE SEED: the statements are not yours to turn. If you find one false, say at which input.
  Laid BY PROGRAM, IN A SANDBOX (cutbox-rows.mjs): the forced cells as the released guide's own fill.sh prints them over the translation 039724837fb1e8d3… (all of the seat's roots in one cut). By AI agents, Wed Nov 11 2026. No macro, syntax, notation, axiom, sorry.
-/
import Derived.Test.YtbbppknnkghkjaaChecked
import GoSem.Claim
import GoSem.ClaimJoined
import GoSem.ClaimMapViews
import Derived.JoinedTies
import Derived.KernelRfl
namespace Go.Proofs.Ytbbppknnkghkjaa
/- THE CELL 'sum', in the pinned program and in every row, IS THE sha256 OF THE DUMP (.gsa) THAT YtbbppknnkghkjaaProg.lean LOADS. Nothing in Lean hashes anything: it is a label: what it is worth is what the hold of that sum in a sandbox is worth. -/
noncomputable def Try.pinned : Pinned := { name := "ytbbppknnkghkjaa", sum := "039724837fb1e8d388761e5929ed405314a76439c03042d438f17a302965cd8d", checked := Try.checked }
namespace Rows
def none {H : Type} : Left H := { results := [], args := [] }

/-- 'laws.FnExactDownToId': WHATEVER THE INPUT: true; the input reads as it did. -/
def fnExactDownToIdSpec : ChangeSpec := { name := "fnExactDownToId", fn := fun _ => fun
  | [d1, d2, d3] => { results := [.lit (.bool true)], args := [d1, d2, d3] }
  | _ => none }
def fnExactDownToIdRow : OpenClaim := { program := "ytbbppknnkghkjaa", sum := "039724837fb1e8d388761e5929ed405314a76439c03042d438f17a302965cd8d", func := "loop.example/g00986/laws.FnExactDownToId", spec := "fnExactDownToId", unfollowed := true, recurses := true, apart := false }
def FnExactDownToIdSaid : Prop := fnExactDownToIdRow.holds Try.pinned (OpenSpec.ofChange fnExactDownToIdSpec)

/-- ITS FALSE NEIGHBOUR: 'it returns false'. Refute it at one input. -/
def fnExactDownToIdWrong : ChangeSpec := { name := "fnExactDownToId", fn := fun _ => fun
  | [d1, d2, d3] => { results := [.lit (.bool false)], args := [d1, d2, d3] }
  | _ => none }
def FnExactDownToIdWrongFalsely : Prop := fnExactDownToIdRow.holds Try.pinned (OpenSpec.ofChange fnExactDownToIdWrong)

/-- 'laws.FnExactRouteToId': WHATEVER THE INPUT: true; the input reads as it did. -/
def fnExactRouteToIdSpec : ChangeSpec := { name := "fnExactRouteToId", fn := fun _ => fun
  | [d1, d2, d3, d4] => { results := [.lit (.bool true)], args := [d1, d2, d3, d4] }
  | _ => none }
def fnExactRouteToIdRow : OpenClaim := { program := "ytbbppknnkghkjaa", sum := "039724837fb1e8d388761e5929ed405314a76439c03042d438f17a302965cd8d", func := "loop.example/g00986/laws.FnExactRouteToId", spec := "fnExactRouteToId", unfollowed := true, recurses := true, apart := false }
def FnExactRouteToIdSaid : Prop := fnExactRouteToIdRow.holds Try.pinned (OpenSpec.ofChange fnExactRouteToIdSpec)

/-- ITS FALSE NEIGHBOUR: 'it returns false'. Refute it at one input. -/
def fnExactRouteToIdWrong : ChangeSpec := { name := "fnExactRouteToId", fn := fun _ => fun
  | [d1, d2, d3, d4] => { results := [.lit (.bool false)], args := [d1, d2, d3, d4] }
  | _ => none }
def FnExactRouteToIdWrongFalsely : Prop := fnExactRouteToIdRow.holds Try.pinned (OpenSpec.ofChange fnExactRouteToIdWrong)

/-- 'laws.FnExactIsLocal': WHATEVER THE INPUT: true; the input reads as it did. -/
def fnExactIsLocalSpec : ChangeSpec := { name := "fnExactIsLocal", fn := fun _ => fun
  | [d1, d2, d3, d4] => { results := [.lit (.bool true)], args := [d1, d2, d3, d4] }
  | _ => none }
def fnExactIsLocalRow : OpenClaim := { program := "ytbbppknnkghkjaa", sum := "039724837fb1e8d388761e5929ed405314a76439c03042d438f17a302965cd8d", func := "loop.example/g00986/laws.FnExactIsLocal", spec := "fnExactIsLocal", unfollowed := true, recurses := true, apart := false }
def FnExactIsLocalSaid : Prop := fnExactIsLocalRow.holds Try.pinned (OpenSpec.ofChange fnExactIsLocalSpec)

/-- ITS FALSE NEIGHBOUR: 'it returns false'. Refute it at one input. -/
def fnExactIsLocalWrong : ChangeSpec := { name := "fnExactIsLocal", fn := fun _ => fun
  | [d1, d2, d3, d4] => { results := [.lit (.bool false)], args := [d1, d2, d3, d4] }
  | _ => none }
def FnExactIsLocalWrongFalsely : Prop := fnExactIsLocalRow.holds Try.pinned (OpenSpec.ofChange fnExactIsLocalWrong)

/-- 'laws.FnBelow': WHATEVER THE INPUT: true; the input reads as it did. -/
def fnBelowSpec : ChangeSpec := { name := "fnBelow", fn := fun _ => fun
  | [d] => { results := [.lit (.bool true)], args := [d] }
  | _ => none }
def fnBelowRow : OpenClaim := { program := "ytbbppknnkghkjaa", sum := "039724837fb1e8d388761e5929ed405314a76439c03042d438f17a302965cd8d", func := "loop.example/g00986/laws.FnBelow", spec := "fnBelow", unfollowed := true, recurses := true, apart := false }
def FnBelowSaid : Prop := fnBelowRow.holds Try.pinned (OpenSpec.ofChange fnBelowSpec)

/-- ITS FALSE NEIGHBOUR: 'it returns false'. Refute it at one input. -/
def fnBelowWrong : ChangeSpec := { name := "fnBelow", fn := fun _ => fun
  | [d] => { results := [.lit (.bool false)], args := [d] }
  | _ => none }
def FnBelowWrongFalsely : Prop := fnBelowRow.holds Try.pinned (OpenSpec.ofChange fnBelowWrong)

/-- 'laws.FnExactChildrenOf': WHATEVER THE INPUT: true; the input reads as it did. -/
def fnExactChildrenOfSpec : ChangeSpec := { name := "fnExactChildrenOf", fn := fun _ => fun
  | [d1, d2] => { results := [.lit (.bool true)], args := [d1, d2] }
  | _ => none }
def fnExactChildrenOfRow : OpenClaim := { program := "ytbbppknnkghkjaa", sum := "039724837fb1e8d388761e5929ed405314a76439c03042d438f17a302965cd8d", func := "loop.example/g00986/laws.FnExactChildrenOf", spec := "fnExactChildrenOf", unfollowed := true, recurses := true, apart := false }
def FnExactChildrenOfSaid : Prop := fnExactChildrenOfRow.holds Try.pinned (OpenSpec.ofChange fnExactChildrenOfSpec)

/-- ITS FALSE NEIGHBOUR: 'it returns false'. Refute it at one input. -/
def fnExactChildrenOfWrong : ChangeSpec := { name := "fnExactChildrenOf", fn := fun _ => fun
  | [d1, d2] => { results := [.lit (.bool false)], args := [d1, d2] }
  | _ => none }
def FnExactChildrenOfWrongFalsely : Prop := fnExactChildrenOfRow.holds Try.pinned (OpenSpec.ofChange fnExactChildrenOfWrong)

/-- 'laws.FnNumbers': WHATEVER THE INPUT: true; the input reads as it did. -/
def fnNumbersSpec : ChangeSpec := { name := "fnNumbers", fn := fun _ => fun
  | [d] => { results := [.lit (.bool true)], args := [d] }
  | _ => none }
def fnNumbersRow : OpenClaim := { program := "ytbbppknnkghkjaa", sum := "039724837fb1e8d388761e5929ed405314a76439c03042d438f17a302965cd8d", func := "loop.example/g00986/laws.FnNumbers", spec := "fnNumbers", unfollowed := true, recurses := true, apart := false }
def FnNumbersSaid : Prop := fnNumbersRow.holds Try.pinned (OpenSpec.ofChange fnNumbersSpec)

/-- ITS FALSE NEIGHBOUR: 'it returns false'. Refute it at one input. -/
def fnNumbersWrong : ChangeSpec := { name := "fnNumbers", fn := fun _ => fun
  | [d] => { results := [.lit (.bool false)], args := [d] }
  | _ => none }
def FnNumbersWrongFalsely : Prop := fnNumbersRow.holds Try.pinned (OpenSpec.ofChange fnNumbersWrong)

/-- 'laws.FnOwners': WHATEVER THE INPUT: true; the input reads as it did. -/
def fnOwnersSpec : ChangeSpec := { name := "fnOwners", fn := fun _ => fun
  | [d] => { results := [.lit (.bool true)], args := [d] }
  | _ => none }
def fnOwnersRow : OpenClaim := { program := "ytbbppknnkghkjaa", sum := "039724837fb1e8d388761e5929ed405314a76439c03042d438f17a302965cd8d", func := "loop.example/g00986/laws.FnOwners", spec := "fnOwners", unfollowed := true, recurses := true, apart := false }
def FnOwnersSaid : Prop := fnOwnersRow.holds Try.pinned (OpenSpec.ofChange fnOwnersSpec)

/-- ITS FALSE NEIGHBOUR: 'it returns false'. Refute it at one input. -/
def fnOwnersWrong : ChangeSpec := { name := "fnOwners", fn := fun _ => fun
  | [d] => { results := [.lit (.bool false)], args := [d] }
  | _ => none }
def FnOwnersWrongFalsely : Prop := fnOwnersRow.holds Try.pinned (OpenSpec.ofChange fnOwnersWrong)

/-- 'laws.FnExactWindowSize': WHATEVER THE INPUT: true; the input reads as it did. -/
def fnExactWindowSizeSpec : ChangeSpec := { name := "fnExactWindowSize", fn := fun _ => fun
  | [d1, d2, d3] => { results := [.lit (.bool true)], args := [d1, d2, d3] }
  | _ => none }
def fnExactWindowSizeRow : OpenClaim := { program := "ytbbppknnkghkjaa", sum := "039724837fb1e8d388761e5929ed405314a76439c03042d438f17a302965cd8d", func := "loop.example/g00986/laws.FnExactWindowSize", spec := "fnExactWindowSize", unfollowed := true, recurses := true, apart := false }
def FnExactWindowSizeSaid : Prop := fnExactWindowSizeRow.holds Try.pinned (OpenSpec.ofChange fnExactWindowSizeSpec)

/-- ITS FALSE NEIGHBOUR: 'it returns false'. Refute it at one input. -/
def fnExactWindowSizeWrong : ChangeSpec := { name := "fnExactWindowSize", fn := fun _ => fun
  | [d1, d2, d3] => { results := [.lit (.bool false)], args := [d1, d2, d3] }
  | _ => none }
def FnExactWindowSizeWrongFalsely : Prop := fnExactWindowSizeRow.holds Try.pinned (OpenSpec.ofChange fnExactWindowSizeWrong)

/-- 'laws.FnNobody': WHATEVER THE INPUT: true; the input reads as it did. -/
def fnNobodySpec : ChangeSpec := { name := "fnNobody", fn := fun _ => fun
  | [d] => { results := [.lit (.bool true)], args := [d] }
  | _ => none }
def fnNobodyRow : OpenClaim := { program := "ytbbppknnkghkjaa", sum := "039724837fb1e8d388761e5929ed405314a76439c03042d438f17a302965cd8d", func := "loop.example/g00986/laws.FnNobody", spec := "fnNobody", unfollowed := true, recurses := true, apart := false }
def FnNobodySaid : Prop := fnNobodyRow.holds Try.pinned (OpenSpec.ofChange fnNobodySpec)

/-- ITS FALSE NEIGHBOUR: 'it returns false'. Refute it at one input. -/
def fnNobodyWrong : ChangeSpec := { name := "fnNobody", fn := fun _ => fun
  | [d] => { results := [.lit (.bool false)], args := [d] }
  | _ => none }
def FnNobodyWrongFalsely : Prop := fnNobodyRow.holds Try.pinned (OpenSpec.ofChange fnNobodyWrong)

/-- 'laws.FnExactEnumerate': WHATEVER THE INPUT: true; the input reads as it did. -/
def fnExactEnumerateSpec : ChangeSpec := { name := "fnExactEnumerate", fn := fun _ => fun
  | [d] => { results := [.lit (.bool true)], args := [d] }
  | _ => none }
def fnExactEnumerateRow : OpenClaim := { program := "ytbbppknnkghkjaa", sum := "039724837fb1e8d388761e5929ed405314a76439c03042d438f17a302965cd8d", func := "loop.example/g00986/laws.FnExactEnumerate", spec := "fnExactEnumerate", unfollowed := true, recurses := true, apart := false }
def FnExactEnumerateSaid : Prop := fnExactEnumerateRow.holds Try.pinned (OpenSpec.ofChange fnExactEnumerateSpec)

/-- ITS FALSE NEIGHBOUR: 'it returns false'. Refute it at one input. -/
def fnExactEnumerateWrong : ChangeSpec := { name := "fnExactEnumerate", fn := fun _ => fun
  | [d] => { results := [.lit (.bool false)], args := [d] }
  | _ => none }
def FnExactEnumerateWrongFalsely : Prop := fnExactEnumerateRow.holds Try.pinned (OpenSpec.ofChange fnExactEnumerateWrong)

/-- 'laws.FnWindows': WHATEVER THE INPUT: true; the input reads as it did. -/
def fnWindowsSpec : ChangeSpec := { name := "fnWindows", fn := fun _ => fun
  | [d] => { results := [.lit (.bool true)], args := [d] }
  | _ => none }
def fnWindowsRow : OpenClaim := { program := "ytbbppknnkghkjaa", sum := "039724837fb1e8d388761e5929ed405314a76439c03042d438f17a302965cd8d", func := "loop.example/g00986/laws.FnWindows", spec := "fnWindows", unfollowed := true, recurses := true, apart := false }
def FnWindowsSaid : Prop := fnWindowsRow.holds Try.pinned (OpenSpec.ofChange fnWindowsSpec)

/-- ITS FALSE NEIGHBOUR: 'it returns false'. Refute it at one input. -/
def fnWindowsWrong : ChangeSpec := { name := "fnWindows", fn := fun _ => fun
  | [d] => { results := [.lit (.bool false)], args := [d] }
  | _ => none }
def FnWindowsWrongFalsely : Prop := fnWindowsRow.holds Try.pinned (OpenSpec.ofChange fnWindowsWrong)

/-- 'laws.FnIdRoutes': WHATEVER THE INPUT: true; the input reads as it did. -/
def fnIdRoutesSpec : ChangeSpec := { name := "fnIdRoutes", fn := fun _ => fun
  | [d] => { results := [.lit (.bool true)], args := [d] }
  | _ => none }
def fnIdRoutesRow : OpenClaim := { program := "ytbbppknnkghkjaa", sum := "039724837fb1e8d388761e5929ed405314a76439c03042d438f17a302965cd8d", func := "loop.example/g00986/laws.FnIdRoutes", spec := "fnIdRoutes", unfollowed := true, recurses := true, apart := false }
def FnIdRoutesSaid : Prop := fnIdRoutesRow.holds Try.pinned (OpenSpec.ofChange fnIdRoutesSpec)

/-- ITS FALSE NEIGHBOUR: 'it returns false'. Refute it at one input. -/
def fnIdRoutesWrong : ChangeSpec := { name := "fnIdRoutes", fn := fun _ => fun
  | [d] => { results := [.lit (.bool false)], args := [d] }
  | _ => none }
def FnIdRoutesWrongFalsely : Prop := fnIdRoutesRow.holds Try.pinned (OpenSpec.ofChange fnIdRoutesWrong)

/-- 'laws.FnExactNodeId': WHATEVER THE INPUT: true; the input reads as it did. -/
def fnExactNodeIdSpec : ChangeSpec := { name := "fnExactNodeId", fn := fun _ => fun
  | [d1, d2, d3, d4] => { results := [.lit (.bool true)], args := [d1, d2, d3, d4] }
  | _ => none }
def fnExactNodeIdRow : OpenClaim := { program := "ytbbppknnkghkjaa", sum := "039724837fb1e8d388761e5929ed405314a76439c03042d438f17a302965cd8d", func := "loop.example/g00986/laws.FnExactNodeId", spec := "fnExactNodeId", unfollowed := true, recurses := true, apart := false }
def FnExactNodeIdSaid : Prop := fnExactNodeIdRow.holds Try.pinned (OpenSpec.ofChange fnExactNodeIdSpec)

/-- ITS FALSE NEIGHBOUR: 'it returns false'. Refute it at one input. -/
def fnExactNodeIdWrong : ChangeSpec := { name := "fnExactNodeId", fn := fun _ => fun
  | [d1, d2, d3, d4] => { results := [.lit (.bool false)], args := [d1, d2, d3, d4] }
  | _ => none }
def FnExactNodeIdWrongFalsely : Prop := fnExactNodeIdRow.holds Try.pinned (OpenSpec.ofChange fnExactNodeIdWrong)

/-- 'laws.FnExactAllocate': WHATEVER THE INPUT: true; the input reads as it did. -/
def fnExactAllocateSpec : ChangeSpec := { name := "fnExactAllocate", fn := fun _ => fun
  | [d1, d2] => { results := [.lit (.bool true)], args := [d1, d2] }
  | _ => none }
def fnExactAllocateRow : OpenClaim := { program := "ytbbppknnkghkjaa", sum := "039724837fb1e8d388761e5929ed405314a76439c03042d438f17a302965cd8d", func := "loop.example/g00986/laws.FnExactAllocate", spec := "fnExactAllocate", unfollowed := true, recurses := true, apart := false }
def FnExactAllocateSaid : Prop := fnExactAllocateRow.holds Try.pinned (OpenSpec.ofChange fnExactAllocateSpec)

/-- ITS FALSE NEIGHBOUR: 'it returns false'. Refute it at one input. -/
def fnExactAllocateWrong : ChangeSpec := { name := "fnExactAllocate", fn := fun _ => fun
  | [d1, d2] => { results := [.lit (.bool false)], args := [d1, d2] }
  | _ => none }
def FnExactAllocateWrongFalsely : Prop := fnExactAllocateRow.holds Try.pinned (OpenSpec.ofChange fnExactAllocateWrong)

/-- 'laws.FnExactOwnerOfId': WHATEVER THE INPUT: true; the input reads as it did. -/
def fnExactOwnerOfIdSpec : ChangeSpec := { name := "fnExactOwnerOfId", fn := fun _ => fun
  | [d1, d2, d3] => { results := [.lit (.bool true)], args := [d1, d2, d3] }
  | _ => none }
def fnExactOwnerOfIdRow : OpenClaim := { program := "ytbbppknnkghkjaa", sum := "039724837fb1e8d388761e5929ed405314a76439c03042d438f17a302965cd8d", func := "loop.example/g00986/laws.FnExactOwnerOfId", spec := "fnExactOwnerOfId", unfollowed := true, recurses := true, apart := false }
def FnExactOwnerOfIdSaid : Prop := fnExactOwnerOfIdRow.holds Try.pinned (OpenSpec.ofChange fnExactOwnerOfIdSpec)

/-- ITS FALSE NEIGHBOUR: 'it returns false'. Refute it at one input. -/
def fnExactOwnerOfIdWrong : ChangeSpec := { name := "fnExactOwnerOfId", fn := fun _ => fun
  | [d1, d2, d3] => { results := [.lit (.bool false)], args := [d1, d2, d3] }
  | _ => none }
def FnExactOwnerOfIdWrongFalsely : Prop := fnExactOwnerOfIdRow.holds Try.pinned (OpenSpec.ofChange fnExactOwnerOfIdWrong)

/- THE SECOND FORM. 'bulk': how many values and letters a reading holds, each counted each time it is reached (what is shared counts as often as it is met; a slice's spare places count too). A statement '..UptoSaid' is the law's where the arguments, and the package variables that the reading takes, are together of bulk at most 1048576: NARROWER than '..Said'. Prove '..Said' where nothing that the law and all that it calls make is longer than what came in: it says more and counts as full. Else prove '..UptoSaid'. A law counts once. -/
mutual
def uptoBulk {H : Type} : DataW H → Nat
  | .lit (.string bytes) => bytes.length + 1
  | .lit _ => 1
  | .nil => 1
  | .ptr d => uptoBulk d + 1
  | .slice elems spare => uptoBulkAll elems + uptoBulkAll spare + 1
  | .agg parts => uptoBulkAll parts + 1
  | .iface _ d => uptoBulk d + 1
  | .map entries => uptoBulkEntries entries + 1
  | .held _ => 1
def uptoBulkAll {H : Type} : List (DataW H) → Nat
  | [] => 0
  | d :: r => uptoBulk d + uptoBulkAll r
def uptoBulkEntries {H : Type} : List (Lit × DataW H) → Nat
  | [] => 0
  | x :: r => uptoBulkEntry x + uptoBulkEntries r
def uptoBulkEntry {H : Type} : Lit × DataW H → Nat
  | (.string bytes, d) => bytes.length + uptoBulk d + 1
  | (_, d) => uptoBulk d + 1
 end
def uptoSmall : (H : Type) → List (DataW H) → Bool := fun _ ds => decide (uptoBulkAll ds ≤ 1048576)
def OpenSpec.upto (s : _root_.Go.ChangeSpec) : _root_.Go.OpenSpec := { _root_.Go.OpenSpec.ofChange s with cond := some uptoSmall }

/-- 'laws.FnExactDownToId', WHERE WHAT IT READS IS OF BULK AT MOST 1048576: true; the input reads as it did. -/
def fnExactDownToIdUptoRow : OpenClaim := { program := "ytbbppknnkghkjaa", sum := "039724837fb1e8d388761e5929ed405314a76439c03042d438f17a302965cd8d", func := "loop.example/g00986/laws.FnExactDownToId", spec := "fnExactDownToId", unfollowed := true, recurses := true, apart := false, narrowed := true }
def FnExactDownToIdUptoSaid : Prop := fnExactDownToIdUptoRow.holds Try.pinned (OpenSpec.upto fnExactDownToIdSpec)

/-- 'laws.FnExactRouteToId', WHERE WHAT IT READS IS OF BULK AT MOST 1048576: true; the input reads as it did. -/
def fnExactRouteToIdUptoRow : OpenClaim := { program := "ytbbppknnkghkjaa", sum := "039724837fb1e8d388761e5929ed405314a76439c03042d438f17a302965cd8d", func := "loop.example/g00986/laws.FnExactRouteToId", spec := "fnExactRouteToId", unfollowed := true, recurses := true, apart := false, narrowed := true }
def FnExactRouteToIdUptoSaid : Prop := fnExactRouteToIdUptoRow.holds Try.pinned (OpenSpec.upto fnExactRouteToIdSpec)

/-- 'laws.FnExactIsLocal', WHERE WHAT IT READS IS OF BULK AT MOST 1048576: true; the input reads as it did. -/
def fnExactIsLocalUptoRow : OpenClaim := { program := "ytbbppknnkghkjaa", sum := "039724837fb1e8d388761e5929ed405314a76439c03042d438f17a302965cd8d", func := "loop.example/g00986/laws.FnExactIsLocal", spec := "fnExactIsLocal", unfollowed := true, recurses := true, apart := false, narrowed := true }
def FnExactIsLocalUptoSaid : Prop := fnExactIsLocalUptoRow.holds Try.pinned (OpenSpec.upto fnExactIsLocalSpec)

/-- 'laws.FnBelow', WHERE WHAT IT READS IS OF BULK AT MOST 1048576: true; the input reads as it did. -/
def fnBelowUptoRow : OpenClaim := { program := "ytbbppknnkghkjaa", sum := "039724837fb1e8d388761e5929ed405314a76439c03042d438f17a302965cd8d", func := "loop.example/g00986/laws.FnBelow", spec := "fnBelow", unfollowed := true, recurses := true, apart := false, narrowed := true }
def FnBelowUptoSaid : Prop := fnBelowUptoRow.holds Try.pinned (OpenSpec.upto fnBelowSpec)

/-- 'laws.FnExactChildrenOf', WHERE WHAT IT READS IS OF BULK AT MOST 1048576: true; the input reads as it did. -/
def fnExactChildrenOfUptoRow : OpenClaim := { program := "ytbbppknnkghkjaa", sum := "039724837fb1e8d388761e5929ed405314a76439c03042d438f17a302965cd8d", func := "loop.example/g00986/laws.FnExactChildrenOf", spec := "fnExactChildrenOf", unfollowed := true, recurses := true, apart := false, narrowed := true }
def FnExactChildrenOfUptoSaid : Prop := fnExactChildrenOfUptoRow.holds Try.pinned (OpenSpec.upto fnExactChildrenOfSpec)

/-- 'laws.FnNumbers', WHERE WHAT IT READS IS OF BULK AT MOST 1048576: true; the input reads as it did. -/
def fnNumbersUptoRow : OpenClaim := { program := "ytbbppknnkghkjaa", sum := "039724837fb1e8d388761e5929ed405314a76439c03042d438f17a302965cd8d", func := "loop.example/g00986/laws.FnNumbers", spec := "fnNumbers", unfollowed := true, recurses := true, apart := false, narrowed := true }
def FnNumbersUptoSaid : Prop := fnNumbersUptoRow.holds Try.pinned (OpenSpec.upto fnNumbersSpec)

/-- 'laws.FnOwners', WHERE WHAT IT READS IS OF BULK AT MOST 1048576: true; the input reads as it did. -/
def fnOwnersUptoRow : OpenClaim := { program := "ytbbppknnkghkjaa", sum := "039724837fb1e8d388761e5929ed405314a76439c03042d438f17a302965cd8d", func := "loop.example/g00986/laws.FnOwners", spec := "fnOwners", unfollowed := true, recurses := true, apart := false, narrowed := true }
def FnOwnersUptoSaid : Prop := fnOwnersUptoRow.holds Try.pinned (OpenSpec.upto fnOwnersSpec)

/-- 'laws.FnExactWindowSize', WHERE WHAT IT READS IS OF BULK AT MOST 1048576: true; the input reads as it did. -/
def fnExactWindowSizeUptoRow : OpenClaim := { program := "ytbbppknnkghkjaa", sum := "039724837fb1e8d388761e5929ed405314a76439c03042d438f17a302965cd8d", func := "loop.example/g00986/laws.FnExactWindowSize", spec := "fnExactWindowSize", unfollowed := true, recurses := true, apart := false, narrowed := true }
def FnExactWindowSizeUptoSaid : Prop := fnExactWindowSizeUptoRow.holds Try.pinned (OpenSpec.upto fnExactWindowSizeSpec)

/-- 'laws.FnNobody', WHERE WHAT IT READS IS OF BULK AT MOST 1048576: true; the input reads as it did. -/
def fnNobodyUptoRow : OpenClaim := { program := "ytbbppknnkghkjaa", sum := "039724837fb1e8d388761e5929ed405314a76439c03042d438f17a302965cd8d", func := "loop.example/g00986/laws.FnNobody", spec := "fnNobody", unfollowed := true, recurses := true, apart := false, narrowed := true }
def FnNobodyUptoSaid : Prop := fnNobodyUptoRow.holds Try.pinned (OpenSpec.upto fnNobodySpec)

/-- 'laws.FnExactEnumerate', WHERE WHAT IT READS IS OF BULK AT MOST 1048576: true; the input reads as it did. -/
def fnExactEnumerateUptoRow : OpenClaim := { program := "ytbbppknnkghkjaa", sum := "039724837fb1e8d388761e5929ed405314a76439c03042d438f17a302965cd8d", func := "loop.example/g00986/laws.FnExactEnumerate", spec := "fnExactEnumerate", unfollowed := true, recurses := true, apart := false, narrowed := true }
def FnExactEnumerateUptoSaid : Prop := fnExactEnumerateUptoRow.holds Try.pinned (OpenSpec.upto fnExactEnumerateSpec)

/-- 'laws.FnWindows', WHERE WHAT IT READS IS OF BULK AT MOST 1048576: true; the input reads as it did. -/
def fnWindowsUptoRow : OpenClaim := { program := "ytbbppknnkghkjaa", sum := "039724837fb1e8d388761e5929ed405314a76439c03042d438f17a302965cd8d", func := "loop.example/g00986/laws.FnWindows", spec := "fnWindows", unfollowed := true, recurses := true, apart := false, narrowed := true }
def FnWindowsUptoSaid : Prop := fnWindowsUptoRow.holds Try.pinned (OpenSpec.upto fnWindowsSpec)

/-- 'laws.FnIdRoutes', WHERE WHAT IT READS IS OF BULK AT MOST 1048576: true; the input reads as it did. -/
def fnIdRoutesUptoRow : OpenClaim := { program := "ytbbppknnkghkjaa", sum := "039724837fb1e8d388761e5929ed405314a76439c03042d438f17a302965cd8d", func := "loop.example/g00986/laws.FnIdRoutes", spec := "fnIdRoutes", unfollowed := true, recurses := true, apart := false, narrowed := true }
def FnIdRoutesUptoSaid : Prop := fnIdRoutesUptoRow.holds Try.pinned (OpenSpec.upto fnIdRoutesSpec)

/-- 'laws.FnExactNodeId', WHERE WHAT IT READS IS OF BULK AT MOST 1048576: true; the input reads as it did. -/
def fnExactNodeIdUptoRow : OpenClaim := { program := "ytbbppknnkghkjaa", sum := "039724837fb1e8d388761e5929ed405314a76439c03042d438f17a302965cd8d", func := "loop.example/g00986/laws.FnExactNodeId", spec := "fnExactNodeId", unfollowed := true, recurses := true, apart := false, narrowed := true }
def FnExactNodeIdUptoSaid : Prop := fnExactNodeIdUptoRow.holds Try.pinned (OpenSpec.upto fnExactNodeIdSpec)

/-- 'laws.FnExactAllocate', WHERE WHAT IT READS IS OF BULK AT MOST 1048576: true; the input reads as it did. -/
def fnExactAllocateUptoRow : OpenClaim := { program := "ytbbppknnkghkjaa", sum := "039724837fb1e8d388761e5929ed405314a76439c03042d438f17a302965cd8d", func := "loop.example/g00986/laws.FnExactAllocate", spec := "fnExactAllocate", unfollowed := true, recurses := true, apart := false, narrowed := true }
def FnExactAllocateUptoSaid : Prop := fnExactAllocateUptoRow.holds Try.pinned (OpenSpec.upto fnExactAllocateSpec)

/-- 'laws.FnExactOwnerOfId', WHERE WHAT IT READS IS OF BULK AT MOST 1048576: true; the input reads as it did. -/
def fnExactOwnerOfIdUptoRow : OpenClaim := { program := "ytbbppknnkghkjaa", sum := "039724837fb1e8d388761e5929ed405314a76439c03042d438f17a302965cd8d", func := "loop.example/g00986/laws.FnExactOwnerOfId", spec := "fnExactOwnerOfId", unfollowed := true, recurses := true, apart := false, narrowed := true }
def FnExactOwnerOfIdUptoSaid : Prop := fnExactOwnerOfIdUptoRow.holds Try.pinned (OpenSpec.upto fnExactOwnerOfIdSpec)

end Rows
end Go.Proofs.Ytbbppknnkghkjaa
