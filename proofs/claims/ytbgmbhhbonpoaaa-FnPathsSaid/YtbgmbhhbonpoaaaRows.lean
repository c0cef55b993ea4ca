/-
  No cell of these rows narrows 'for every input' (looked for: loops, veiled, ifaces, maps, wideKeys, modest, calm, conditions, laid).
  DERIVED. THE GIVEN ROWS OF THIS SEAT. 8 by the template 'for every input the law returns true; each argument reads behind the call as it read before'; 0 by the template 'total and deterministic' (their statements: YtbgmbhhbonpoaaaTotals.lean).
  GIVEN WITH THE SEED: the statements are not yours to turn. If you find one false, say at which input.
  Laid BY PROGRAM, IN A SANDBOX (cutbox-rows.mjs): the forced cells as the released guide's own fill.sh prints them over the translation 9d7dd35768b49c1b… (all of the seat's roots in one cut). By AI agents, Wed Nov 11 2026. No macro, syntax, notation, axiom, sorry.
-/
import Derived.Test.YtbgmbhhbonpoaaaChecked
import GoSem.Claim
import GoSem.ClaimJoined
import GoSem.ClaimMapViews
import Derived.JoinedTies
import Derived.KernelRfl
namespace Go.Proofs.Ytbgmbhhbonpoaaa
/- THE CELL 'sum', in the pinned program and in every row, IS THE sha256 OF THE DUMP (.gsa) THAT YtbgmbhhbonpoaaaProg.lean LOADS. Nothing in Lean hashes anything: it is a label: what it is worth is what the hold of that sum in a sandbox is worth. -/
noncomputable def Try.pinned : Pinned := { name := "ytbgmbhhbonpoaaa", sum := "9d7dd35768b49c1bffed808d1f77302fda7a45e688941a21b1c05262aaf16999", checked := Try.checked }
namespace Rows
def none {H : Type} : Left H := { results := [], args := [] }

/-- 'laws.FnExactTreeOk': WHATEVER THE INPUT: true; the input reads as it did. -/
def fnExactTreeOkSpec : ChangeSpec := { name := "fnExactTreeOk", fn := fun _ => fun
  | [d] => { results := [.lit (.bool true)], args := [d] }
  | _ => none }
def fnExactTreeOkRow : OpenClaim := { program := "ytbgmbhhbonpoaaa", sum := "9d7dd35768b49c1bffed808d1f77302fda7a45e688941a21b1c05262aaf16999", func := "loop.example/g00986/laws.FnExactTreeOk", spec := "fnExactTreeOk", unfollowed := true, recurses := true, apart := false }
def FnExactTreeOkSaid : Prop := fnExactTreeOkRow.holds Try.pinned (OpenSpec.ofChange fnExactTreeOkSpec)

/-- ITS FALSE NEIGHBOUR: 'it returns false'. Refute it at one input. -/
def fnExactTreeOkWrong : ChangeSpec := { name := "fnExactTreeOk", fn := fun _ => fun
  | [d] => { results := [.lit (.bool false)], args := [d] }
  | _ => none }
def FnExactTreeOkWrongFalsely : Prop := fnExactTreeOkRow.holds Try.pinned (OpenSpec.ofChange fnExactTreeOkWrong)

/-- 'laws.FnExactIsBelow': WHATEVER THE INPUT: true; the input reads as it did. -/
def fnExactIsBelowSpec : ChangeSpec := { name := "fnExactIsBelow", fn := fun _ => fun
  | [d1, d2, d3] => { results := [.lit (.bool true)], args := [d1, d2, d3] }
  | _ => none }
def fnExactIsBelowRow : OpenClaim := { program := "ytbgmbhhbonpoaaa", sum := "9d7dd35768b49c1bffed808d1f77302fda7a45e688941a21b1c05262aaf16999", func := "loop.example/g00986/laws.FnExactIsBelow", spec := "fnExactIsBelow", unfollowed := true, recurses := true, apart := false }
def FnExactIsBelowSaid : Prop := fnExactIsBelowRow.holds Try.pinned (OpenSpec.ofChange fnExactIsBelowSpec)

/-- ITS FALSE NEIGHBOUR: 'it returns false'. Refute it at one input. -/
def fnExactIsBelowWrong : ChangeSpec := { name := "fnExactIsBelow", fn := fun _ => fun
  | [d1, d2, d3] => { results := [.lit (.bool false)], args := [d1, d2, d3] }
  | _ => none }
def FnExactIsBelowWrongFalsely : Prop := fnExactIsBelowRow.holds Try.pinned (OpenSpec.ofChange fnExactIsBelowWrong)

/-- 'laws.FnPaths': WHATEVER THE INPUT: true; the input reads as it did. -/
def fnPathsSpec : ChangeSpec := { name := "fnPaths", fn := fun _ => fun
  | [d] => { results := [.lit (.bool true)], args := [d] }
  | _ => none }
def fnPathsRow : OpenClaim := { program := "ytbgmbhhbonpoaaa", sum := "9d7dd35768b49c1bffed808d1f77302fda7a45e688941a21b1c05262aaf16999", func := "loop.example/g00986/laws.FnPaths", spec := "fnPaths", unfollowed := true, recurses := true, apart := false }
def FnPathsSaid : Prop := fnPathsRow.holds Try.pinned (OpenSpec.ofChange fnPathsSpec)

/-- ITS FALSE NEIGHBOUR: 'it returns false'. Refute it at one input. -/
def fnPathsWrong : ChangeSpec := { name := "fnPaths", fn := fun _ => fun
  | [d] => { results := [.lit (.bool false)], args := [d] }
  | _ => none }
def FnPathsWrongFalsely : Prop := fnPathsRow.holds Try.pinned (OpenSpec.ofChange fnPathsWrong)

/-- 'laws.FnExactPathTo': WHATEVER THE INPUT: true; the input reads as it did. -/
def fnExactPathToSpec : ChangeSpec := { name := "fnExactPathTo", fn := fun _ => fun
  | [d1, d2] => { results := [.lit (.bool true)], args := [d1, d2] }
  | _ => none }
def fnExactPathToRow : OpenClaim := { program := "ytbgmbhhbonpoaaa", sum := "9d7dd35768b49c1bffed808d1f77302fda7a45e688941a21b1c05262aaf16999", func := "loop.example/g00986/laws.FnExactPathTo", spec := "fnExactPathTo", unfollowed := true, recurses := true, apart := false }
def FnExactPathToSaid : Prop := fnExactPathToRow.holds Try.pinned (OpenSpec.ofChange fnExactPathToSpec)

/-- ITS FALSE NEIGHBOUR: 'it returns false'. Refute it at one input. -/
def fnExactPathToWrong : ChangeSpec := { name := "fnExactPathTo", fn := fun _ => fun
  | [d1, d2] => { results := [.lit (.bool false)], args := [d1, d2] }
  | _ => none }
def FnExactPathToWrongFalsely : Prop := fnExactPathToRow.holds Try.pinned (OpenSpec.ofChange fnExactPathToWrong)

/-- 'laws.FnExactOwnerOfAddress': WHATEVER THE INPUT: true; the input reads as it did. -/
def fnExactOwnerOfAddressSpec : ChangeSpec := { name := "fnExactOwnerOfAddress", fn := fun _ => fun
  | [d1, d2, d3] => { results := [.lit (.bool true)], args := [d1, d2, d3] }
  | _ => none }
def fnExactOwnerOfAddressRow : OpenClaim := { program := "ytbgmbhhbonpoaaa", sum := "9d7dd35768b49c1bffed808d1f77302fda7a45e688941a21b1c05262aaf16999", func := "loop.example/g00986/laws.FnExactOwnerOfAddress", spec := "fnExactOwnerOfAddress", unfollowed := true, recurses := true, apart := false }
def FnExactOwnerOfAddressSaid : Prop := fnExactOwnerOfAddressRow.holds Try.pinned (OpenSpec.ofChange fnExactOwnerOfAddressSpec)

/-- ITS FALSE NEIGHBOUR: 'it returns false'. Refute it at one input. -/
def fnExactOwnerOfAddressWrong : ChangeSpec := { name := "fnExactOwnerOfAddress", fn := fun _ => fun
  | [d1, d2, d3] => { results := [.lit (.bool false)], args := [d1, d2, d3] }
  | _ => none }
def FnExactOwnerOfAddressWrongFalsely : Prop := fnExactOwnerOfAddressRow.holds Try.pinned (OpenSpec.ofChange fnExactOwnerOfAddressWrong)

/-- 'laws.FnExactSizesOk': WHATEVER THE INPUT: true; the input reads as it did. -/
def fnExactSizesOkSpec : ChangeSpec := { name := "fnExactSizesOk", fn := fun _ => fun
  | [d1, d2] => { results := [.lit (.bool true)], args := [d1, d2] }
  | _ => none }
def fnExactSizesOkRow : OpenClaim := { program := "ytbgmbhhbonpoaaa", sum := "9d7dd35768b49c1bffed808d1f77302fda7a45e688941a21b1c05262aaf16999", func := "loop.example/g00986/laws.FnExactSizesOk", spec := "fnExactSizesOk", unfollowed := true, recurses := true, apart := false }
def FnExactSizesOkSaid : Prop := fnExactSizesOkRow.holds Try.pinned (OpenSpec.ofChange fnExactSizesOkSpec)

/-- ITS FALSE NEIGHBOUR: 'it returns false'. Refute it at one input. -/
def fnExactSizesOkWrong : ChangeSpec := { name := "fnExactSizesOk", fn := fun _ => fun
  | [d1, d2] => { results := [.lit (.bool false)], args := [d1, d2] }
  | _ => none }
def FnExactSizesOkWrongFalsely : Prop := fnExactSizesOkRow.holds Try.pinned (OpenSpec.ofChange fnExactSizesOkWrong)

/-- 'laws.FnExactIsNested': WHATEVER THE INPUT: true; the input reads as it did. -/
def fnExactIsNestedSpec : ChangeSpec := { name := "fnExactIsNested", fn := fun _ => fun
  | [d1, d2] => { results := [.lit (.bool true)], args := [d1, d2] }
  | _ => none }
def fnExactIsNestedRow : OpenClaim := { program := "ytbgmbhhbonpoaaa", sum := "9d7dd35768b49c1bffed808d1f77302fda7a45e688941a21b1c05262aaf16999", func := "loop.example/g00986/laws.FnExactIsNested", spec := "fnExactIsNested", unfollowed := true, recurses := true, apart := false }
def FnExactIsNestedSaid : Prop := fnExactIsNestedRow.holds Try.pinned (OpenSpec.ofChange fnExactIsNestedSpec)

/-- ITS FALSE NEIGHBOUR: 'it returns false'. Refute it at one input. -/
def fnExactIsNestedWrong : ChangeSpec := { name := "fnExactIsNested", fn := fun _ => fun
  | [d1, d2] => { results := [.lit (.bool false)], args := [d1, d2] }
  | _ => none }
def FnExactIsNestedWrongFalsely : Prop := fnExactIsNestedRow.holds Try.pinned (OpenSpec.ofChange fnExactIsNestedWrong)

/-- 'laws.FnExactPathBetween': WHATEVER THE INPUT: true; the input reads as it did. -/
def fnExactPathBetweenSpec : ChangeSpec := { name := "fnExactPathBetween", fn := fun _ => fun
  | [d1, d2, d3] => { results := [.lit (.bool true)], args := [d1, d2, d3] }
  | _ => none }
def fnExactPathBetweenRow : OpenClaim := { program := "ytbgmbhhbonpoaaa", sum := "9d7dd35768b49c1bffed808d1f77302fda7a45e688941a21b1c05262aaf16999", func := "loop.example/g00986/laws.FnExactPathBetween", spec := "fnExactPathBetween", unfollowed := true, recurses := true, apart := false }
def FnExactPathBetweenSaid : Prop := fnExactPathBetweenRow.holds Try.pinned (OpenSpec.ofChange fnExactPathBetweenSpec)

/-- ITS FALSE NEIGHBOUR: 'it returns false'. Refute it at one input. -/
def fnExactPathBetweenWrong : ChangeSpec := { name := "fnExactPathBetween", fn := fun _ => fun
  | [d1, d2, d3] => { results := [.lit (.bool false)], args := [d1, d2, d3] }
  | _ => none }
def FnExactPathBetweenWrongFalsely : Prop := fnExactPathBetweenRow.holds Try.pinned (OpenSpec.ofChange fnExactPathBetweenWrong)

/- THE SECOND FORM. 'bulk': how many values and letters a reading holds, each counted each time it is reached (what is shared counts as often as it is met; a slice's spare places count too). A statement '..UptoSaid' is the law's where the arguments, and the package variables that the reading takes, are together of bulk at most 1048576: NARROWER than '..Said'. Prove '..Said' where nothing that the law and all that it calls make is longer than what came in: it says more and counts as full. Else prove '..UptoSaid'. A law counts once. -/
mutual
def uptoBulk {H : Type} : DataW H → Nat
  | .lit (.string bytes) => bytes.length + 1
  | .lit _ => 1
  | .nil => 1
  | .ptr d => uptoBulk d + 1
  | .slice elems spare => uptoBulkAll elems + uptoBulkAll spare + 1
  | .agg parts => uptoBulkAll parts + 1
  | .iface _ d => uptoBulk d + 1
  | .map entries => uptoBulkEntries entries + 1
  | .held _ => 1
def uptoBulkAll {H : Type} : List (DataW H) → Nat
  | [] => 0
  | d :: r => uptoBulk d + uptoBulkAll r
def uptoBulkEntries {H : Type} : List (Lit × DataW H) → Nat
  | [] => 0
  | x :: r => uptoBulkEntry x + uptoBulkEntries r
def uptoBulkEntry {H : Type} : Lit × DataW H → Nat
  | (.string bytes, d) => bytes.length + uptoBulk d + 1
  | (_, d) => uptoBulk d + 1
 end
def uptoSmall : (H : Type) → List (DataW H) → Bool := fun _ ds => decide (uptoBulkAll ds ≤ 1048576)
def OpenSpec.upto (s : _root_.Go.ChangeSpec) : _root_.Go.OpenSpec := { _root_.Go.OpenSpec.ofChange s with cond := some uptoSmall }

/-- 'laws.FnExactTreeOk', WHERE WHAT IT READS IS OF BULK AT MOST 1048576: true; the input reads as it did. -/
def fnExactTreeOkUptoRow : OpenClaim := { program := "ytbgmbhhbonpoaaa", sum := "9d7dd35768b49c1bffed808d1f77302fda7a45e688941a21b1c05262aaf16999", func := "loop.example/g00986/laws.FnExactTreeOk", spec := "fnExactTreeOk", unfollowed := true, recurses := true, apart := false, narrowed := true }
def FnExactTreeOkUptoSaid : Prop := fnExactTreeOkUptoRow.holds Try.pinned (OpenSpec.upto fnExactTreeOkSpec)

/-- 'laws.FnExactIsBelow', WHERE WHAT IT READS IS OF BULK AT MOST 1048576: true; the input reads as it did. -/
def fnExactIsBelowUptoRow : OpenClaim := { program := "ytbgmbhhbonpoaaa", sum := "9d7dd35768b49c1bffed808d1f77302fda7a45e688941a21b1c05262aaf16999", func := "loop.example/g00986/laws.FnExactIsBelow", spec := "fnExactIsBelow", unfollowed := true, recurses := true, apart := false, narrowed := true }
def FnExactIsBelowUptoSaid : Prop := fnExactIsBelowUptoRow.holds Try.pinned (OpenSpec.upto fnExactIsBelowSpec)

/-- 'laws.FnPaths', WHERE WHAT IT READS IS OF BULK AT MOST 1048576: true; the input reads as it did. -/
def fnPathsUptoRow : OpenClaim := { program := "ytbgmbhhbonpoaaa", sum := "9d7dd35768b49c1bffed808d1f77302fda7a45e688941a21b1c05262aaf16999", func := "loop.example/g00986/laws.FnPaths", spec := "fnPaths", unfollowed := true, recurses := true, apart := false, narrowed := true }
def FnPathsUptoSaid : Prop := fnPathsUptoRow.holds Try.pinned (OpenSpec.upto fnPathsSpec)

/-- 'laws.FnExactPathTo', WHERE WHAT IT READS IS OF BULK AT MOST 1048576: true; the input reads as it did. -/
def fnExactPathToUptoRow : OpenClaim := { program := "ytbgmbhhbonpoaaa", sum := "9d7dd35768b49c1bffed808d1f77302fda7a45e688941a21b1c05262aaf16999", func := "loop.example/g00986/laws.FnExactPathTo", spec := "fnExactPathTo", unfollowed := true, recurses := true, apart := false, narrowed := true }
def FnExactPathToUptoSaid : Prop := fnExactPathToUptoRow.holds Try.pinned (OpenSpec.upto fnExactPathToSpec)

/-- 'laws.FnExactOwnerOfAddress', WHERE WHAT IT READS IS OF BULK AT MOST 1048576: true; the input reads as it did. -/
def fnExactOwnerOfAddressUptoRow : OpenClaim := { program := "ytbgmbhhbonpoaaa", sum := "9d7dd35768b49c1bffed808d1f77302fda7a45e688941a21b1c05262aaf16999", func := "loop.example/g00986/laws.FnExactOwnerOfAddress", spec := "fnExactOwnerOfAddress", unfollowed := true, recurses := true, apart := false, narrowed := true }
def FnExactOwnerOfAddressUptoSaid : Prop := fnExactOwnerOfAddressUptoRow.holds Try.pinned (OpenSpec.upto fnExactOwnerOfAddressSpec)

/-- 'laws.FnExactSizesOk', WHERE WHAT IT READS IS OF BULK AT MOST 1048576: true; the input reads as it did. -/
def fnExactSizesOkUptoRow : OpenClaim := { program := "ytbgmbhhbonpoaaa", sum := "9d7dd35768b49c1bffed808d1f77302fda7a45e688941a21b1c05262aaf16999", func := "loop.example/g00986/laws.FnExactSizesOk", spec := "fnExactSizesOk", unfollowed := true, recurses := true, apart := false, narrowed := true }
def FnExactSizesOkUptoSaid : Prop := fnExactSizesOkUptoRow.holds Try.pinned (OpenSpec.upto fnExactSizesOkSpec)

/-- 'laws.FnExactIsNested', WHERE WHAT IT READS IS OF BULK AT MOST 1048576: true; the input reads as it did. -/
def fnExactIsNestedUptoRow : OpenClaim := { program := "ytbgmbhhbonpoaaa", sum := "9d7dd35768b49c1bffed808d1f77302fda7a45e688941a21b1c05262aaf16999", func := "loop.example/g00986/laws.FnExactIsNested", spec := "fnExactIsNested", unfollowed := true, recurses := true, apart := false, narrowed := true }
def FnExactIsNestedUptoSaid : Prop := fnExactIsNestedUptoRow.holds Try.pinned (OpenSpec.upto fnExactIsNestedSpec)

/-- 'laws.FnExactPathBetween', WHERE WHAT IT READS IS OF BULK AT MOST 1048576: true; the input reads as it did. -/
def fnExactPathBetweenUptoRow : OpenClaim := { program := "ytbgmbhhbonpoaaa", sum := "9d7dd35768b49c1bffed808d1f77302fda7a45e688941a21b1c05262aaf16999", func := "loop.example/g00986/laws.FnExactPathBetween", spec := "fnExactPathBetween", unfollowed := true, recurses := true, apart := false, narrowed := true }
def FnExactPathBetweenUptoSaid : Prop := fnExactPathBetweenUptoRow.holds Try.pinned (OpenSpec.upto fnExactPathBetweenSpec)

end Rows
end Go.Proofs.Ytbgmbhhbonpoaaa
