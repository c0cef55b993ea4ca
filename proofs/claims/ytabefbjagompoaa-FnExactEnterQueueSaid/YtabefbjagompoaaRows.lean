/-
  No cell of these rows narrows 'for every input' (looked for: loops, veiled, ifaces, maps, wideKeys, modest, calm, conditions, laid).
  DERIVED. THE GIVEN ROWS OF THIS SEAT. 6 by the template 'for every input the law returns true; each argument reads behind the call as it read before'; 0 by the template 'total and deterministic' (their statements: YtabefbjagompoaaTotals.lean).
  GIVEN WITH THE SEED: the statements are not yours to turn. If you find one false, say at which input.
  Laid BY PROGRAM, IN A SANDBOX (cutbox-rows.mjs): the forced cells as the released guide's own fill.sh prints them over the translation 484fe6403b83a5c2… (all of the seat's roots in one cut). By AI agents, Wed Nov 11 2026. No macro, syntax, notation, axiom, sorry.
-/
import Derived.Test.YtabefbjagompoaaChecked
import GoSem.Claim
import GoSem.ClaimJoined
import GoSem.ClaimMapViews
import Derived.JoinedTies
import Derived.KernelRfl
namespace Go.Proofs.Ytabefbjagompoaa
/- THE CELL 'sum', in the pinned program and in every row, IS THE sha256 OF THE DUMP (.gsa) THAT YtabefbjagompoaaProg.lean LOADS. Nothing in Lean hashes anything: it is a label: what it is worth is what the hold of that sum in a sandbox is worth. -/
noncomputable def Try.pinned : Pinned := { name := "ytabefbjagompoaa", sum := "484fe6403b83a5c2cf0b14040a54887acdd8ec8a6e61ca057a68164cf127fbff", checked := Try.checked }
namespace Rows
def none {H : Type} : Left H := { results := [], args := [] }

/-- 'laws.FnPosted': WHATEVER THE INPUT: true; the input reads as it did. -/
def fnPostedSpec : ChangeSpec := { name := "fnPosted", fn := fun _ => fun
  | [d] => { results := [.lit (.bool true)], args := [d] }
  | _ => none }
def fnPostedRow : OpenClaim := { program := "ytabefbjagompoaa", sum := "484fe6403b83a5c2cf0b14040a54887acdd8ec8a6e61ca057a68164cf127fbff", func := "loop.example/g00986/laws.FnPosted", spec := "fnPosted", unfollowed := true, recurses := true, apart := false }
def FnPostedSaid : Prop := fnPostedRow.holds Try.pinned (OpenSpec.ofChange fnPostedSpec)

/-- ITS FALSE NEIGHBOUR: 'it returns false'. Refute it at one input. -/
def fnPostedWrong : ChangeSpec := { name := "fnPosted", fn := fun _ => fun
  | [d] => { results := [.lit (.bool false)], args := [d] }
  | _ => none }
def FnPostedWrongFalsely : Prop := fnPostedRow.holds Try.pinned (OpenSpec.ofChange fnPostedWrong)

/-- 'laws.FnExactNextOut': WHATEVER THE INPUT: true; the input reads as it did. -/
def fnExactNextOutSpec : ChangeSpec := { name := "fnExactNextOut", fn := fun _ => fun
  | [d] => { results := [.lit (.bool true)], args := [d] }
  | _ => none }
def fnExactNextOutRow : OpenClaim := { program := "ytabefbjagompoaa", sum := "484fe6403b83a5c2cf0b14040a54887acdd8ec8a6e61ca057a68164cf127fbff", func := "loop.example/g00986/laws.FnExactNextOut", spec := "fnExactNextOut", unfollowed := true, recurses := true, apart := false }
def FnExactNextOutSaid : Prop := fnExactNextOutRow.holds Try.pinned (OpenSpec.ofChange fnExactNextOutSpec)

/-- ITS FALSE NEIGHBOUR: 'it returns false'. Refute it at one input. -/
def fnExactNextOutWrong : ChangeSpec := { name := "fnExactNextOut", fn := fun _ => fun
  | [d] => { results := [.lit (.bool false)], args := [d] }
  | _ => none }
def FnExactNextOutWrongFalsely : Prop := fnExactNextOutRow.holds Try.pinned (OpenSpec.ofChange fnExactNextOutWrong)

/-- 'laws.FnExactBlockedBy': WHATEVER THE INPUT: true; the input reads as it did. -/
def fnExactBlockedBySpec : ChangeSpec := { name := "fnExactBlockedBy", fn := fun _ => fun
  | [d] => { results := [.lit (.bool true)], args := [d] }
  | _ => none }
def fnExactBlockedByRow : OpenClaim := { program := "ytabefbjagompoaa", sum := "484fe6403b83a5c2cf0b14040a54887acdd8ec8a6e61ca057a68164cf127fbff", func := "loop.example/g00986/laws.FnExactBlockedBy", spec := "fnExactBlockedBy", unfollowed := true, recurses := true, apart := false }
def FnExactBlockedBySaid : Prop := fnExactBlockedByRow.holds Try.pinned (OpenSpec.ofChange fnExactBlockedBySpec)

/-- ITS FALSE NEIGHBOUR: 'it returns false'. Refute it at one input. -/
def fnExactBlockedByWrong : ChangeSpec := { name := "fnExactBlockedBy", fn := fun _ => fun
  | [d] => { results := [.lit (.bool false)], args := [d] }
  | _ => none }
def FnExactBlockedByWrongFalsely : Prop := fnExactBlockedByRow.holds Try.pinned (OpenSpec.ofChange fnExactBlockedByWrong)

/-- 'laws.FnExactEnterQueue': WHATEVER THE INPUT: true; the input reads as it did. -/
def fnExactEnterQueueSpec : ChangeSpec := { name := "fnExactEnterQueue", fn := fun _ => fun
  | [d1, d2] => { results := [.lit (.bool true)], args := [d1, d2] }
  | _ => none }
def fnExactEnterQueueRow : OpenClaim := { program := "ytabefbjagompoaa", sum := "484fe6403b83a5c2cf0b14040a54887acdd8ec8a6e61ca057a68164cf127fbff", func := "loop.example/g00986/laws.FnExactEnterQueue", spec := "fnExactEnterQueue", unfollowed := true, recurses := true, apart := false }
def FnExactEnterQueueSaid : Prop := fnExactEnterQueueRow.holds Try.pinned (OpenSpec.ofChange fnExactEnterQueueSpec)

/-- ITS FALSE NEIGHBOUR: 'it returns false'. Refute it at one input. -/
def fnExactEnterQueueWrong : ChangeSpec := { name := "fnExactEnterQueue", fn := fun _ => fun
  | [d1, d2] => { results := [.lit (.bool false)], args := [d1, d2] }
  | _ => none }
def FnExactEnterQueueWrongFalsely : Prop := fnExactEnterQueueRow.holds Try.pinned (OpenSpec.ofChange fnExactEnterQueueWrong)

/-- 'laws.FnExactForwardNext': WHATEVER THE INPUT: true; the input reads as it did. -/
def fnExactForwardNextSpec : ChangeSpec := { name := "fnExactForwardNext", fn := fun _ => fun
  | [d] => { results := [.lit (.bool true)], args := [d] }
  | _ => none }
def fnExactForwardNextRow : OpenClaim := { program := "ytabefbjagompoaa", sum := "484fe6403b83a5c2cf0b14040a54887acdd8ec8a6e61ca057a68164cf127fbff", func := "loop.example/g00986/laws.FnExactForwardNext", spec := "fnExactForwardNext", unfollowed := true, recurses := true, apart := false }
def FnExactForwardNextSaid : Prop := fnExactForwardNextRow.holds Try.pinned (OpenSpec.ofChange fnExactForwardNextSpec)

/-- ITS FALSE NEIGHBOUR: 'it returns false'. Refute it at one input. -/
def fnExactForwardNextWrong : ChangeSpec := { name := "fnExactForwardNext", fn := fun _ => fun
  | [d] => { results := [.lit (.bool false)], args := [d] }
  | _ => none }
def FnExactForwardNextWrongFalsely : Prop := fnExactForwardNextRow.holds Try.pinned (OpenSpec.ofChange fnExactForwardNextWrong)

/-- 'laws.FnExactForwardAll': WHATEVER THE INPUT: true; the input reads as it did. -/
def fnExactForwardAllSpec : ChangeSpec := { name := "fnExactForwardAll", fn := fun _ => fun
  | [d] => { results := [.lit (.bool true)], args := [d] }
  | _ => none }
def fnExactForwardAllRow : OpenClaim := { program := "ytabefbjagompoaa", sum := "484fe6403b83a5c2cf0b14040a54887acdd8ec8a6e61ca057a68164cf127fbff", func := "loop.example/g00986/laws.FnExactForwardAll", spec := "fnExactForwardAll", unfollowed := true, recurses := true, apart := false }
def FnExactForwardAllSaid : Prop := fnExactForwardAllRow.holds Try.pinned (OpenSpec.ofChange fnExactForwardAllSpec)

/-- ITS FALSE NEIGHBOUR: 'it returns false'. Refute it at one input. -/
def fnExactForwardAllWrong : ChangeSpec := { name := "fnExactForwardAll", fn := fun _ => fun
  | [d] => { results := [.lit (.bool false)], args := [d] }
  | _ => none }
def FnExactForwardAllWrongFalsely : Prop := fnExactForwardAllRow.holds Try.pinned (OpenSpec.ofChange fnExactForwardAllWrong)

/- THE SECOND FORM. 'bulk': how many values and letters a reading holds, each counted each time it is reached (what is shared counts as often as it is met; a slice's spare places count too). A statement '..UptoSaid' is the law's where the arguments, and the package variables that the reading takes, are together of bulk at most 1048576: NARROWER than '..Said'. Prove '..Said' where nothing that the law and all that it calls make is longer than what came in: it says more and counts as full. Else prove '..UptoSaid'. A law counts once. -/
mutual
def uptoBulk {H : Type} : DataW H → Nat
  | .lit (.string bytes) => bytes.length + 1
  | .lit _ => 1
  | .nil => 1
  | .ptr d => uptoBulk d + 1
  | .slice elems spare => uptoBulkAll elems + uptoBulkAll spare + 1
  | .agg parts => uptoBulkAll parts + 1
  | .iface _ d => uptoBulk d + 1
  | .map entries => uptoBulkEntries entries + 1
  | .held _ => 1
def uptoBulkAll {H : Type} : List (DataW H) → Nat
  | [] => 0
  | d :: r => uptoBulk d + uptoBulkAll r
def uptoBulkEntries {H : Type} : List (Lit × DataW H) → Nat
  | [] => 0
  | x :: r => uptoBulkEntry x + uptoBulkEntries r
def uptoBulkEntry {H : Type} : Lit × DataW H → Nat
  | (.string bytes, d) => bytes.length + uptoBulk d + 1
  | (_, d) => uptoBulk d + 1
 end
def uptoSmall : (H : Type) → List (DataW H) → Bool := fun _ ds => decide (uptoBulkAll ds ≤ 1048576)
def OpenSpec.upto (s : _root_.Go.ChangeSpec) : _root_.Go.OpenSpec := { _root_.Go.OpenSpec.ofChange s with cond := some uptoSmall }

/-- 'laws.FnPosted', WHERE WHAT IT READS IS OF BULK AT MOST 1048576: true; the input reads as it did. -/
def fnPostedUptoRow : OpenClaim := { program := "ytabefbjagompoaa", sum := "484fe6403b83a5c2cf0b14040a54887acdd8ec8a6e61ca057a68164cf127fbff", func := "loop.example/g00986/laws.FnPosted", spec := "fnPosted", unfollowed := true, recurses := true, apart := false, narrowed := true }
def FnPostedUptoSaid : Prop := fnPostedUptoRow.holds Try.pinned (OpenSpec.upto fnPostedSpec)

/-- 'laws.FnExactNextOut', WHERE WHAT IT READS IS OF BULK AT MOST 1048576: true; the input reads as it did. -/
def fnExactNextOutUptoRow : OpenClaim := { program := "ytabefbjagompoaa", sum := "484fe6403b83a5c2cf0b14040a54887acdd8ec8a6e61ca057a68164cf127fbff", func := "loop.example/g00986/laws.FnExactNextOut", spec := "fnExactNextOut", unfollowed := true, recurses := true, apart := false, narrowed := true }
def FnExactNextOutUptoSaid : Prop := fnExactNextOutUptoRow.holds Try.pinned (OpenSpec.upto fnExactNextOutSpec)

/-- 'laws.FnExactBlockedBy', WHERE WHAT IT READS IS OF BULK AT MOST 1048576: true; the input reads as it did. -/
def fnExactBlockedByUptoRow : OpenClaim := { program := "ytabefbjagompoaa", sum := "484fe6403b83a5c2cf0b14040a54887acdd8ec8a6e61ca057a68164cf127fbff", func := "loop.example/g00986/laws.FnExactBlockedBy", spec := "fnExactBlockedBy", unfollowed := true, recurses := true, apart := false, narrowed := true }
def FnExactBlockedByUptoSaid : Prop := fnExactBlockedByUptoRow.holds Try.pinned (OpenSpec.upto fnExactBlockedBySpec)

/-- 'laws.FnExactEnterQueue', WHERE WHAT IT READS IS OF BULK AT MOST 1048576: true; the input reads as it did. -/
def fnExactEnterQueueUptoRow : OpenClaim := { program := "ytabefbjagompoaa", sum := "484fe6403b83a5c2cf0b14040a54887acdd8ec8a6e61ca057a68164cf127fbff", func := "loop.example/g00986/laws.FnExactEnterQueue", spec := "fnExactEnterQueue", unfollowed := true, recurses := true, apart := false, narrowed := true }
def FnExactEnterQueueUptoSaid : Prop := fnExactEnterQueueUptoRow.holds Try.pinned (OpenSpec.upto fnExactEnterQueueSpec)

/-- 'laws.FnExactForwardNext', WHERE WHAT IT READS IS OF BULK AT MOST 1048576: true; the input reads as it did. -/
def fnExactForwardNextUptoRow : OpenClaim := { program := "ytabefbjagompoaa", sum := "484fe6403b83a5c2cf0b14040a54887acdd8ec8a6e61ca057a68164cf127fbff", func := "loop.example/g00986/laws.FnExactForwardNext", spec := "fnExactForwardNext", unfollowed := true, recurses := true, apart := false, narrowed := true }
def FnExactForwardNextUptoSaid : Prop := fnExactForwardNextUptoRow.holds Try.pinned (OpenSpec.upto fnExactForwardNextSpec)

/-- 'laws.FnExactForwardAll', WHERE WHAT IT READS IS OF BULK AT MOST 1048576: true; the input reads as it did. -/
def fnExactForwardAllUptoRow : OpenClaim := { program := "ytabefbjagompoaa", sum := "484fe6403b83a5c2cf0b14040a54887acdd8ec8a6e61ca057a68164cf127fbff", func := "loop.example/g00986/laws.FnExactForwardAll", spec := "fnExactForwardAll", unfollowed := true, recurses := true, apart := false, narrowed := true }
def FnExactForwardAllUptoSaid : Prop := fnExactForwardAllUptoRow.holds Try.pinned (OpenSpec.upto fnExactForwardAllSpec)

end Rows
end Go.Proofs.Ytabefbjagompoaa
