/-
  No cell of these rows narrows 'for every input' (looked for: loops, veiled, ifaces, maps, wideKeys, modest, calm, conditions, laid).
  DERIVED. THE GIVEN ROWS OF THIS SEAT. 7 by the template 'for every input the law returns true; each argument reads behind the call as it read before'; 0 by the template 'total and deterministic' (their statements: YtgnadhokljjmnaaTotals.lean).
  GIVEN WITH THE SEED: the statements are not yours to turn. If you find one false, say at which input.
  Laid BY PROGRAM, IN A SANDBOX (cutbox-rows.mjs): the forced cells as the released guide's own fill.sh prints them over the translation 3754b90a09462dc5… (all of the seat's roots in one cut). By AI agents, Wed Nov 11 2026. No macro, syntax, notation, axiom, sorry.
-/
import Derived.Test.YtgnadhokljjmnaaChecked
import GoSem.Claim
import GoSem.ClaimJoined
import GoSem.ClaimMapViews
import Derived.JoinedTies
import Derived.KernelRfl
namespace Go.Proofs.Ytgnadhokljjmnaa
/- THE CELL 'sum', in the pinned program and in every row, IS THE sha256 OF THE DUMP (.gsa) THAT YtgnadhokljjmnaaProg.lean LOADS. Nothing in Lean hashes anything: it is a label: what it is worth is what the hold of that sum in a sandbox is worth. -/
noncomputable def Try.pinned : Pinned := { name := "ytgnadhokljjmnaa", sum := "3754b90a09462dc5227bb02ff204ba5f1934441a55004e3aef34fcaaf186e6b0", checked := Try.checked }
namespace Rows
def none {H : Type} : Left H := { results := [], args := [] }

/-- 'laws.FnExactRegistersOk': WHATEVER THE INPUT: true; the input reads as it did. -/
def fnExactRegistersOkSpec : ChangeSpec := { name := "fnExactRegistersOk", fn := fun _ => fun
  | [d] => { results := [.lit (.bool true)], args := [d] }
  | _ => none }
def fnExactRegistersOkRow : OpenClaim := { program := "ytgnadhokljjmnaa", sum := "3754b90a09462dc5227bb02ff204ba5f1934441a55004e3aef34fcaaf186e6b0", func := "loop.example/g00986/laws.FnExactRegistersOk", spec := "fnExactRegistersOk", unfollowed := true, recurses := true, apart := false }
def FnExactRegistersOkSaid : Prop := fnExactRegistersOkRow.holds Try.pinned (OpenSpec.ofChange fnExactRegistersOkSpec)

/-- ITS FALSE NEIGHBOUR: 'it returns false'. Refute it at one input. -/
def fnExactRegistersOkWrong : ChangeSpec := { name := "fnExactRegistersOk", fn := fun _ => fun
  | [d] => { results := [.lit (.bool false)], args := [d] }
  | _ => none }
def FnExactRegistersOkWrongFalsely : Prop := fnExactRegistersOkRow.holds Try.pinned (OpenSpec.ofChange fnExactRegistersOkWrong)

/-- 'laws.FnExactCapsOf': WHATEVER THE INPUT: true; the input reads as it did. -/
def fnExactCapsOfSpec : ChangeSpec := { name := "fnExactCapsOf", fn := fun _ => fun
  | [d] => { results := [.lit (.bool true)], args := [d] }
  | _ => none }
def fnExactCapsOfRow : OpenClaim := { program := "ytgnadhokljjmnaa", sum := "3754b90a09462dc5227bb02ff204ba5f1934441a55004e3aef34fcaaf186e6b0", func := "loop.example/g00986/laws.FnExactCapsOf", spec := "fnExactCapsOf", unfollowed := true, recurses := true, apart := false }
def FnExactCapsOfSaid : Prop := fnExactCapsOfRow.holds Try.pinned (OpenSpec.ofChange fnExactCapsOfSpec)

/-- ITS FALSE NEIGHBOUR: 'it returns false'. Refute it at one input. -/
def fnExactCapsOfWrong : ChangeSpec := { name := "fnExactCapsOf", fn := fun _ => fun
  | [d] => { results := [.lit (.bool false)], args := [d] }
  | _ => none }
def FnExactCapsOfWrongFalsely : Prop := fnExactCapsOfRow.holds Try.pinned (OpenSpec.ofChange fnExactCapsOfWrong)

/-- 'laws.FnExactFindCap': WHATEVER THE INPUT: true; the input reads as it did. -/
def fnExactFindCapSpec : ChangeSpec := { name := "fnExactFindCap", fn := fun _ => fun
  | [d1, d2] => { results := [.lit (.bool true)], args := [d1, d2] }
  | _ => none }
def fnExactFindCapRow : OpenClaim := { program := "ytgnadhokljjmnaa", sum := "3754b90a09462dc5227bb02ff204ba5f1934441a55004e3aef34fcaaf186e6b0", func := "loop.example/g00986/laws.FnExactFindCap", spec := "fnExactFindCap", unfollowed := true, recurses := true, apart := false }
def FnExactFindCapSaid : Prop := fnExactFindCapRow.holds Try.pinned (OpenSpec.ofChange fnExactFindCapSpec)

/-- ITS FALSE NEIGHBOUR: 'it returns false'. Refute it at one input. -/
def fnExactFindCapWrong : ChangeSpec := { name := "fnExactFindCap", fn := fun _ => fun
  | [d1, d2] => { results := [.lit (.bool false)], args := [d1, d2] }
  | _ => none }
def FnExactFindCapWrongFalsely : Prop := fnExactFindCapRow.holds Try.pinned (OpenSpec.ofChange fnExactFindCapWrong)

/-- 'laws.FnExactAddCap': WHATEVER THE INPUT: true; the input reads as it did. -/
def fnExactAddCapSpec : ChangeSpec := { name := "fnExactAddCap", fn := fun _ => fun
  | [d1, d2, d3] => { results := [.lit (.bool true)], args := [d1, d2, d3] }
  | _ => none }
def fnExactAddCapRow : OpenClaim := { program := "ytgnadhokljjmnaa", sum := "3754b90a09462dc5227bb02ff204ba5f1934441a55004e3aef34fcaaf186e6b0", func := "loop.example/g00986/laws.FnExactAddCap", spec := "fnExactAddCap", unfollowed := true, recurses := true, apart := false }
def FnExactAddCapSaid : Prop := fnExactAddCapRow.holds Try.pinned (OpenSpec.ofChange fnExactAddCapSpec)

/-- ITS FALSE NEIGHBOUR: 'it returns false'. Refute it at one input. -/
def fnExactAddCapWrong : ChangeSpec := { name := "fnExactAddCap", fn := fun _ => fun
  | [d1, d2, d3] => { results := [.lit (.bool false)], args := [d1, d2, d3] }
  | _ => none }
def FnExactAddCapWrongFalsely : Prop := fnExactAddCapRow.holds Try.pinned (OpenSpec.ofChange fnExactAddCapWrong)

/-- 'laws.FnExactDropCap': WHATEVER THE INPUT: true; the input reads as it did. -/
def fnExactDropCapSpec : ChangeSpec := { name := "fnExactDropCap", fn := fun _ => fun
  | [d1, d2] => { results := [.lit (.bool true)], args := [d1, d2] }
  | _ => none }
def fnExactDropCapRow : OpenClaim := { program := "ytgnadhokljjmnaa", sum := "3754b90a09462dc5227bb02ff204ba5f1934441a55004e3aef34fcaaf186e6b0", func := "loop.example/g00986/laws.FnExactDropCap", spec := "fnExactDropCap", unfollowed := true, recurses := true, apart := false }
def FnExactDropCapSaid : Prop := fnExactDropCapRow.holds Try.pinned (OpenSpec.ofChange fnExactDropCapSpec)

/-- ITS FALSE NEIGHBOUR: 'it returns false'. Refute it at one input. -/
def fnExactDropCapWrong : ChangeSpec := { name := "fnExactDropCap", fn := fun _ => fun
  | [d1, d2] => { results := [.lit (.bool false)], args := [d1, d2] }
  | _ => none }
def FnExactDropCapWrongFalsely : Prop := fnExactDropCapRow.holds Try.pinned (OpenSpec.ofChange fnExactDropCapWrong)

/-- 'laws.FnDrops': WHATEVER THE INPUT: true; the input reads as it did. -/
def fnDropsSpec : ChangeSpec := { name := "fnDrops", fn := fun _ => fun
  | [d] => { results := [.lit (.bool true)], args := [d] }
  | _ => none }
def fnDropsRow : OpenClaim := { program := "ytgnadhokljjmnaa", sum := "3754b90a09462dc5227bb02ff204ba5f1934441a55004e3aef34fcaaf186e6b0", func := "loop.example/g00986/laws.FnDrops", spec := "fnDrops", unfollowed := true, recurses := true, apart := false }
def FnDropsSaid : Prop := fnDropsRow.holds Try.pinned (OpenSpec.ofChange fnDropsSpec)

/-- ITS FALSE NEIGHBOUR: 'it returns false'. Refute it at one input. -/
def fnDropsWrong : ChangeSpec := { name := "fnDrops", fn := fun _ => fun
  | [d] => { results := [.lit (.bool false)], args := [d] }
  | _ => none }
def FnDropsWrongFalsely : Prop := fnDropsRow.holds Try.pinned (OpenSpec.ofChange fnDropsWrong)

/-- 'laws.FnCaps': WHATEVER THE INPUT: true; the input reads as it did. -/
def fnCapsSpec : ChangeSpec := { name := "fnCaps", fn := fun _ => fun
  | [d] => { results := [.lit (.bool true)], args := [d] }
  | _ => none }
def fnCapsRow : OpenClaim := { program := "ytgnadhokljjmnaa", sum := "3754b90a09462dc5227bb02ff204ba5f1934441a55004e3aef34fcaaf186e6b0", func := "loop.example/g00986/laws.FnCaps", spec := "fnCaps", unfollowed := true, recurses := true, apart := false }
def FnCapsSaid : Prop := fnCapsRow.holds Try.pinned (OpenSpec.ofChange fnCapsSpec)

/-- ITS FALSE NEIGHBOUR: 'it returns false'. Refute it at one input. -/
def fnCapsWrong : ChangeSpec := { name := "fnCaps", fn := fun _ => fun
  | [d] => { results := [.lit (.bool false)], args := [d] }
  | _ => none }
def FnCapsWrongFalsely : Prop := fnCapsRow.holds Try.pinned (OpenSpec.ofChange fnCapsWrong)

/- THE SECOND FORM. 'bulk': how many values and letters a reading holds, each counted each time it is reached (what is shared counts as often as it is met; a slice's spare places count too). A statement '..UptoSaid' is the law's where the arguments, and the package variables that the reading takes, are together of bulk at most 1048576: NARROWER than '..Said'. Prove '..Said' where nothing that the law and all that it calls make is longer than what came in: it says more and counts as full. Else prove '..UptoSaid'. A law counts once. -/
mutual
def uptoBulk {H : Type} : DataW H → Nat
  | .lit (.string bytes) => bytes.length + 1
  | .lit _ => 1
  | .nil => 1
  | .ptr d => uptoBulk d + 1
  | .slice elems spare => uptoBulkAll elems + uptoBulkAll spare + 1
  | .agg parts => uptoBulkAll parts + 1
  | .iface _ d => uptoBulk d + 1
  | .map entries => uptoBulkEntries entries + 1
  | .held _ => 1
def uptoBulkAll {H : Type} : List (DataW H) → Nat
  | [] => 0
  | d :: r => uptoBulk d + uptoBulkAll r
def uptoBulkEntries {H : Type} : List (Lit × DataW H) → Nat
  | [] => 0
  | x :: r => uptoBulkEntry x + uptoBulkEntries r
def uptoBulkEntry {H : Type} : Lit × DataW H → Nat
  | (.string bytes, d) => bytes.length + uptoBulk d + 1
  | (_, d) => uptoBulk d + 1
 end
def uptoSmall : (H : Type) → List (DataW H) → Bool := fun _ ds => decide (uptoBulkAll ds ≤ 1048576)
def OpenSpec.upto (s : _root_.Go.ChangeSpec) : _root_.Go.OpenSpec := { _root_.Go.OpenSpec.ofChange s with cond := some uptoSmall }

/-- 'laws.FnExactRegistersOk', WHERE WHAT IT READS IS OF BULK AT MOST 1048576: true; the input reads as it did. -/
def fnExactRegistersOkUptoRow : OpenClaim := { program := "ytgnadhokljjmnaa", sum := "3754b90a09462dc5227bb02ff204ba5f1934441a55004e3aef34fcaaf186e6b0", func := "loop.example/g00986/laws.FnExactRegistersOk", spec := "fnExactRegistersOk", unfollowed := true, recurses := true, apart := false, narrowed := true }
def FnExactRegistersOkUptoSaid : Prop := fnExactRegistersOkUptoRow.holds Try.pinned (OpenSpec.upto fnExactRegistersOkSpec)

/-- 'laws.FnExactCapsOf', WHERE WHAT IT READS IS OF BULK AT MOST 1048576: true; the input reads as it did. -/
def fnExactCapsOfUptoRow : OpenClaim := { program := "ytgnadhokljjmnaa", sum := "3754b90a09462dc5227bb02ff204ba5f1934441a55004e3aef34fcaaf186e6b0", func := "loop.example/g00986/laws.FnExactCapsOf", spec := "fnExactCapsOf", unfollowed := true, recurses := true, apart := false, narrowed := true }
def FnExactCapsOfUptoSaid : Prop := fnExactCapsOfUptoRow.holds Try.pinned (OpenSpec.upto fnExactCapsOfSpec)

/-- 'laws.FnExactFindCap', WHERE WHAT IT READS IS OF BULK AT MOST 1048576: true; the input reads as it did. -/
def fnExactFindCapUptoRow : OpenClaim := { program := "ytgnadhokljjmnaa", sum := "3754b90a09462dc5227bb02ff204ba5f1934441a55004e3aef34fcaaf186e6b0", func := "loop.example/g00986/laws.FnExactFindCap", spec := "fnExactFindCap", unfollowed := true, recurses := true, apart := false, narrowed := true }
def FnExactFindCapUptoSaid : Prop := fnExactFindCapUptoRow.holds Try.pinned (OpenSpec.upto fnExactFindCapSpec)

/-- 'laws.FnExactAddCap', WHERE WHAT IT READS IS OF BULK AT MOST 1048576: true; the input reads as it did. -/
def fnExactAddCapUptoRow : OpenClaim := { program := "ytgnadhokljjmnaa", sum := "3754b90a09462dc5227bb02ff204ba5f1934441a55004e3aef34fcaaf186e6b0", func := "loop.example/g00986/laws.FnExactAddCap", spec := "fnExactAddCap", unfollowed := true, recurses := true, apart := false, narrowed := true }
def FnExactAddCapUptoSaid : Prop := fnExactAddCapUptoRow.holds Try.pinned (OpenSpec.upto fnExactAddCapSpec)

/-- 'laws.FnExactDropCap', WHERE WHAT IT READS IS OF BULK AT MOST 1048576: true; the input reads as it did. -/
def fnExactDropCapUptoRow : OpenClaim := { program := "ytgnadhokljjmnaa", sum := "3754b90a09462dc5227bb02ff204ba5f1934441a55004e3aef34fcaaf186e6b0", func := "loop.example/g00986/laws.FnExactDropCap", spec := "fnExactDropCap", unfollowed := true, recurses := true, apart := false, narrowed := true }
def FnExactDropCapUptoSaid : Prop := fnExactDropCapUptoRow.holds Try.pinned (OpenSpec.upto fnExactDropCapSpec)

/-- 'laws.FnDrops', WHERE WHAT IT READS IS OF BULK AT MOST 1048576: true; the input reads as it did. -/
def fnDropsUptoRow : OpenClaim := { program := "ytgnadhokljjmnaa", sum := "3754b90a09462dc5227bb02ff204ba5f1934441a55004e3aef34fcaaf186e6b0", func := "loop.example/g00986/laws.FnDrops", spec := "fnDrops", unfollowed := true, recurses := true, apart := false, narrowed := true }
def FnDropsUptoSaid : Prop := fnDropsUptoRow.holds Try.pinned (OpenSpec.upto fnDropsSpec)

/-- 'laws.FnCaps', WHERE WHAT IT READS IS OF BULK AT MOST 1048576: true; the input reads as it did. -/
def fnCapsUptoRow : OpenClaim := { program := "ytgnadhokljjmnaa", sum := "3754b90a09462dc5227bb02ff204ba5f1934441a55004e3aef34fcaaf186e6b0", func := "loop.example/g00986/laws.FnCaps", spec := "fnCaps", unfollowed := true, recurses := true, apart := false, narrowed := true }
def FnCapsUptoSaid : Prop := fnCapsUptoRow.holds Try.pinned (OpenSpec.upto fnCapsSpec)

end Rows
end Go.Proofs.Ytgnadhokljjmnaa
