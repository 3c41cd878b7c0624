/-
  No cell of these rows narrows 'for every input' (looked for: loops, veiled, ifaces, maps, wideKeys, modest, calm, conditions, laid).
  DERIVED. THE GIVEN ROWS OF THIS SEAT. 7 by the template 'for every input the law returns true; each argument reads behind the call as it read before'; 0 by the template 'total and deterministic' (their statements: YtfahajleoabojaaTotals.lean).
  GIVEN WITH THE SEED: the statements are not yours to turn. If you find one false, say at which input.
  Laid BY PROGRAM, IN A SANDBOX (cutbox-rows.mjs): the forced cells as the released guide's own fill.sh prints them over the translation 233bf0d0e49d6409… (all of the seat's roots in one cut). By AI agents, Wed Nov 11 2026. No macro, syntax, notation, axiom, sorry.
-/
import Derived.Test.YtfahajleoabojaaChecked
import GoSem.Claim
import GoSem.ClaimJoined
import GoSem.ClaimMapViews
import Derived.JoinedTies
import Derived.KernelRfl
namespace Go.Proofs.Ytfahajleoabojaa
/- THE CELL 'sum', in the pinned program and in every row, IS THE sha256 OF THE DUMP (.gsa) THAT YtfahajleoabojaaProg.lean LOADS. Nothing in Lean hashes anything: it is a label: what it is worth is what the hold of that sum in a sandbox is worth. -/
noncomputable def Try.pinned : Pinned := { name := "ytfahajleoabojaa", sum := "233bf0d0e49d6409be664a8e4bb3d1e8b4439ab8dc3c25d4f6e88e2a04244eac", checked := Try.checked }
namespace Rows
def none {H : Type} : Left H := { results := [], args := [] }

/-- 'brokerlaw25.QueueSpecs': WHATEVER THE INPUT: true; the input reads as it did. -/
def queueSpecsSpec : ChangeSpec := { name := "queueSpecs", fn := fun _ => fun
  | [d] => { results := [.lit (.bool true)], args := [d] }
  | _ => none }
def queueSpecsRow : OpenClaim := { program := "ytfahajleoabojaa", sum := "233bf0d0e49d6409be664a8e4bb3d1e8b4439ab8dc3c25d4f6e88e2a04244eac", func := "broker/brokerlaw25.QueueSpecs", spec := "queueSpecs", inPlace := ["slices.overlaps[broker/api.Entry]"], unfollowed := true, recurses := true, apart := false }
def QueueSpecsSaid : Prop := queueSpecsRow.holds Try.pinned (OpenSpec.ofChange queueSpecsSpec)

/-- ITS FALSE NEIGHBOUR: 'it returns false'. Refute it at one input. -/
def queueSpecsWrong : ChangeSpec := { name := "queueSpecs", fn := fun _ => fun
  | [d] => { results := [.lit (.bool false)], args := [d] }
  | _ => none }
def QueueSpecsWrongFalsely : Prop := queueSpecsRow.holds Try.pinned (OpenSpec.ofChange queueSpecsWrong)

/-- 'brokerlaw25.QueueValid': WHATEVER THE INPUT: true; the input reads as it did. -/
def queueValidSpec : ChangeSpec := { name := "queueValid", fn := fun _ => fun
  | [d] => { results := [.lit (.bool true)], args := [d] }
  | _ => none }
def queueValidRow : OpenClaim := { program := "ytfahajleoabojaa", sum := "233bf0d0e49d6409be664a8e4bb3d1e8b4439ab8dc3c25d4f6e88e2a04244eac", func := "broker/brokerlaw25.QueueValid", spec := "queueValid", inPlace := ["slices.overlaps[broker/api.Entry]"], unfollowed := true, recurses := true, apart := false }
def QueueValidSaid : Prop := queueValidRow.holds Try.pinned (OpenSpec.ofChange queueValidSpec)

/-- ITS FALSE NEIGHBOUR: 'it returns false'. Refute it at one input. -/
def queueValidWrong : ChangeSpec := { name := "queueValid", fn := fun _ => fun
  | [d] => { results := [.lit (.bool false)], args := [d] }
  | _ => none }
def QueueValidWrongFalsely : Prop := queueValidRow.holds Try.pinned (OpenSpec.ofChange queueValidWrong)

/-- 'brokerlaw25.QueuePlays': WHATEVER THE INPUT: true; the input reads as it did. -/
def queuePlaysSpec : ChangeSpec := { name := "queuePlays", fn := fun _ => fun
  | [d1, d2] => { results := [.lit (.bool true)], args := [d1, d2] }
  | _ => none }
def queuePlaysRow : OpenClaim := { program := "ytfahajleoabojaa", sum := "233bf0d0e49d6409be664a8e4bb3d1e8b4439ab8dc3c25d4f6e88e2a04244eac", func := "broker/brokerlaw25.QueuePlays", spec := "queuePlays", inPlace := ["slices.overlaps[broker/api.Entry]"], unfollowed := true, recurses := true, apart := false }
def QueuePlaysSaid : Prop := queuePlaysRow.holds Try.pinned (OpenSpec.ofChange queuePlaysSpec)

/-- ITS FALSE NEIGHBOUR: 'it returns false'. Refute it at one input. -/
def queuePlaysWrong : ChangeSpec := { name := "queuePlays", fn := fun _ => fun
  | [d1, d2] => { results := [.lit (.bool false)], args := [d1, d2] }
  | _ => none }
def QueuePlaysWrongFalsely : Prop := queuePlaysRow.holds Try.pinned (OpenSpec.ofChange queuePlaysWrong)

/-- 'brokerlaw25.QueueKeeps': WHATEVER THE INPUT: true; the input reads as it did. -/
def queueKeepsSpec : ChangeSpec := { name := "queueKeeps", fn := fun _ => fun
  | [d1, d2] => { results := [.lit (.bool true)], args := [d1, d2] }
  | _ => none }
def queueKeepsRow : OpenClaim := { program := "ytfahajleoabojaa", sum := "233bf0d0e49d6409be664a8e4bb3d1e8b4439ab8dc3c25d4f6e88e2a04244eac", func := "broker/brokerlaw25.QueueKeeps", spec := "queueKeeps", inPlace := ["slices.overlaps[broker/api.Entry]"], unfollowed := true, recurses := true, apart := false }
def QueueKeepsSaid : Prop := queueKeepsRow.holds Try.pinned (OpenSpec.ofChange queueKeepsSpec)

/-- ITS FALSE NEIGHBOUR: 'it returns false'. Refute it at one input. -/
def queueKeepsWrong : ChangeSpec := { name := "queueKeeps", fn := fun _ => fun
  | [d1, d2] => { results := [.lit (.bool false)], args := [d1, d2] }
  | _ => none }
def QueueKeepsWrongFalsely : Prop := queueKeepsRow.holds Try.pinned (OpenSpec.ofChange queueKeepsWrong)

/-- 'brokerlaw25.QueueOrder': WHATEVER THE INPUT: true; the input reads as it did. -/
def queueOrderSpec : ChangeSpec := { name := "queueOrder", fn := fun _ => fun
  | [d1, d2] => { results := [.lit (.bool true)], args := [d1, d2] }
  | _ => none }
def queueOrderRow : OpenClaim := { program := "ytfahajleoabojaa", sum := "233bf0d0e49d6409be664a8e4bb3d1e8b4439ab8dc3c25d4f6e88e2a04244eac", func := "broker/brokerlaw25.QueueOrder", spec := "queueOrder", inPlace := ["slices.overlaps[broker/api.Entry]"], unfollowed := true, recurses := true, apart := false }
def QueueOrderSaid : Prop := queueOrderRow.holds Try.pinned (OpenSpec.ofChange queueOrderSpec)

/-- ITS FALSE NEIGHBOUR: 'it returns false'. Refute it at one input. -/
def queueOrderWrong : ChangeSpec := { name := "queueOrder", fn := fun _ => fun
  | [d1, d2] => { results := [.lit (.bool false)], args := [d1, d2] }
  | _ => none }
def QueueOrderWrongFalsely : Prop := queueOrderRow.holds Try.pinned (OpenSpec.ofChange queueOrderWrong)

/-- 'brokerlaw25.QueueExpires': WHATEVER THE INPUT: true; the input reads as it did. -/
def queueExpiresSpec : ChangeSpec := { name := "queueExpires", fn := fun _ => fun
  | [d1, d2, d3] => { results := [.lit (.bool true)], args := [d1, d2, d3] }
  | _ => none }
def queueExpiresRow : OpenClaim := { program := "ytfahajleoabojaa", sum := "233bf0d0e49d6409be664a8e4bb3d1e8b4439ab8dc3c25d4f6e88e2a04244eac", func := "broker/brokerlaw25.QueueExpires", spec := "queueExpires", inPlace := ["slices.overlaps[broker/api.Entry]"], unfollowed := true, recurses := true, apart := false }
def QueueExpiresSaid : Prop := queueExpiresRow.holds Try.pinned (OpenSpec.ofChange queueExpiresSpec)

/-- ITS FALSE NEIGHBOUR: 'it returns false'. Refute it at one input. -/
def queueExpiresWrong : ChangeSpec := { name := "queueExpires", fn := fun _ => fun
  | [d1, d2, d3] => { results := [.lit (.bool false)], args := [d1, d2, d3] }
  | _ => none }
def QueueExpiresWrongFalsely : Prop := queueExpiresRow.holds Try.pinned (OpenSpec.ofChange queueExpiresWrong)

/-- 'brokerlaw25.QueueFull': WHATEVER THE INPUT: true; the input reads as it did. -/
def queueFullSpec : ChangeSpec := { name := "queueFull", fn := fun _ => fun
  | [d] => { results := [.lit (.bool true)], args := [d] }
  | _ => none }
def queueFullRow : OpenClaim := { program := "ytfahajleoabojaa", sum := "233bf0d0e49d6409be664a8e4bb3d1e8b4439ab8dc3c25d4f6e88e2a04244eac", func := "broker/brokerlaw25.QueueFull", spec := "queueFull", inPlace := ["slices.overlaps[broker/api.Entry]"], unfollowed := true, recurses := true, apart := false }
def QueueFullSaid : Prop := queueFullRow.holds Try.pinned (OpenSpec.ofChange queueFullSpec)

/-- ITS FALSE NEIGHBOUR: 'it returns false'. Refute it at one input. -/
def queueFullWrong : ChangeSpec := { name := "queueFull", fn := fun _ => fun
  | [d] => { results := [.lit (.bool false)], args := [d] }
  | _ => none }
def QueueFullWrongFalsely : Prop := queueFullRow.holds Try.pinned (OpenSpec.ofChange queueFullWrong)

/- THE SECOND FORM. 'bulk': how many values and letters a reading holds, each counted each time it is reached (what is shared counts as often as it is met; a slice's spare places count too). A statement '..UptoSaid' is the law's where the arguments, and the package variables that the reading takes, are together of bulk at most 1048576: NARROWER than '..Said'. Prove '..Said' where nothing that the law and all that it calls make is longer than what came in: it says more and counts as full. Else prove '..UptoSaid'. A law counts once. -/
mutual
def uptoBulk {H : Type} : DataW H → Nat
  | .lit (.string bytes) => bytes.length + 1
  | .lit _ => 1
  | .nil => 1
  | .ptr d => uptoBulk d + 1
  | .slice elems spare => uptoBulkAll elems + uptoBulkAll spare + 1
  | .agg parts => uptoBulkAll parts + 1
  | .iface _ d => uptoBulk d + 1
  | .map entries => uptoBulkEntries entries + 1
  | .held _ => 1
def uptoBulkAll {H : Type} : List (DataW H) → Nat
  | [] => 0
  | d :: r => uptoBulk d + uptoBulkAll r
def uptoBulkEntries {H : Type} : List (Lit × DataW H) → Nat
  | [] => 0
  | x :: r => uptoBulkEntry x + uptoBulkEntries r
def uptoBulkEntry {H : Type} : Lit × DataW H → Nat
  | (.string bytes, d) => bytes.length + uptoBulk d + 1
  | (_, d) => uptoBulk d + 1
 end
def uptoSmall : (H : Type) → List (DataW H) → Bool := fun _ ds => decide (uptoBulkAll ds ≤ 1048576)
def OpenSpec.upto (s : _root_.Go.ChangeSpec) : _root_.Go.OpenSpec := { _root_.Go.OpenSpec.ofChange s with cond := some uptoSmall }

/-- 'brokerlaw25.QueueSpecs', WHERE WHAT IT READS IS OF BULK AT MOST 1048576: true; the input reads as it did. -/
def queueSpecsUptoRow : OpenClaim := { program := "ytfahajleoabojaa", sum := "233bf0d0e49d6409be664a8e4bb3d1e8b4439ab8dc3c25d4f6e88e2a04244eac", func := "broker/brokerlaw25.QueueSpecs", spec := "queueSpecs", inPlace := ["slices.overlaps[broker/api.Entry]"], unfollowed := true, recurses := true, apart := false, narrowed := true }
def QueueSpecsUptoSaid : Prop := queueSpecsUptoRow.holds Try.pinned (OpenSpec.upto queueSpecsSpec)

/-- 'brokerlaw25.QueueValid', WHERE WHAT IT READS IS OF BULK AT MOST 1048576: true; the input reads as it did. -/
def queueValidUptoRow : OpenClaim := { program := "ytfahajleoabojaa", sum := "233bf0d0e49d6409be664a8e4bb3d1e8b4439ab8dc3c25d4f6e88e2a04244eac", func := "broker/brokerlaw25.QueueValid", spec := "queueValid", inPlace := ["slices.overlaps[broker/api.Entry]"], unfollowed := true, recurses := true, apart := false, narrowed := true }
def QueueValidUptoSaid : Prop := queueValidUptoRow.holds Try.pinned (OpenSpec.upto queueValidSpec)

/-- 'brokerlaw25.QueuePlays', WHERE WHAT IT READS IS OF BULK AT MOST 1048576: true; the input reads as it did. -/
def queuePlaysUptoRow : OpenClaim := { program := "ytfahajleoabojaa", sum := "233bf0d0e49d6409be664a8e4bb3d1e8b4439ab8dc3c25d4f6e88e2a04244eac", func := "broker/brokerlaw25.QueuePlays", spec := "queuePlays", inPlace := ["slices.overlaps[broker/api.Entry]"], unfollowed := true, recurses := true, apart := false, narrowed := true }
def QueuePlaysUptoSaid : Prop := queuePlaysUptoRow.holds Try.pinned (OpenSpec.upto queuePlaysSpec)

/-- 'brokerlaw25.QueueKeeps', WHERE WHAT IT READS IS OF BULK AT MOST 1048576: true; the input reads as it did. -/
def queueKeepsUptoRow : OpenClaim := { program := "ytfahajleoabojaa", sum := "233bf0d0e49d6409be664a8e4bb3d1e8b4439ab8dc3c25d4f6e88e2a04244eac", func := "broker/brokerlaw25.QueueKeeps", spec := "queueKeeps", inPlace := ["slices.overlaps[broker/api.Entry]"], unfollowed := true, recurses := true, apart := false, narrowed := true }
def QueueKeepsUptoSaid : Prop := queueKeepsUptoRow.holds Try.pinned (OpenSpec.upto queueKeepsSpec)

/-- 'brokerlaw25.QueueOrder', WHERE WHAT IT READS IS OF BULK AT MOST 1048576: true; the input reads as it did. -/
def queueOrderUptoRow : OpenClaim := { program := "ytfahajleoabojaa", sum := "233bf0d0e49d6409be664a8e4bb3d1e8b4439ab8dc3c25d4f6e88e2a04244eac", func := "broker/brokerlaw25.QueueOrder", spec := "queueOrder", inPlace := ["slices.overlaps[broker/api.Entry]"], unfollowed := true, recurses := true, apart := false, narrowed := true }
def QueueOrderUptoSaid : Prop := queueOrderUptoRow.holds Try.pinned (OpenSpec.upto queueOrderSpec)

/-- 'brokerlaw25.QueueExpires', WHERE WHAT IT READS IS OF BULK AT MOST 1048576: true; the input reads as it did. -/
def queueExpiresUptoRow : OpenClaim := { program := "ytfahajleoabojaa", sum := "233bf0d0e49d6409be664a8e4bb3d1e8b4439ab8dc3c25d4f6e88e2a04244eac", func := "broker/brokerlaw25.QueueExpires", spec := "queueExpires", inPlace := ["slices.overlaps[broker/api.Entry]"], unfollowed := true, recurses := true, apart := false, narrowed := true }
def QueueExpiresUptoSaid : Prop := queueExpiresUptoRow.holds Try.pinned (OpenSpec.upto queueExpiresSpec)

/-- 'brokerlaw25.QueueFull', WHERE WHAT IT READS IS OF BULK AT MOST 1048576: true; the input reads as it did. -/
def queueFullUptoRow : OpenClaim := { program := "ytfahajleoabojaa", sum := "233bf0d0e49d6409be664a8e4bb3d1e8b4439ab8dc3c25d4f6e88e2a04244eac", func := "broker/brokerlaw25.QueueFull", spec := "queueFull", inPlace := ["slices.overlaps[broker/api.Entry]"], unfollowed := true, recurses := true, apart := false, narrowed := true }
def QueueFullUptoSaid : Prop := queueFullUptoRow.holds Try.pinned (OpenSpec.upto queueFullSpec)

end Rows
end Go.Proofs.Ytfahajleoabojaa
