/-
  No cell of these rows narrows 'for every input' (looked for: loops, veiled, ifaces, maps, wideKeys, modest, calm, conditions, laid).
  DERIVED. THE GIVEN ROWS OF THIS SEAT. 7 by the template 'for every input the law returns true; each argument reads behind the call as it read before'; 0 by the template 'total and deterministic' (their statements: YtkpodhdjifnigaaTotals.lean).
  GIVEN WITH THE SEED: the statements are not yours to turn. If you find one false, say at which input.
  Laid BY PROGRAM, IN A SANDBOX (cutbox-rows.mjs): the forced cells as the released guide's own fill.sh prints them over the translation 32f5dae5dd63ddd6… (all of the seat's roots in one cut). By AI agents, Wed Nov 11 2026. No macro, syntax, notation, axiom, sorry.
-/
import Derived.Test.YtkpodhdjifnigaaChecked
import GoSem.Claim
import GoSem.ClaimJoined
import GoSem.ClaimMapViews
import Derived.JoinedTies
import Derived.KernelRfl
namespace Go.Proofs.Ytkpodhdjifnigaa
/- THE CELL 'sum', in the pinned program and in every row, IS THE sha256 OF THE DUMP (.gsa) THAT YtkpodhdjifnigaaProg.lean LOADS. Nothing in Lean hashes anything: it is a label: what it is worth is what the hold of that sum in a sandbox is worth. -/
noncomputable def Try.pinned : Pinned := { name := "ytkpodhdjifnigaa", sum := "32f5dae5dd63ddd6dff6f65af1b9d456d1464bb90e72defcdb8085a68867171b", checked := Try.checked }
namespace Rows
def none {H : Type} : Left H := { results := [], args := [] }

/-- 'brokerlaw14.InflightStarts': WHATEVER THE INPUT: true; the input reads as it did. -/
def inflightStartsSpec : ChangeSpec := { name := "inflightStarts", fn := fun _ => fun
  | [d1, d2] => { results := [.lit (.bool true)], args := [d1, d2] }
  | _ => none }
def inflightStartsRow : OpenClaim := { program := "ytkpodhdjifnigaa", sum := "32f5dae5dd63ddd6dff6f65af1b9d456d1464bb90e72defcdb8085a68867171b", func := "broker/brokerlaw14.InflightStarts", spec := "inflightStarts", inPlace := ["slices.overlaps[int]"], unfollowed := true, recurses := true, apart := false }
def InflightStartsSaid : Prop := inflightStartsRow.holds Try.pinned (OpenSpec.ofChange inflightStartsSpec)

/-- ITS FALSE NEIGHBOUR: 'it returns false'. Refute it at one input. -/
def inflightStartsWrong : ChangeSpec := { name := "inflightStarts", fn := fun _ => fun
  | [d1, d2] => { results := [.lit (.bool false)], args := [d1, d2] }
  | _ => none }
def InflightStartsWrongFalsely : Prop := inflightStartsRow.holds Try.pinned (OpenSpec.ofChange inflightStartsWrong)

/-- 'brokerlaw14.InflightHandles': WHATEVER THE INPUT: true; the input reads as it did. -/
def inflightHandlesSpec : ChangeSpec := { name := "inflightHandles", fn := fun _ => fun
  | [d1, d2] => { results := [.lit (.bool true)], args := [d1, d2] }
  | _ => none }
def inflightHandlesRow : OpenClaim := { program := "ytkpodhdjifnigaa", sum := "32f5dae5dd63ddd6dff6f65af1b9d456d1464bb90e72defcdb8085a68867171b", func := "broker/brokerlaw14.InflightHandles", spec := "inflightHandles", inPlace := ["slices.overlaps[int]"], unfollowed := true, recurses := true, apart := false }
def InflightHandlesSaid : Prop := inflightHandlesRow.holds Try.pinned (OpenSpec.ofChange inflightHandlesSpec)

/-- ITS FALSE NEIGHBOUR: 'it returns false'. Refute it at one input. -/
def inflightHandlesWrong : ChangeSpec := { name := "inflightHandles", fn := fun _ => fun
  | [d1, d2] => { results := [.lit (.bool false)], args := [d1, d2] }
  | _ => none }
def InflightHandlesWrongFalsely : Prop := inflightHandlesRow.holds Try.pinned (OpenSpec.ofChange inflightHandlesWrong)

/-- 'brokerlaw14.InflightTells': WHATEVER THE INPUT: true; the input reads as it did. -/
def inflightTellsSpec : ChangeSpec := { name := "inflightTells", fn := fun _ => fun
  | [d] => { results := [.lit (.bool true)], args := [d] }
  | _ => none }
def inflightTellsRow : OpenClaim := { program := "ytkpodhdjifnigaa", sum := "32f5dae5dd63ddd6dff6f65af1b9d456d1464bb90e72defcdb8085a68867171b", func := "broker/brokerlaw14.InflightTells", spec := "inflightTells", inPlace := ["slices.overlaps[int]"], unfollowed := true, recurses := true, apart := false }
def InflightTellsSaid : Prop := inflightTellsRow.holds Try.pinned (OpenSpec.ofChange inflightTellsSpec)

/-- ITS FALSE NEIGHBOUR: 'it returns false'. Refute it at one input. -/
def inflightTellsWrong : ChangeSpec := { name := "inflightTells", fn := fun _ => fun
  | [d] => { results := [.lit (.bool false)], args := [d] }
  | _ => none }
def InflightTellsWrongFalsely : Prop := inflightTellsRow.holds Try.pinned (OpenSpec.ofChange inflightTellsWrong)

/-- 'brokerlaw14.InflightOnce': WHATEVER THE INPUT: true; the input reads as it did. -/
def inflightOnceSpec : ChangeSpec := { name := "inflightOnce", fn := fun _ => fun
  | [d1, d2, d3, d4] => { results := [.lit (.bool true)], args := [d1, d2, d3, d4] }
  | _ => none }
def inflightOnceRow : OpenClaim := { program := "ytkpodhdjifnigaa", sum := "32f5dae5dd63ddd6dff6f65af1b9d456d1464bb90e72defcdb8085a68867171b", func := "broker/brokerlaw14.InflightOnce", spec := "inflightOnce", inPlace := ["slices.overlaps[int]"], unfollowed := true, recurses := true, apart := false }
def InflightOnceSaid : Prop := inflightOnceRow.holds Try.pinned (OpenSpec.ofChange inflightOnceSpec)

/-- ITS FALSE NEIGHBOUR: 'it returns false'. Refute it at one input. -/
def inflightOnceWrong : ChangeSpec := { name := "inflightOnce", fn := fun _ => fun
  | [d1, d2, d3, d4] => { results := [.lit (.bool false)], args := [d1, d2, d3, d4] }
  | _ => none }
def InflightOnceWrongFalsely : Prop := inflightOnceRow.holds Try.pinned (OpenSpec.ofChange inflightOnceWrong)

/-- 'brokerlaw14.InflightAgain': WHATEVER THE INPUT: true; the input reads as it did. -/
def inflightAgainSpec : ChangeSpec := { name := "inflightAgain", fn := fun _ => fun
  | [d1, d2] => { results := [.lit (.bool true)], args := [d1, d2] }
  | _ => none }
def inflightAgainRow : OpenClaim := { program := "ytkpodhdjifnigaa", sum := "32f5dae5dd63ddd6dff6f65af1b9d456d1464bb90e72defcdb8085a68867171b", func := "broker/brokerlaw14.InflightAgain", spec := "inflightAgain", inPlace := ["slices.overlaps[int]"], unfollowed := true, recurses := true, apart := false }
def InflightAgainSaid : Prop := inflightAgainRow.holds Try.pinned (OpenSpec.ofChange inflightAgainSpec)

/-- ITS FALSE NEIGHBOUR: 'it returns false'. Refute it at one input. -/
def inflightAgainWrong : ChangeSpec := { name := "inflightAgain", fn := fun _ => fun
  | [d1, d2] => { results := [.lit (.bool false)], args := [d1, d2] }
  | _ => none }
def InflightAgainWrongFalsely : Prop := inflightAgainRow.holds Try.pinned (OpenSpec.ofChange inflightAgainWrong)

/-- 'brokerlaw14.InflightChecks': WHATEVER THE INPUT: true; the input reads as it did. -/
def inflightChecksSpec : ChangeSpec := { name := "inflightChecks", fn := fun _ => fun
  | [d1, d2] => { results := [.lit (.bool true)], args := [d1, d2] }
  | _ => none }
def inflightChecksRow : OpenClaim := { program := "ytkpodhdjifnigaa", sum := "32f5dae5dd63ddd6dff6f65af1b9d456d1464bb90e72defcdb8085a68867171b", func := "broker/brokerlaw14.InflightChecks", spec := "inflightChecks", inPlace := ["slices.overlaps[int]"], unfollowed := true, recurses := true, apart := false }
def InflightChecksSaid : Prop := inflightChecksRow.holds Try.pinned (OpenSpec.ofChange inflightChecksSpec)

/-- ITS FALSE NEIGHBOUR: 'it returns false'. Refute it at one input. -/
def inflightChecksWrong : ChangeSpec := { name := "inflightChecks", fn := fun _ => fun
  | [d1, d2] => { results := [.lit (.bool false)], args := [d1, d2] }
  | _ => none }
def InflightChecksWrongFalsely : Prop := inflightChecksRow.holds Try.pinned (OpenSpec.ofChange inflightChecksWrong)

/-- 'brokerlaw14.InflightRuns': WHATEVER THE INPUT: true; the input reads as it did. -/
def inflightRunsSpec : ChangeSpec := { name := "inflightRuns", fn := fun _ => fun
  | [d1, d2] => { results := [.lit (.bool true)], args := [d1, d2] }
  | _ => none }
def inflightRunsRow : OpenClaim := { program := "ytkpodhdjifnigaa", sum := "32f5dae5dd63ddd6dff6f65af1b9d456d1464bb90e72defcdb8085a68867171b", func := "broker/brokerlaw14.InflightRuns", spec := "inflightRuns", inPlace := ["slices.overlaps[int]"], unfollowed := true, recurses := true, apart := false }
def InflightRunsSaid : Prop := inflightRunsRow.holds Try.pinned (OpenSpec.ofChange inflightRunsSpec)

/-- ITS FALSE NEIGHBOUR: 'it returns false'. Refute it at one input. -/
def inflightRunsWrong : ChangeSpec := { name := "inflightRuns", fn := fun _ => fun
  | [d1, d2] => { results := [.lit (.bool false)], args := [d1, d2] }
  | _ => none }
def InflightRunsWrongFalsely : Prop := inflightRunsRow.holds Try.pinned (OpenSpec.ofChange inflightRunsWrong)

/- THE SECOND FORM. 'bulk': how many values and letters a reading holds, each counted each time it is reached (what is shared counts as often as it is met; a slice's spare places count too). A statement '..UptoSaid' is the law's where the arguments, and the package variables that the reading takes, are together of bulk at most 1048576: NARROWER than '..Said'. Prove '..Said' where nothing that the law and all that it calls make is longer than what came in: it says more and counts as full. Else prove '..UptoSaid'. A law counts once. -/
mutual
def uptoBulk {H : Type} : DataW H → Nat
  | .lit (.string bytes) => bytes.length + 1
  | .lit _ => 1
  | .nil => 1
  | .ptr d => uptoBulk d + 1
  | .slice elems spare => uptoBulkAll elems + uptoBulkAll spare + 1
  | .agg parts => uptoBulkAll parts + 1
  | .iface _ d => uptoBulk d + 1
  | .map entries => uptoBulkEntries entries + 1
  | .held _ => 1
def uptoBulkAll {H : Type} : List (DataW H) → Nat
  | [] => 0
  | d :: r => uptoBulk d + uptoBulkAll r
def uptoBulkEntries {H : Type} : List (Lit × DataW H) → Nat
  | [] => 0
  | x :: r => uptoBulkEntry x + uptoBulkEntries r
def uptoBulkEntry {H : Type} : Lit × DataW H → Nat
  | (.string bytes, d) => bytes.length + uptoBulk d + 1
  | (_, d) => uptoBulk d + 1
 end
def uptoSmall : (H : Type) → List (DataW H) → Bool := fun _ ds => decide (uptoBulkAll ds ≤ 1048576)
def OpenSpec.upto (s : _root_.Go.ChangeSpec) : _root_.Go.OpenSpec := { _root_.Go.OpenSpec.ofChange s with cond := some uptoSmall }

/-- 'brokerlaw14.InflightStarts', WHERE WHAT IT READS IS OF BULK AT MOST 1048576: true; the input reads as it did. -/
def inflightStartsUptoRow : OpenClaim := { program := "ytkpodhdjifnigaa", sum := "32f5dae5dd63ddd6dff6f65af1b9d456d1464bb90e72defcdb8085a68867171b", func := "broker/brokerlaw14.InflightStarts", spec := "inflightStarts", inPlace := ["slices.overlaps[int]"], unfollowed := true, recurses := true, apart := false, narrowed := true }
def InflightStartsUptoSaid : Prop := inflightStartsUptoRow.holds Try.pinned (OpenSpec.upto inflightStartsSpec)

/-- 'brokerlaw14.InflightHandles', WHERE WHAT IT READS IS OF BULK AT MOST 1048576: true; the input reads as it did. -/
def inflightHandlesUptoRow : OpenClaim := { program := "ytkpodhdjifnigaa", sum := "32f5dae5dd63ddd6dff6f65af1b9d456d1464bb90e72defcdb8085a68867171b", func := "broker/brokerlaw14.InflightHandles", spec := "inflightHandles", inPlace := ["slices.overlaps[int]"], unfollowed := true, recurses := true, apart := false, narrowed := true }
def InflightHandlesUptoSaid : Prop := inflightHandlesUptoRow.holds Try.pinned (OpenSpec.upto inflightHandlesSpec)

/-- 'brokerlaw14.InflightTells', WHERE WHAT IT READS IS OF BULK AT MOST 1048576: true; the input reads as it did. -/
def inflightTellsUptoRow : OpenClaim := { program := "ytkpodhdjifnigaa", sum := "32f5dae5dd63ddd6dff6f65af1b9d456d1464bb90e72defcdb8085a68867171b", func := "broker/brokerlaw14.InflightTells", spec := "inflightTells", inPlace := ["slices.overlaps[int]"], unfollowed := true, recurses := true, apart := false, narrowed := true }
def InflightTellsUptoSaid : Prop := inflightTellsUptoRow.holds Try.pinned (OpenSpec.upto inflightTellsSpec)

/-- 'brokerlaw14.InflightOnce', WHERE WHAT IT READS IS OF BULK AT MOST 1048576: true; the input reads as it did. -/
def inflightOnceUptoRow : OpenClaim := { program := "ytkpodhdjifnigaa", sum := "32f5dae5dd63ddd6dff6f65af1b9d456d1464bb90e72defcdb8085a68867171b", func := "broker/brokerlaw14.InflightOnce", spec := "inflightOnce", inPlace := ["slices.overlaps[int]"], unfollowed := true, recurses := true, apart := false, narrowed := true }
def InflightOnceUptoSaid : Prop := inflightOnceUptoRow.holds Try.pinned (OpenSpec.upto inflightOnceSpec)

/-- 'brokerlaw14.InflightAgain', WHERE WHAT IT READS IS OF BULK AT MOST 1048576: true; the input reads as it did. -/
def inflightAgainUptoRow : OpenClaim := { program := "ytkpodhdjifnigaa", sum := "32f5dae5dd63ddd6dff6f65af1b9d456d1464bb90e72defcdb8085a68867171b", func := "broker/brokerlaw14.InflightAgain", spec := "inflightAgain", inPlace := ["slices.overlaps[int]"], unfollowed := true, recurses := true, apart := false, narrowed := true }
def InflightAgainUptoSaid : Prop := inflightAgainUptoRow.holds Try.pinned (OpenSpec.upto inflightAgainSpec)

/-- 'brokerlaw14.InflightChecks', WHERE WHAT IT READS IS OF BULK AT MOST 1048576: true; the input reads as it did. -/
def inflightChecksUptoRow : OpenClaim := { program := "ytkpodhdjifnigaa", sum := "32f5dae5dd63ddd6dff6f65af1b9d456d1464bb90e72defcdb8085a68867171b", func := "broker/brokerlaw14.InflightChecks", spec := "inflightChecks", inPlace := ["slices.overlaps[int]"], unfollowed := true, recurses := true, apart := false, narrowed := true }
def InflightChecksUptoSaid : Prop := inflightChecksUptoRow.holds Try.pinned (OpenSpec.upto inflightChecksSpec)

/-- 'brokerlaw14.InflightRuns', WHERE WHAT IT READS IS OF BULK AT MOST 1048576: true; the input reads as it did. -/
def inflightRunsUptoRow : OpenClaim := { program := "ytkpodhdjifnigaa", sum := "32f5dae5dd63ddd6dff6f65af1b9d456d1464bb90e72defcdb8085a68867171b", func := "broker/brokerlaw14.InflightRuns", spec := "inflightRuns", inPlace := ["slices.overlaps[int]"], unfollowed := true, recurses := true, apart := false, narrowed := true }
def InflightRunsUptoSaid : Prop := inflightRunsUptoRow.holds Try.pinned (OpenSpec.upto inflightRunsSpec)

end Rows
end Go.Proofs.Ytkpodhdjifnigaa
