/-
  No cell of these rows narrows 'for every input' (looked for: loops, veiled, ifaces, maps, wideKeys, modest, calm, conditions, laid).
  DERIVED. THE GIVEN ROWS OF THIS SEAT. 6 by the template 'for every input the law returns true; each argument reads behind the call as it read before'; 0 by the template 'total and deterministic' (their statements: YtfgimdalhdgpcaaTotals.lean).
  GIVEN WITH THE SEED: the statements are not yours to turn. If you find one false, say at which input.
  Laid BY PROGRAM, IN A SANDBOX (cutbox-rows.mjs): the forced cells as the released guide's own fill.sh prints them over the translation d309bcd3c274f3f4… (all of the seat's roots in one cut). By AI agents, Wed Nov 11 2026. No macro, syntax, notation, axiom, sorry.
-/
import Derived.Test.YtfgimdalhdgpcaaChecked
import GoSem.Claim
import GoSem.ClaimJoined
import GoSem.ClaimMapViews
import Derived.JoinedTies
import Derived.KernelRfl
namespace Go.Proofs.Ytfgimdalhdgpcaa
/- THE CELL 'sum', in the pinned program and in every row, IS THE sha256 OF THE DUMP (.gsa) THAT YtfgimdalhdgpcaaProg.lean LOADS. Nothing in Lean hashes anything: it is a label: what it is worth is what the hold of that sum in a sandbox is worth. -/
noncomputable def Try.pinned : Pinned := { name := "ytfgimdalhdgpcaa", sum := "d309bcd3c274f3f443ca2d10eabc26c09cf0488e9e994b1b6165f58def22499b", checked := Try.checked }
namespace Rows
def none {H : Type} : Left H := { results := [], args := [] }

/-- 'brokerlaw13.IdentChecks': WHATEVER THE INPUT: true; the input reads as it did. -/
def identChecksSpec : ChangeSpec := { name := "identChecks", fn := fun _ => fun
  | [d] => { results := [.lit (.bool true)], args := [d] }
  | _ => none }
def identChecksRow : OpenClaim := { program := "ytfgimdalhdgpcaa", sum := "d309bcd3c274f3f443ca2d10eabc26c09cf0488e9e994b1b6165f58def22499b", func := "broker/brokerlaw13.IdentChecks", spec := "identChecks", inPlace := ["slices.overlaps[int]"], apart := false }
def IdentChecksSaid : Prop := identChecksRow.holds Try.pinned (OpenSpec.ofChange identChecksSpec)

/-- ITS FALSE NEIGHBOUR: 'it returns false'. Refute it at one input. -/
def identChecksWrong : ChangeSpec := { name := "identChecks", fn := fun _ => fun
  | [d] => { results := [.lit (.bool false)], args := [d] }
  | _ => none }
def IdentChecksWrongFalsely : Prop := identChecksRow.holds Try.pinned (OpenSpec.ofChange identChecksWrong)

/-- 'brokerlaw13.IdentTakes': WHATEVER THE INPUT: true; the input reads as it did. -/
def identTakesSpec : ChangeSpec := { name := "identTakes", fn := fun _ => fun
  | [d] => { results := [.lit (.bool true)], args := [d] }
  | _ => none }
def identTakesRow : OpenClaim := { program := "ytfgimdalhdgpcaa", sum := "d309bcd3c274f3f443ca2d10eabc26c09cf0488e9e994b1b6165f58def22499b", func := "broker/brokerlaw13.IdentTakes", spec := "identTakes", inPlace := ["slices.overlaps[int]"], apart := false }
def IdentTakesSaid : Prop := identTakesRow.holds Try.pinned (OpenSpec.ofChange identTakesSpec)

/-- ITS FALSE NEIGHBOUR: 'it returns false'. Refute it at one input. -/
def identTakesWrong : ChangeSpec := { name := "identTakes", fn := fun _ => fun
  | [d] => { results := [.lit (.bool false)], args := [d] }
  | _ => none }
def IdentTakesWrongFalsely : Prop := identTakesRow.holds Try.pinned (OpenSpec.ofChange identTakesWrong)

/-- 'brokerlaw13.IdentFrees': WHATEVER THE INPUT: true; the input reads as it did. -/
def identFreesSpec : ChangeSpec := { name := "identFrees", fn := fun _ => fun
  | [d1, d2] => { results := [.lit (.bool true)], args := [d1, d2] }
  | _ => none }
def identFreesRow : OpenClaim := { program := "ytfgimdalhdgpcaa", sum := "d309bcd3c274f3f443ca2d10eabc26c09cf0488e9e994b1b6165f58def22499b", func := "broker/brokerlaw13.IdentFrees", spec := "identFrees", inPlace := ["slices.overlaps[int]"], apart := false }
def IdentFreesSaid : Prop := identFreesRow.holds Try.pinned (OpenSpec.ofChange identFreesSpec)

/-- ITS FALSE NEIGHBOUR: 'it returns false'. Refute it at one input. -/
def identFreesWrong : ChangeSpec := { name := "identFrees", fn := fun _ => fun
  | [d1, d2] => { results := [.lit (.bool false)], args := [d1, d2] }
  | _ => none }
def IdentFreesWrongFalsely : Prop := identFreesRow.holds Try.pinned (OpenSpec.ofChange identFreesWrong)

/-- 'brokerlaw13.IdentNew': WHATEVER THE INPUT: true; the input reads as it did. -/
def identNewSpec : ChangeSpec := { name := "identNew", fn := fun _ => fun
  | [d] => { results := [.lit (.bool true)], args := [d] }
  | _ => none }
def identNewRow : OpenClaim := { program := "ytfgimdalhdgpcaa", sum := "d309bcd3c274f3f443ca2d10eabc26c09cf0488e9e994b1b6165f58def22499b", func := "broker/brokerlaw13.IdentNew", spec := "identNew", inPlace := ["slices.overlaps[int]"], apart := false }
def IdentNewSaid : Prop := identNewRow.holds Try.pinned (OpenSpec.ofChange identNewSpec)

/-- ITS FALSE NEIGHBOUR: 'it returns false'. Refute it at one input. -/
def identNewWrong : ChangeSpec := { name := "identNew", fn := fun _ => fun
  | [d] => { results := [.lit (.bool false)], args := [d] }
  | _ => none }
def IdentNewWrongFalsely : Prop := identNewRow.holds Try.pinned (OpenSpec.ofChange identNewWrong)

/-- 'brokerlaw13.IdentRuns': WHATEVER THE INPUT: true; the input reads as it did. -/
def identRunsSpec : ChangeSpec := { name := "identRuns", fn := fun _ => fun
  | [d1, d2] => { results := [.lit (.bool true)], args := [d1, d2] }
  | _ => none }
def identRunsRow : OpenClaim := { program := "ytfgimdalhdgpcaa", sum := "d309bcd3c274f3f443ca2d10eabc26c09cf0488e9e994b1b6165f58def22499b", func := "broker/brokerlaw13.IdentRuns", spec := "identRuns", inPlace := ["slices.overlaps[int]"], apart := false }
def IdentRunsSaid : Prop := identRunsRow.holds Try.pinned (OpenSpec.ofChange identRunsSpec)

/-- ITS FALSE NEIGHBOUR: 'it returns false'. Refute it at one input. -/
def identRunsWrong : ChangeSpec := { name := "identRuns", fn := fun _ => fun
  | [d1, d2] => { results := [.lit (.bool false)], args := [d1, d2] }
  | _ => none }
def IdentRunsWrongFalsely : Prop := identRunsRow.holds Try.pinned (OpenSpec.ofChange identRunsWrong)

/-- 'brokerlaw13.IdentLate': WHATEVER THE INPUT: true; the input reads as it did. -/
def identLateSpec : ChangeSpec := { name := "identLate", fn := fun _ => fun
  | [d1, d2] => { results := [.lit (.bool true)], args := [d1, d2] }
  | _ => none }
def identLateRow : OpenClaim := { program := "ytfgimdalhdgpcaa", sum := "d309bcd3c274f3f443ca2d10eabc26c09cf0488e9e994b1b6165f58def22499b", func := "broker/brokerlaw13.IdentLate", spec := "identLate", inPlace := ["slices.overlaps[int]"], apart := false }
def IdentLateSaid : Prop := identLateRow.holds Try.pinned (OpenSpec.ofChange identLateSpec)

/-- ITS FALSE NEIGHBOUR: 'it returns false'. Refute it at one input. -/
def identLateWrong : ChangeSpec := { name := "identLate", fn := fun _ => fun
  | [d1, d2] => { results := [.lit (.bool false)], args := [d1, d2] }
  | _ => none }
def IdentLateWrongFalsely : Prop := identLateRow.holds Try.pinned (OpenSpec.ofChange identLateWrong)

/- THE SECOND FORM. 'bulk': how many values and letters a reading holds, each counted each time it is reached (what is shared counts as often as it is met; a slice's spare places count too). A statement '..UptoSaid' is the law's where the arguments, and the package variables that the reading takes, are together of bulk at most 1048576: NARROWER than '..Said'. Prove '..Said' where nothing that the law and all that it calls make is longer than what came in: it says more and counts as full. Else prove '..UptoSaid'. A law counts once. -/
mutual
def uptoBulk {H : Type} : DataW H → Nat
  | .lit (.string bytes) => bytes.length + 1
  | .lit _ => 1
  | .nil => 1
  | .ptr d => uptoBulk d + 1
  | .slice elems spare => uptoBulkAll elems + uptoBulkAll spare + 1
  | .agg parts => uptoBulkAll parts + 1
  | .iface _ d => uptoBulk d + 1
  | .map entries => uptoBulkEntries entries + 1
  | .held _ => 1
def uptoBulkAll {H : Type} : List (DataW H) → Nat
  | [] => 0
  | d :: r => uptoBulk d + uptoBulkAll r
def uptoBulkEntries {H : Type} : List (Lit × DataW H) → Nat
  | [] => 0
  | x :: r => uptoBulkEntry x + uptoBulkEntries r
def uptoBulkEntry {H : Type} : Lit × DataW H → Nat
  | (.string bytes, d) => bytes.length + uptoBulk d + 1
  | (_, d) => uptoBulk d + 1
 end
def uptoSmall : (H : Type) → List (DataW H) → Bool := fun _ ds => decide (uptoBulkAll ds ≤ 1048576)
def OpenSpec.upto (s : _root_.Go.ChangeSpec) : _root_.Go.OpenSpec := { _root_.Go.OpenSpec.ofChange s with cond := some uptoSmall }

/-- 'brokerlaw13.IdentChecks', WHERE WHAT IT READS IS OF BULK AT MOST 1048576: true; the input reads as it did. -/
def identChecksUptoRow : OpenClaim := { program := "ytfgimdalhdgpcaa", sum := "d309bcd3c274f3f443ca2d10eabc26c09cf0488e9e994b1b6165f58def22499b", func := "broker/brokerlaw13.IdentChecks", spec := "identChecks", inPlace := ["slices.overlaps[int]"], apart := false, narrowed := true }
def IdentChecksUptoSaid : Prop := identChecksUptoRow.holds Try.pinned (OpenSpec.upto identChecksSpec)

/-- 'brokerlaw13.IdentTakes', WHERE WHAT IT READS IS OF BULK AT MOST 1048576: true; the input reads as it did. -/
def identTakesUptoRow : OpenClaim := { program := "ytfgimdalhdgpcaa", sum := "d309bcd3c274f3f443ca2d10eabc26c09cf0488e9e994b1b6165f58def22499b", func := "broker/brokerlaw13.IdentTakes", spec := "identTakes", inPlace := ["slices.overlaps[int]"], apart := false, narrowed := true }
def IdentTakesUptoSaid : Prop := identTakesUptoRow.holds Try.pinned (OpenSpec.upto identTakesSpec)

/-- 'brokerlaw13.IdentFrees', WHERE WHAT IT READS IS OF BULK AT MOST 1048576: true; the input reads as it did. -/
def identFreesUptoRow : OpenClaim := { program := "ytfgimdalhdgpcaa", sum := "d309bcd3c274f3f443ca2d10eabc26c09cf0488e9e994b1b6165f58def22499b", func := "broker/brokerlaw13.IdentFrees", spec := "identFrees", inPlace := ["slices.overlaps[int]"], apart := false, narrowed := true }
def IdentFreesUptoSaid : Prop := identFreesUptoRow.holds Try.pinned (OpenSpec.upto identFreesSpec)

/-- 'brokerlaw13.IdentNew', WHERE WHAT IT READS IS OF BULK AT MOST 1048576: true; the input reads as it did. -/
def identNewUptoRow : OpenClaim := { program := "ytfgimdalhdgpcaa", sum := "d309bcd3c274f3f443ca2d10eabc26c09cf0488e9e994b1b6165f58def22499b", func := "broker/brokerlaw13.IdentNew", spec := "identNew", inPlace := ["slices.overlaps[int]"], apart := false, narrowed := true }
def IdentNewUptoSaid : Prop := identNewUptoRow.holds Try.pinned (OpenSpec.upto identNewSpec)

/-- 'brokerlaw13.IdentRuns', WHERE WHAT IT READS IS OF BULK AT MOST 1048576: true; the input reads as it did. -/
def identRunsUptoRow : OpenClaim := { program := "ytfgimdalhdgpcaa", sum := "d309bcd3c274f3f443ca2d10eabc26c09cf0488e9e994b1b6165f58def22499b", func := "broker/brokerlaw13.IdentRuns", spec := "identRuns", inPlace := ["slices.overlaps[int]"], apart := false, narrowed := true }
def IdentRunsUptoSaid : Prop := identRunsUptoRow.holds Try.pinned (OpenSpec.upto identRunsSpec)

/-- 'brokerlaw13.IdentLate', WHERE WHAT IT READS IS OF BULK AT MOST 1048576: true; the input reads as it did. -/
def identLateUptoRow : OpenClaim := { program := "ytfgimdalhdgpcaa", sum := "d309bcd3c274f3f443ca2d10eabc26c09cf0488e9e994b1b6165f58def22499b", func := "broker/brokerlaw13.IdentLate", spec := "identLate", inPlace := ["slices.overlaps[int]"], apart := false, narrowed := true }
def IdentLateUptoSaid : Prop := identLateUptoRow.holds Try.pinned (OpenSpec.upto identLateSpec)

end Rows
end Go.Proofs.Ytfgimdalhdgpcaa
