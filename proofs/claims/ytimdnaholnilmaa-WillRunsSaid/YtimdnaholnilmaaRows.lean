/-
  No cell of these rows narrows 'for every input' (looked for: loops, veiled, ifaces, maps, wideKeys, modest, calm, conditions, laid).
  DERIVED. THE GIVEN ROWS OF THIS SEAT. 7 by the template 'for every input the law returns true; each argument reads behind the call as it read before'; 0 by the template 'total and deterministic' (their statements: YtimdnaholnilmaaTotals.lean).
  GIVEN WITH THE SEED: the statements are not yours to turn. If you find one false, say at which input.
  Laid BY PROGRAM, IN A SANDBOX (cutbox-rows.mjs): the forced cells as the released guide's own fill.sh prints them over the translation 493c79ab355c241a… (all of the seat's roots in one cut). By AI agents, Wed Nov 11 2026. No macro, syntax, notation, axiom, sorry.
-/
import Derived.Test.YtimdnaholnilmaaChecked
import GoSem.Claim
import GoSem.ClaimJoined
import GoSem.ClaimMapViews
import Derived.JoinedTies
import Derived.KernelRfl
namespace Go.Proofs.Ytimdnaholnilmaa
/- THE CELL 'sum', in the pinned program and in every row, IS THE sha256 OF THE DUMP (.gsa) THAT YtimdnaholnilmaaProg.lean LOADS. Nothing in Lean hashes anything: it is a label: what it is worth is what the hold of that sum in a sandbox is worth. -/
noncomputable def Try.pinned : Pinned := { name := "ytimdnaholnilmaa", sum := "493c79ab355c241a19f1c50836129a839186af7862232daa4c45e9f240984f4c", checked := Try.checked }
namespace Rows
def none {H : Type} : Left H := { results := [], args := [] }

/-- 'brokerlaw18.WillChecks': WHATEVER THE INPUT: true; the input reads as it did. -/
def willChecksSpec : ChangeSpec := { name := "willChecks", fn := fun _ => fun
  | [d] => { results := [.lit (.bool true)], args := [d] }
  | _ => none }
def willChecksRow : OpenClaim := { program := "ytimdnaholnilmaa", sum := "493c79ab355c241a19f1c50836129a839186af7862232daa4c45e9f240984f4c", func := "broker/brokerlaw18.WillChecks", spec := "willChecks", inPlace := ["internal/bytealg.abigen_runtime_cmpstring"], unfollowed := true, recurses := true, apart := false }
def WillChecksSaid : Prop := willChecksRow.holds Try.pinned (OpenSpec.ofChange willChecksSpec)

/-- ITS FALSE NEIGHBOUR: 'it returns false'. Refute it at one input. -/
def willChecksWrong : ChangeSpec := { name := "willChecks", fn := fun _ => fun
  | [d] => { results := [.lit (.bool false)], args := [d] }
  | _ => none }
def WillChecksWrongFalsely : Prop := willChecksRow.holds Try.pinned (OpenSpec.ofChange willChecksWrong)

/-- 'brokerlaw18.WillArms': WHATEVER THE INPUT: true; the input reads as it did. -/
def willArmsSpec : ChangeSpec := { name := "willArms", fn := fun _ => fun
  | [d1, d2, d3, d4] => { results := [.lit (.bool true)], args := [d1, d2, d3, d4] }
  | _ => none }
def willArmsRow : OpenClaim := { program := "ytimdnaholnilmaa", sum := "493c79ab355c241a19f1c50836129a839186af7862232daa4c45e9f240984f4c", func := "broker/brokerlaw18.WillArms", spec := "willArms", inPlace := ["internal/bytealg.abigen_runtime_cmpstring"], unfollowed := true, recurses := true, apart := false }
def WillArmsSaid : Prop := willArmsRow.holds Try.pinned (OpenSpec.ofChange willArmsSpec)

/-- ITS FALSE NEIGHBOUR: 'it returns false'. Refute it at one input. -/
def willArmsWrong : ChangeSpec := { name := "willArms", fn := fun _ => fun
  | [d1, d2, d3, d4] => { results := [.lit (.bool false)], args := [d1, d2, d3, d4] }
  | _ => none }
def WillArmsWrongFalsely : Prop := willArmsRow.holds Try.pinned (OpenSpec.ofChange willArmsWrong)

/-- 'brokerlaw18.WillCancels': WHATEVER THE INPUT: true; the input reads as it did. -/
def willCancelsSpec : ChangeSpec := { name := "willCancels", fn := fun _ => fun
  | [d1, d2] => { results := [.lit (.bool true)], args := [d1, d2] }
  | _ => none }
def willCancelsRow : OpenClaim := { program := "ytimdnaholnilmaa", sum := "493c79ab355c241a19f1c50836129a839186af7862232daa4c45e9f240984f4c", func := "broker/brokerlaw18.WillCancels", spec := "willCancels", inPlace := ["internal/bytealg.abigen_runtime_cmpstring"], unfollowed := true, recurses := true, apart := false }
def WillCancelsSaid : Prop := willCancelsRow.holds Try.pinned (OpenSpec.ofChange willCancelsSpec)

/-- ITS FALSE NEIGHBOUR: 'it returns false'. Refute it at one input. -/
def willCancelsWrong : ChangeSpec := { name := "willCancels", fn := fun _ => fun
  | [d1, d2] => { results := [.lit (.bool false)], args := [d1, d2] }
  | _ => none }
def WillCancelsWrongFalsely : Prop := willCancelsRow.holds Try.pinned (OpenSpec.ofChange willCancelsWrong)

/-- 'brokerlaw18.WillTakes': WHATEVER THE INPUT: true; the input reads as it did. -/
def willTakesSpec : ChangeSpec := { name := "willTakes", fn := fun _ => fun
  | [d1, d2] => { results := [.lit (.bool true)], args := [d1, d2] }
  | _ => none }
def willTakesRow : OpenClaim := { program := "ytimdnaholnilmaa", sum := "493c79ab355c241a19f1c50836129a839186af7862232daa4c45e9f240984f4c", func := "broker/brokerlaw18.WillTakes", spec := "willTakes", inPlace := ["internal/bytealg.abigen_runtime_cmpstring"], unfollowed := true, recurses := true, apart := false }
def WillTakesSaid : Prop := willTakesRow.holds Try.pinned (OpenSpec.ofChange willTakesSpec)

/-- ITS FALSE NEIGHBOUR: 'it returns false'. Refute it at one input. -/
def willTakesWrong : ChangeSpec := { name := "willTakes", fn := fun _ => fun
  | [d1, d2] => { results := [.lit (.bool false)], args := [d1, d2] }
  | _ => none }
def WillTakesWrongFalsely : Prop := willTakesRow.holds Try.pinned (OpenSpec.ofChange willTakesWrong)

/-- 'brokerlaw18.WillNext': WHATEVER THE INPUT: true; the input reads as it did. -/
def willNextSpec : ChangeSpec := { name := "willNext", fn := fun _ => fun
  | [d] => { results := [.lit (.bool true)], args := [d] }
  | _ => none }
def willNextRow : OpenClaim := { program := "ytimdnaholnilmaa", sum := "493c79ab355c241a19f1c50836129a839186af7862232daa4c45e9f240984f4c", func := "broker/brokerlaw18.WillNext", spec := "willNext", inPlace := ["internal/bytealg.abigen_runtime_cmpstring"], unfollowed := true, recurses := true, apart := false }
def WillNextSaid : Prop := willNextRow.holds Try.pinned (OpenSpec.ofChange willNextSpec)

/-- ITS FALSE NEIGHBOUR: 'it returns false'. Refute it at one input. -/
def willNextWrong : ChangeSpec := { name := "willNext", fn := fun _ => fun
  | [d] => { results := [.lit (.bool false)], args := [d] }
  | _ => none }
def WillNextWrongFalsely : Prop := willNextRow.holds Try.pinned (OpenSpec.ofChange willNextWrong)

/-- 'brokerlaw18.WillRuns': WHATEVER THE INPUT: true; the input reads as it did. -/
def willRunsSpec : ChangeSpec := { name := "willRuns", fn := fun _ => fun
  | [d] => { results := [.lit (.bool true)], args := [d] }
  | _ => none }
def willRunsRow : OpenClaim := { program := "ytimdnaholnilmaa", sum := "493c79ab355c241a19f1c50836129a839186af7862232daa4c45e9f240984f4c", func := "broker/brokerlaw18.WillRuns", spec := "willRuns", inPlace := ["internal/bytealg.abigen_runtime_cmpstring"], unfollowed := true, recurses := true, apart := false }
def WillRunsSaid : Prop := willRunsRow.holds Try.pinned (OpenSpec.ofChange willRunsSpec)

/-- ITS FALSE NEIGHBOUR: 'it returns false'. Refute it at one input. -/
def willRunsWrong : ChangeSpec := { name := "willRuns", fn := fun _ => fun
  | [d] => { results := [.lit (.bool false)], args := [d] }
  | _ => none }
def WillRunsWrongFalsely : Prop := willRunsRow.holds Try.pinned (OpenSpec.ofChange willRunsWrong)

/-- 'brokerlaw18.WillOnce': WHATEVER THE INPUT: true; the input reads as it did. -/
def willOnceSpec : ChangeSpec := { name := "willOnce", fn := fun _ => fun
  | [d1, d2, d3, d4, d5, d6] => { results := [.lit (.bool true)], args := [d1, d2, d3, d4, d5, d6] }
  | _ => none }
def willOnceRow : OpenClaim := { program := "ytimdnaholnilmaa", sum := "493c79ab355c241a19f1c50836129a839186af7862232daa4c45e9f240984f4c", func := "broker/brokerlaw18.WillOnce", spec := "willOnce", inPlace := ["internal/bytealg.abigen_runtime_cmpstring"], unfollowed := true, recurses := true, apart := false }
def WillOnceSaid : Prop := willOnceRow.holds Try.pinned (OpenSpec.ofChange willOnceSpec)

/-- ITS FALSE NEIGHBOUR: 'it returns false'. Refute it at one input. -/
def willOnceWrong : ChangeSpec := { name := "willOnce", fn := fun _ => fun
  | [d1, d2, d3, d4, d5, d6] => { results := [.lit (.bool false)], args := [d1, d2, d3, d4, d5, d6] }
  | _ => none }
def WillOnceWrongFalsely : Prop := willOnceRow.holds Try.pinned (OpenSpec.ofChange willOnceWrong)

/- THE SECOND FORM. 'bulk': how many values and letters a reading holds, each counted each time it is reached (what is shared counts as often as it is met; a slice's spare places count too). A statement '..UptoSaid' is the law's where the arguments, and the package variables that the reading takes, are together of bulk at most 1048576: NARROWER than '..Said'. Prove '..Said' where nothing that the law and all that it calls make is longer than what came in: it says more and counts as full. Else prove '..UptoSaid'. A law counts once. -/
mutual
def uptoBulk {H : Type} : DataW H → Nat
  | .lit (.string bytes) => bytes.length + 1
  | .lit _ => 1
  | .nil => 1
  | .ptr d => uptoBulk d + 1
  | .slice elems spare => uptoBulkAll elems + uptoBulkAll spare + 1
  | .agg parts => uptoBulkAll parts + 1
  | .iface _ d => uptoBulk d + 1
  | .map entries => uptoBulkEntries entries + 1
  | .held _ => 1
def uptoBulkAll {H : Type} : List (DataW H) → Nat
  | [] => 0
  | d :: r => uptoBulk d + uptoBulkAll r
def uptoBulkEntries {H : Type} : List (Lit × DataW H) → Nat
  | [] => 0
  | x :: r => uptoBulkEntry x + uptoBulkEntries r
def uptoBulkEntry {H : Type} : Lit × DataW H → Nat
  | (.string bytes, d) => bytes.length + uptoBulk d + 1
  | (_, d) => uptoBulk d + 1
 end
def uptoSmall : (H : Type) → List (DataW H) → Bool := fun _ ds => decide (uptoBulkAll ds ≤ 1048576)
def OpenSpec.upto (s : _root_.Go.ChangeSpec) : _root_.Go.OpenSpec := { _root_.Go.OpenSpec.ofChange s with cond := some uptoSmall }

/-- 'brokerlaw18.WillChecks', WHERE WHAT IT READS IS OF BULK AT MOST 1048576: true; the input reads as it did. -/
def willChecksUptoRow : OpenClaim := { program := "ytimdnaholnilmaa", sum := "493c79ab355c241a19f1c50836129a839186af7862232daa4c45e9f240984f4c", func := "broker/brokerlaw18.WillChecks", spec := "willChecks", inPlace := ["internal/bytealg.abigen_runtime_cmpstring"], unfollowed := true, recurses := true, apart := false, narrowed := true }
def WillChecksUptoSaid : Prop := willChecksUptoRow.holds Try.pinned (OpenSpec.upto willChecksSpec)

/-- 'brokerlaw18.WillArms', WHERE WHAT IT READS IS OF BULK AT MOST 1048576: true; the input reads as it did. -/
def willArmsUptoRow : OpenClaim := { program := "ytimdnaholnilmaa", sum := "493c79ab355c241a19f1c50836129a839186af7862232daa4c45e9f240984f4c", func := "broker/brokerlaw18.WillArms", spec := "willArms", inPlace := ["internal/bytealg.abigen_runtime_cmpstring"], unfollowed := true, recurses := true, apart := false, narrowed := true }
def WillArmsUptoSaid : Prop := willArmsUptoRow.holds Try.pinned (OpenSpec.upto willArmsSpec)

/-- 'brokerlaw18.WillCancels', WHERE WHAT IT READS IS OF BULK AT MOST 1048576: true; the input reads as it did. -/
def willCancelsUptoRow : OpenClaim := { program := "ytimdnaholnilmaa", sum := "493c79ab355c241a19f1c50836129a839186af7862232daa4c45e9f240984f4c", func := "broker/brokerlaw18.WillCancels", spec := "willCancels", inPlace := ["internal/bytealg.abigen_runtime_cmpstring"], unfollowed := true, recurses := true, apart := false, narrowed := true }
def WillCancelsUptoSaid : Prop := willCancelsUptoRow.holds Try.pinned (OpenSpec.upto willCancelsSpec)

/-- 'brokerlaw18.WillTakes', WHERE WHAT IT READS IS OF BULK AT MOST 1048576: true; the input reads as it did. -/
def willTakesUptoRow : OpenClaim := { program := "ytimdnaholnilmaa", sum := "493c79ab355c241a19f1c50836129a839186af7862232daa4c45e9f240984f4c", func := "broker/brokerlaw18.WillTakes", spec := "willTakes", inPlace := ["internal/bytealg.abigen_runtime_cmpstring"], unfollowed := true, recurses := true, apart := false, narrowed := true }
def WillTakesUptoSaid : Prop := willTakesUptoRow.holds Try.pinned (OpenSpec.upto willTakesSpec)

/-- 'brokerlaw18.WillNext', WHERE WHAT IT READS IS OF BULK AT MOST 1048576: true; the input reads as it did. -/
def willNextUptoRow : OpenClaim := { program := "ytimdnaholnilmaa", sum := "493c79ab355c241a19f1c50836129a839186af7862232daa4c45e9f240984f4c", func := "broker/brokerlaw18.WillNext", spec := "willNext", inPlace := ["internal/bytealg.abigen_runtime_cmpstring"], unfollowed := true, recurses := true, apart := false, narrowed := true }
def WillNextUptoSaid : Prop := willNextUptoRow.holds Try.pinned (OpenSpec.upto willNextSpec)

/-- 'brokerlaw18.WillRuns', WHERE WHAT IT READS IS OF BULK AT MOST 1048576: true; the input reads as it did. -/
def willRunsUptoRow : OpenClaim := { program := "ytimdnaholnilmaa", sum := "493c79ab355c241a19f1c50836129a839186af7862232daa4c45e9f240984f4c", func := "broker/brokerlaw18.WillRuns", spec := "willRuns", inPlace := ["internal/bytealg.abigen_runtime_cmpstring"], unfollowed := true, recurses := true, apart := false, narrowed := true }
def WillRunsUptoSaid : Prop := willRunsUptoRow.holds Try.pinned (OpenSpec.upto willRunsSpec)

/-- 'brokerlaw18.WillOnce', WHERE WHAT IT READS IS OF BULK AT MOST 1048576: true; the input reads as it did. -/
def willOnceUptoRow : OpenClaim := { program := "ytimdnaholnilmaa", sum := "493c79ab355c241a19f1c50836129a839186af7862232daa4c45e9f240984f4c", func := "broker/brokerlaw18.WillOnce", spec := "willOnce", inPlace := ["internal/bytealg.abigen_runtime_cmpstring"], unfollowed := true, recurses := true, apart := false, narrowed := true }
def WillOnceUptoSaid : Prop := willOnceUptoRow.holds Try.pinned (OpenSpec.upto willOnceSpec)

end Rows
end Go.Proofs.Ytimdnaholnilmaa
