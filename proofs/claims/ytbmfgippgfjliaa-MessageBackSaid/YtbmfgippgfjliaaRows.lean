/-
  No cell of these rows narrows 'for every input' (looked for: loops, veiled, ifaces, maps, wideKeys, modest, calm, conditions, laid).
  DERIVED. THE GIVEN ROWS OF THIS SEAT. 9 by the template 'for every input the law returns true; each argument reads behind the call as it read before'; 0 by the template 'total and deterministic' (their statements: YtbmfgippgfjliaaTotals.lean).
  GIVEN WITH THE SEED: the statements are not yours to turn. If you find one false, say at which input.
  Laid BY PROGRAM, IN A SANDBOX (cutbox-rows.mjs): the forced cells as the released guide's own fill.sh prints them over the translation 779c18de9ce38c31… (all of the seat's roots in one cut). By AI agents, Wed Nov 11 2026. No macro, syntax, notation, axiom, sorry.
-/
import Derived.Test.YtbmfgippgfjliaaChecked
import GoSem.Claim
import GoSem.ClaimJoined
import GoSem.ClaimMapViews
import Derived.JoinedTies
import Derived.KernelRfl
namespace Go.Proofs.Ytbmfgippgfjliaa
/- THE CELL 'sum', in the pinned program and in every row, IS THE sha256 OF THE DUMP (.gsa) THAT YtbmfgippgfjliaaProg.lean LOADS. Nothing in Lean hashes anything: it is a label: what it is worth is what the hold of that sum in a sandbox is worth. -/
noncomputable def Try.pinned : Pinned := { name := "ytbmfgippgfjliaa", sum := "779c18de9ce38c312856f4e3b24c952c714d4a8b3cf965e9311845d69682d3b2", checked := Try.checked }
namespace Rows
def none {H : Type} : Left H := { results := [], args := [] }

/-- 'brokerlaw05.MessageProps': WHATEVER THE INPUT: true; the input reads as it did. -/
def messagePropsSpec : ChangeSpec := { name := "messageProps", fn := fun _ => fun
  | [d] => { results := [.lit (.bool true)], args := [d] }
  | _ => none }
def messagePropsRow : OpenClaim := { program := "ytbmfgippgfjliaa", sum := "779c18de9ce38c312856f4e3b24c952c714d4a8b3cf965e9311845d69682d3b2", func := "broker/brokerlaw05.MessageProps", spec := "messageProps", apart := false }
def MessagePropsSaid : Prop := messagePropsRow.holds Try.pinned (OpenSpec.ofChange messagePropsSpec)

/-- ITS FALSE NEIGHBOUR: 'it returns false'. Refute it at one input. -/
def messagePropsWrong : ChangeSpec := { name := "messageProps", fn := fun _ => fun
  | [d] => { results := [.lit (.bool false)], args := [d] }
  | _ => none }
def MessagePropsWrongFalsely : Prop := messagePropsRow.holds Try.pinned (OpenSpec.ofChange messagePropsWrong)

/-- 'brokerlaw05.MessageGets': WHATEVER THE INPUT: true; the input reads as it did. -/
def messageGetsSpec : ChangeSpec := { name := "messageGets", fn := fun _ => fun
  | [d1, d2, d3] => { results := [.lit (.bool true)], args := [d1, d2, d3] }
  | _ => none }
def messageGetsRow : OpenClaim := { program := "ytbmfgippgfjliaa", sum := "779c18de9ce38c312856f4e3b24c952c714d4a8b3cf965e9311845d69682d3b2", func := "broker/brokerlaw05.MessageGets", spec := "messageGets", apart := false }
def MessageGetsSaid : Prop := messageGetsRow.holds Try.pinned (OpenSpec.ofChange messageGetsSpec)

/-- ITS FALSE NEIGHBOUR: 'it returns false'. Refute it at one input. -/
def messageGetsWrong : ChangeSpec := { name := "messageGets", fn := fun _ => fun
  | [d1, d2, d3] => { results := [.lit (.bool false)], args := [d1, d2, d3] }
  | _ => none }
def MessageGetsWrongFalsely : Prop := messageGetsRow.holds Try.pinned (OpenSpec.ofChange messageGetsWrong)

/-- 'brokerlaw05.MessageSets': WHATEVER THE INPUT: true; the input reads as it did. -/
def messageSetsSpec : ChangeSpec := { name := "messageSets", fn := fun _ => fun
  | [d1, d2, d3] => { results := [.lit (.bool true)], args := [d1, d2, d3] }
  | _ => none }
def messageSetsRow : OpenClaim := { program := "ytbmfgippgfjliaa", sum := "779c18de9ce38c312856f4e3b24c952c714d4a8b3cf965e9311845d69682d3b2", func := "broker/brokerlaw05.MessageSets", spec := "messageSets", apart := false }
def MessageSetsSaid : Prop := messageSetsRow.holds Try.pinned (OpenSpec.ofChange messageSetsSpec)

/-- ITS FALSE NEIGHBOUR: 'it returns false'. Refute it at one input. -/
def messageSetsWrong : ChangeSpec := { name := "messageSets", fn := fun _ => fun
  | [d1, d2, d3] => { results := [.lit (.bool false)], args := [d1, d2, d3] }
  | _ => none }
def MessageSetsWrongFalsely : Prop := messageSetsRow.holds Try.pinned (OpenSpec.ofChange messageSetsWrong)

/-- 'brokerlaw05.MessageChecks': WHATEVER THE INPUT: true; the input reads as it did. -/
def messageChecksSpec : ChangeSpec := { name := "messageChecks", fn := fun _ => fun
  | [d1, d2] => { results := [.lit (.bool true)], args := [d1, d2] }
  | _ => none }
def messageChecksRow : OpenClaim := { program := "ytbmfgippgfjliaa", sum := "779c18de9ce38c312856f4e3b24c952c714d4a8b3cf965e9311845d69682d3b2", func := "broker/brokerlaw05.MessageChecks", spec := "messageChecks", apart := false }
def MessageChecksSaid : Prop := messageChecksRow.holds Try.pinned (OpenSpec.ofChange messageChecksSpec)

/-- ITS FALSE NEIGHBOUR: 'it returns false'. Refute it at one input. -/
def messageChecksWrong : ChangeSpec := { name := "messageChecks", fn := fun _ => fun
  | [d1, d2] => { results := [.lit (.bool false)], args := [d1, d2] }
  | _ => none }
def MessageChecksWrongFalsely : Prop := messageChecksRow.holds Try.pinned (OpenSpec.ofChange messageChecksWrong)

/-- 'brokerlaw05.MessageSame': WHATEVER THE INPUT: true; the input reads as it did. -/
def messageSameSpec : ChangeSpec := { name := "messageSame", fn := fun _ => fun
  | [d1, d2] => { results := [.lit (.bool true)], args := [d1, d2] }
  | _ => none }
def messageSameRow : OpenClaim := { program := "ytbmfgippgfjliaa", sum := "779c18de9ce38c312856f4e3b24c952c714d4a8b3cf965e9311845d69682d3b2", func := "broker/brokerlaw05.MessageSame", spec := "messageSame", apart := false }
def MessageSameSaid : Prop := messageSameRow.holds Try.pinned (OpenSpec.ofChange messageSameSpec)

/-- ITS FALSE NEIGHBOUR: 'it returns false'. Refute it at one input. -/
def messageSameWrong : ChangeSpec := { name := "messageSame", fn := fun _ => fun
  | [d1, d2] => { results := [.lit (.bool false)], args := [d1, d2] }
  | _ => none }
def MessageSameWrongFalsely : Prop := messageSameRow.holds Try.pinned (OpenSpec.ofChange messageSameWrong)

/-- 'brokerlaw05.MessagePuts': WHATEVER THE INPUT: true; the input reads as it did. -/
def messagePutsSpec : ChangeSpec := { name := "messagePuts", fn := fun _ => fun
  | [d1, d2] => { results := [.lit (.bool true)], args := [d1, d2] }
  | _ => none }
def messagePutsRow : OpenClaim := { program := "ytbmfgippgfjliaa", sum := "779c18de9ce38c312856f4e3b24c952c714d4a8b3cf965e9311845d69682d3b2", func := "broker/brokerlaw05.MessagePuts", spec := "messagePuts", apart := false }
def MessagePutsSaid : Prop := messagePutsRow.holds Try.pinned (OpenSpec.ofChange messagePutsSpec)

/-- ITS FALSE NEIGHBOUR: 'it returns false'. Refute it at one input. -/
def messagePutsWrong : ChangeSpec := { name := "messagePuts", fn := fun _ => fun
  | [d1, d2] => { results := [.lit (.bool false)], args := [d1, d2] }
  | _ => none }
def MessagePutsWrongFalsely : Prop := messagePutsRow.holds Try.pinned (OpenSpec.ofChange messagePutsWrong)

/-- 'brokerlaw05.MessageTakes': WHATEVER THE INPUT: true; the input reads as it did. -/
def messageTakesSpec : ChangeSpec := { name := "messageTakes", fn := fun _ => fun
  | [d1, d2] => { results := [.lit (.bool true)], args := [d1, d2] }
  | _ => none }
def messageTakesRow : OpenClaim := { program := "ytbmfgippgfjliaa", sum := "779c18de9ce38c312856f4e3b24c952c714d4a8b3cf965e9311845d69682d3b2", func := "broker/brokerlaw05.MessageTakes", spec := "messageTakes", apart := false }
def MessageTakesSaid : Prop := messageTakesRow.holds Try.pinned (OpenSpec.ofChange messageTakesSpec)

/-- ITS FALSE NEIGHBOUR: 'it returns false'. Refute it at one input. -/
def messageTakesWrong : ChangeSpec := { name := "messageTakes", fn := fun _ => fun
  | [d1, d2] => { results := [.lit (.bool false)], args := [d1, d2] }
  | _ => none }
def MessageTakesWrongFalsely : Prop := messageTakesRow.holds Try.pinned (OpenSpec.ofChange messageTakesWrong)

/-- 'brokerlaw05.MessageBack': WHATEVER THE INPUT: true; the input reads as it did. -/
def messageBackSpec : ChangeSpec := { name := "messageBack", fn := fun _ => fun
  | [d1, d2, d3] => { results := [.lit (.bool true)], args := [d1, d2, d3] }
  | _ => none }
def messageBackRow : OpenClaim := { program := "ytbmfgippgfjliaa", sum := "779c18de9ce38c312856f4e3b24c952c714d4a8b3cf965e9311845d69682d3b2", func := "broker/brokerlaw05.MessageBack", spec := "messageBack", apart := false }
def MessageBackSaid : Prop := messageBackRow.holds Try.pinned (OpenSpec.ofChange messageBackSpec)

/-- ITS FALSE NEIGHBOUR: 'it returns false'. Refute it at one input. -/
def messageBackWrong : ChangeSpec := { name := "messageBack", fn := fun _ => fun
  | [d1, d2, d3] => { results := [.lit (.bool false)], args := [d1, d2, d3] }
  | _ => none }
def MessageBackWrongFalsely : Prop := messageBackRow.holds Try.pinned (OpenSpec.ofChange messageBackWrong)

/-- 'brokerlaw05.MessageOnly': WHATEVER THE INPUT: true; the input reads as it did. -/
def messageOnlySpec : ChangeSpec := { name := "messageOnly", fn := fun _ => fun
  | [d] => { results := [.lit (.bool true)], args := [d] }
  | _ => none }
def messageOnlyRow : OpenClaim := { program := "ytbmfgippgfjliaa", sum := "779c18de9ce38c312856f4e3b24c952c714d4a8b3cf965e9311845d69682d3b2", func := "broker/brokerlaw05.MessageOnly", spec := "messageOnly", apart := false }
def MessageOnlySaid : Prop := messageOnlyRow.holds Try.pinned (OpenSpec.ofChange messageOnlySpec)

/-- ITS FALSE NEIGHBOUR: 'it returns false'. Refute it at one input. -/
def messageOnlyWrong : ChangeSpec := { name := "messageOnly", fn := fun _ => fun
  | [d] => { results := [.lit (.bool false)], args := [d] }
  | _ => none }
def MessageOnlyWrongFalsely : Prop := messageOnlyRow.holds Try.pinned (OpenSpec.ofChange messageOnlyWrong)

/- THE SECOND FORM. 'bulk': how many values and letters a reading holds, each counted each time it is reached (what is shared counts as often as it is met; a slice's spare places count too). A statement '..UptoSaid' is the law's where the arguments, and the package variables that the reading takes, are together of bulk at most 1048576: NARROWER than '..Said'. Prove '..Said' where nothing that the law and all that it calls make is longer than what came in: it says more and counts as full. Else prove '..UptoSaid'. A law counts once. -/
mutual
def uptoBulk {H : Type} : DataW H → Nat
  | .lit (.string bytes) => bytes.length + 1
  | .lit _ => 1
  | .nil => 1
  | .ptr d => uptoBulk d + 1
  | .slice elems spare => uptoBulkAll elems + uptoBulkAll spare + 1
  | .agg parts => uptoBulkAll parts + 1
  | .iface _ d => uptoBulk d + 1
  | .map entries => uptoBulkEntries entries + 1
  | .held _ => 1
def uptoBulkAll {H : Type} : List (DataW H) → Nat
  | [] => 0
  | d :: r => uptoBulk d + uptoBulkAll r
def uptoBulkEntries {H : Type} : List (Lit × DataW H) → Nat
  | [] => 0
  | x :: r => uptoBulkEntry x + uptoBulkEntries r
def uptoBulkEntry {H : Type} : Lit × DataW H → Nat
  | (.string bytes, d) => bytes.length + uptoBulk d + 1
  | (_, d) => uptoBulk d + 1
 end
def uptoSmall : (H : Type) → List (DataW H) → Bool := fun _ ds => decide (uptoBulkAll ds ≤ 1048576)
def OpenSpec.upto (s : _root_.Go.ChangeSpec) : _root_.Go.OpenSpec := { _root_.Go.OpenSpec.ofChange s with cond := some uptoSmall }

/-- 'brokerlaw05.MessageProps', WHERE WHAT IT READS IS OF BULK AT MOST 1048576: true; the input reads as it did. -/
def messagePropsUptoRow : OpenClaim := { program := "ytbmfgippgfjliaa", sum := "779c18de9ce38c312856f4e3b24c952c714d4a8b3cf965e9311845d69682d3b2", func := "broker/brokerlaw05.MessageProps", spec := "messageProps", apart := false, narrowed := true }
def MessagePropsUptoSaid : Prop := messagePropsUptoRow.holds Try.pinned (OpenSpec.upto messagePropsSpec)

/-- 'brokerlaw05.MessageGets', WHERE WHAT IT READS IS OF BULK AT MOST 1048576: true; the input reads as it did. -/
def messageGetsUptoRow : OpenClaim := { program := "ytbmfgippgfjliaa", sum := "779c18de9ce38c312856f4e3b24c952c714d4a8b3cf965e9311845d69682d3b2", func := "broker/brokerlaw05.MessageGets", spec := "messageGets", apart := false, narrowed := true }
def MessageGetsUptoSaid : Prop := messageGetsUptoRow.holds Try.pinned (OpenSpec.upto messageGetsSpec)

/-- 'brokerlaw05.MessageSets', WHERE WHAT IT READS IS OF BULK AT MOST 1048576: true; the input reads as it did. -/
def messageSetsUptoRow : OpenClaim := { program := "ytbmfgippgfjliaa", sum := "779c18de9ce38c312856f4e3b24c952c714d4a8b3cf965e9311845d69682d3b2", func := "broker/brokerlaw05.MessageSets", spec := "messageSets", apart := false, narrowed := true }
def MessageSetsUptoSaid : Prop := messageSetsUptoRow.holds Try.pinned (OpenSpec.upto messageSetsSpec)

/-- 'brokerlaw05.MessageChecks', WHERE WHAT IT READS IS OF BULK AT MOST 1048576: true; the input reads as it did. -/
def messageChecksUptoRow : OpenClaim := { program := "ytbmfgippgfjliaa", sum := "779c18de9ce38c312856f4e3b24c952c714d4a8b3cf965e9311845d69682d3b2", func := "broker/brokerlaw05.MessageChecks", spec := "messageChecks", apart := false, narrowed := true }
def MessageChecksUptoSaid : Prop := messageChecksUptoRow.holds Try.pinned (OpenSpec.upto messageChecksSpec)

/-- 'brokerlaw05.MessageSame', WHERE WHAT IT READS IS OF BULK AT MOST 1048576: true; the input reads as it did. -/
def messageSameUptoRow : OpenClaim := { program := "ytbmfgippgfjliaa", sum := "779c18de9ce38c312856f4e3b24c952c714d4a8b3cf965e9311845d69682d3b2", func := "broker/brokerlaw05.MessageSame", spec := "messageSame", apart := false, narrowed := true }
def MessageSameUptoSaid : Prop := messageSameUptoRow.holds Try.pinned (OpenSpec.upto messageSameSpec)

/-- 'brokerlaw05.MessagePuts', WHERE WHAT IT READS IS OF BULK AT MOST 1048576: true; the input reads as it did. -/
def messagePutsUptoRow : OpenClaim := { program := "ytbmfgippgfjliaa", sum := "779c18de9ce38c312856f4e3b24c952c714d4a8b3cf965e9311845d69682d3b2", func := "broker/brokerlaw05.MessagePuts", spec := "messagePuts", apart := false, narrowed := true }
def MessagePutsUptoSaid : Prop := messagePutsUptoRow.holds Try.pinned (OpenSpec.upto messagePutsSpec)

/-- 'brokerlaw05.MessageTakes', WHERE WHAT IT READS IS OF BULK AT MOST 1048576: true; the input reads as it did. -/
def messageTakesUptoRow : OpenClaim := { program := "ytbmfgippgfjliaa", sum := "779c18de9ce38c312856f4e3b24c952c714d4a8b3cf965e9311845d69682d3b2", func := "broker/brokerlaw05.MessageTakes", spec := "messageTakes", apart := false, narrowed := true }
def MessageTakesUptoSaid : Prop := messageTakesUptoRow.holds Try.pinned (OpenSpec.upto messageTakesSpec)

/-- 'brokerlaw05.MessageBack', WHERE WHAT IT READS IS OF BULK AT MOST 1048576: true; the input reads as it did. -/
def messageBackUptoRow : OpenClaim := { program := "ytbmfgippgfjliaa", sum := "779c18de9ce38c312856f4e3b24c952c714d4a8b3cf965e9311845d69682d3b2", func := "broker/brokerlaw05.MessageBack", spec := "messageBack", apart := false, narrowed := true }
def MessageBackUptoSaid : Prop := messageBackUptoRow.holds Try.pinned (OpenSpec.upto messageBackSpec)

/-- 'brokerlaw05.MessageOnly', WHERE WHAT IT READS IS OF BULK AT MOST 1048576: true; the input reads as it did. -/
def messageOnlyUptoRow : OpenClaim := { program := "ytbmfgippgfjliaa", sum := "779c18de9ce38c312856f4e3b24c952c714d4a8b3cf965e9311845d69682d3b2", func := "broker/brokerlaw05.MessageOnly", spec := "messageOnly", apart := false, narrowed := true }
def MessageOnlyUptoSaid : Prop := messageOnlyUptoRow.holds Try.pinned (OpenSpec.upto messageOnlySpec)

end Rows
end Go.Proofs.Ytbmfgippgfjliaa
