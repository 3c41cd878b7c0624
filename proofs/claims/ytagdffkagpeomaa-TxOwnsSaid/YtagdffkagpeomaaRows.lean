/-
  No cell of these rows narrows 'for every input' (looked for: loops, veiled, ifaces, maps, wideKeys, modest, calm, conditions, laid).
  DERIVED. THE GIVEN ROWS OF THIS SEAT. 5 by the template 'for every input the law returns true; each argument reads behind the call as it read before'; 0 by the template 'total and deterministic' (their statements: YtagdffkagpeomaaTotals.lean).
  GIVEN WITH THE SEED: the statements are not yours to turn. If you find one false, say at which input.
  Laid BY PROGRAM, IN A SANDBOX (cutbox-rows.mjs): the forced cells as the released guide's own fill.sh prints them over the translation d319fc3662be0e11… (all of the seat's roots in one cut). By AI agents, Wed Nov 11 2026. No macro, syntax, notation, axiom, sorry.
-/
import Derived.Test.YtagdffkagpeomaaChecked
import GoSem.Claim
import GoSem.ClaimJoined
import GoSem.ClaimMapViews
import Derived.JoinedTies
import Derived.KernelRfl
namespace Go.Proofs.Ytagdffkagpeomaa
/- THE CELL 'sum', in the pinned program and in every row, IS THE sha256 OF THE DUMP (.gsa) THAT YtagdffkagpeomaaProg.lean LOADS. Nothing in Lean hashes anything: it is a label: what it is worth is what the hold of that sum in a sandbox is worth. -/
noncomputable def Try.pinned : Pinned := { name := "ytagdffkagpeomaa", sum := "d319fc3662be0e11ad9492c7ec1a4e2ace93e60493b3fb676a874c7ae2bfe6bd", checked := Try.checked }
namespace Rows
def none {H : Type} : Left H := { results := [], args := [] }

/-- 'brokerlaw29.TxJoins': WHATEVER THE INPUT: true; the input reads as it did. -/
def txJoinsSpec : ChangeSpec := { name := "txJoins", fn := fun _ => fun
  | [d] => { results := [.lit (.bool true)], args := [d] }
  | _ => none }
def txJoinsRow : OpenClaim := { program := "ytagdffkagpeomaa", sum := "d319fc3662be0e11ad9492c7ec1a4e2ace93e60493b3fb676a874c7ae2bfe6bd", func := "broker/brokerlaw29.TxJoins", spec := "txJoins", inPlace := ["internal/bytealg.IndexByteString"], apart := false }
def TxJoinsSaid : Prop := txJoinsRow.holds Try.pinned (OpenSpec.ofChange txJoinsSpec)

/-- ITS FALSE NEIGHBOUR: 'it returns false'. Refute it at one input. -/
def txJoinsWrong : ChangeSpec := { name := "txJoins", fn := fun _ => fun
  | [d] => { results := [.lit (.bool false)], args := [d] }
  | _ => none }
def TxJoinsWrongFalsely : Prop := txJoinsRow.holds Try.pinned (OpenSpec.ofChange txJoinsWrong)

/-- 'brokerlaw29.TxFull': WHATEVER THE INPUT: true; the input reads as it did. -/
def txFullSpec : ChangeSpec := { name := "txFull", fn := fun _ => fun
  | [d] => { results := [.lit (.bool true)], args := [d] }
  | _ => none }
def txFullRow : OpenClaim := { program := "ytagdffkagpeomaa", sum := "d319fc3662be0e11ad9492c7ec1a4e2ace93e60493b3fb676a874c7ae2bfe6bd", func := "broker/brokerlaw29.TxFull", spec := "txFull", inPlace := ["internal/bytealg.IndexByteString"], apart := false }
def TxFullSaid : Prop := txFullRow.holds Try.pinned (OpenSpec.ofChange txFullSpec)

/-- ITS FALSE NEIGHBOUR: 'it returns false'. Refute it at one input. -/
def txFullWrong : ChangeSpec := { name := "txFull", fn := fun _ => fun
  | [d] => { results := [.lit (.bool false)], args := [d] }
  | _ => none }
def TxFullWrongFalsely : Prop := txFullRow.holds Try.pinned (OpenSpec.ofChange txFullWrong)

/-- 'brokerlaw29.TxOwns': WHATEVER THE INPUT: true; the input reads as it did. -/
def txOwnsSpec : ChangeSpec := { name := "txOwns", fn := fun _ => fun
  | [d] => { results := [.lit (.bool true)], args := [d] }
  | _ => none }
def txOwnsRow : OpenClaim := { program := "ytagdffkagpeomaa", sum := "d319fc3662be0e11ad9492c7ec1a4e2ace93e60493b3fb676a874c7ae2bfe6bd", func := "broker/brokerlaw29.TxOwns", spec := "txOwns", inPlace := ["internal/bytealg.IndexByteString"], apart := false }
def TxOwnsSaid : Prop := txOwnsRow.holds Try.pinned (OpenSpec.ofChange txOwnsSpec)

/-- ITS FALSE NEIGHBOUR: 'it returns false'. Refute it at one input. -/
def txOwnsWrong : ChangeSpec := { name := "txOwns", fn := fun _ => fun
  | [d] => { results := [.lit (.bool false)], args := [d] }
  | _ => none }
def TxOwnsWrongFalsely : Prop := txOwnsRow.holds Try.pinned (OpenSpec.ofChange txOwnsWrong)

/-- 'brokerlaw29.TxPlays': WHATEVER THE INPUT: true; the input reads as it did. -/
def txPlaysSpec : ChangeSpec := { name := "txPlays", fn := fun _ => fun
  | [d1, d2] => { results := [.lit (.bool true)], args := [d1, d2] }
  | _ => none }
def txPlaysRow : OpenClaim := { program := "ytagdffkagpeomaa", sum := "d319fc3662be0e11ad9492c7ec1a4e2ace93e60493b3fb676a874c7ae2bfe6bd", func := "broker/brokerlaw29.TxPlays", spec := "txPlays", inPlace := ["internal/bytealg.IndexByteString"], apart := false }
def TxPlaysSaid : Prop := txPlaysRow.holds Try.pinned (OpenSpec.ofChange txPlaysSpec)

/-- ITS FALSE NEIGHBOUR: 'it returns false'. Refute it at one input. -/
def txPlaysWrong : ChangeSpec := { name := "txPlays", fn := fun _ => fun
  | [d1, d2] => { results := [.lit (.bool false)], args := [d1, d2] }
  | _ => none }
def TxPlaysWrongFalsely : Prop := txPlaysRow.holds Try.pinned (OpenSpec.ofChange txPlaysWrong)

/-- 'brokerlaw29.TxTogether': WHATEVER THE INPUT: true; the input reads as it did. -/
def txTogetherSpec : ChangeSpec := { name := "txTogether", fn := fun _ => fun
  | [d1, d2] => { results := [.lit (.bool true)], args := [d1, d2] }
  | _ => none }
def txTogetherRow : OpenClaim := { program := "ytagdffkagpeomaa", sum := "d319fc3662be0e11ad9492c7ec1a4e2ace93e60493b3fb676a874c7ae2bfe6bd", func := "broker/brokerlaw29.TxTogether", spec := "txTogether", inPlace := ["internal/bytealg.IndexByteString"], apart := false }
def TxTogetherSaid : Prop := txTogetherRow.holds Try.pinned (OpenSpec.ofChange txTogetherSpec)

/-- ITS FALSE NEIGHBOUR: 'it returns false'. Refute it at one input. -/
def txTogetherWrong : ChangeSpec := { name := "txTogether", fn := fun _ => fun
  | [d1, d2] => { results := [.lit (.bool false)], args := [d1, d2] }
  | _ => none }
def TxTogetherWrongFalsely : Prop := txTogetherRow.holds Try.pinned (OpenSpec.ofChange txTogetherWrong)

/- THE SECOND FORM. 'bulk': how many values and letters a reading holds, each counted each time it is reached (what is shared counts as often as it is met; a slice's spare places count too). A statement '..UptoSaid' is the law's where the arguments, and the package variables that the reading takes, are together of bulk at most 1048576: NARROWER than '..Said'. Prove '..Said' where nothing that the law and all that it calls make is longer than what came in: it says more and counts as full. Else prove '..UptoSaid'. A law counts once. -/
mutual
def uptoBulk {H : Type} : DataW H → Nat
  | .lit (.string bytes) => bytes.length + 1
  | .lit _ => 1
  | .nil => 1
  | .ptr d => uptoBulk d + 1
  | .slice elems spare => uptoBulkAll elems + uptoBulkAll spare + 1
  | .agg parts => uptoBulkAll parts + 1
  | .iface _ d => uptoBulk d + 1
  | .map entries => uptoBulkEntries entries + 1
  | .held _ => 1
def uptoBulkAll {H : Type} : List (DataW H) → Nat
  | [] => 0
  | d :: r => uptoBulk d + uptoBulkAll r
def uptoBulkEntries {H : Type} : List (Lit × DataW H) → Nat
  | [] => 0
  | x :: r => uptoBulkEntry x + uptoBulkEntries r
def uptoBulkEntry {H : Type} : Lit × DataW H → Nat
  | (.string bytes, d) => bytes.length + uptoBulk d + 1
  | (_, d) => uptoBulk d + 1
 end
def uptoSmall : (H : Type) → List (DataW H) → Bool := fun _ ds => decide (uptoBulkAll ds ≤ 1048576)
def OpenSpec.upto (s : _root_.Go.ChangeSpec) : _root_.Go.OpenSpec := { _root_.Go.OpenSpec.ofChange s with cond := some uptoSmall }

/-- 'brokerlaw29.TxJoins', WHERE WHAT IT READS IS OF BULK AT MOST 1048576: true; the input reads as it did. -/
def txJoinsUptoRow : OpenClaim := { program := "ytagdffkagpeomaa", sum := "d319fc3662be0e11ad9492c7ec1a4e2ace93e60493b3fb676a874c7ae2bfe6bd", func := "broker/brokerlaw29.TxJoins", spec := "txJoins", inPlace := ["internal/bytealg.IndexByteString"], apart := false, narrowed := true }
def TxJoinsUptoSaid : Prop := txJoinsUptoRow.holds Try.pinned (OpenSpec.upto txJoinsSpec)

/-- 'brokerlaw29.TxFull', WHERE WHAT IT READS IS OF BULK AT MOST 1048576: true; the input reads as it did. -/
def txFullUptoRow : OpenClaim := { program := "ytagdffkagpeomaa", sum := "d319fc3662be0e11ad9492c7ec1a4e2ace93e60493b3fb676a874c7ae2bfe6bd", func := "broker/brokerlaw29.TxFull", spec := "txFull", inPlace := ["internal/bytealg.IndexByteString"], apart := false, narrowed := true }
def TxFullUptoSaid : Prop := txFullUptoRow.holds Try.pinned (OpenSpec.upto txFullSpec)

/-- 'brokerlaw29.TxOwns', WHERE WHAT IT READS IS OF BULK AT MOST 1048576: true; the input reads as it did. -/
def txOwnsUptoRow : OpenClaim := { program := "ytagdffkagpeomaa", sum := "d319fc3662be0e11ad9492c7ec1a4e2ace93e60493b3fb676a874c7ae2bfe6bd", func := "broker/brokerlaw29.TxOwns", spec := "txOwns", inPlace := ["internal/bytealg.IndexByteString"], apart := false, narrowed := true }
def TxOwnsUptoSaid : Prop := txOwnsUptoRow.holds Try.pinned (OpenSpec.upto txOwnsSpec)

/-- 'brokerlaw29.TxPlays', WHERE WHAT IT READS IS OF BULK AT MOST 1048576: true; the input reads as it did. -/
def txPlaysUptoRow : OpenClaim := { program := "ytagdffkagpeomaa", sum := "d319fc3662be0e11ad9492c7ec1a4e2ace93e60493b3fb676a874c7ae2bfe6bd", func := "broker/brokerlaw29.TxPlays", spec := "txPlays", inPlace := ["internal/bytealg.IndexByteString"], apart := false, narrowed := true }
def TxPlaysUptoSaid : Prop := txPlaysUptoRow.holds Try.pinned (OpenSpec.upto txPlaysSpec)

/-- 'brokerlaw29.TxTogether', WHERE WHAT IT READS IS OF BULK AT MOST 1048576: true; the input reads as it did. -/
def txTogetherUptoRow : OpenClaim := { program := "ytagdffkagpeomaa", sum := "d319fc3662be0e11ad9492c7ec1a4e2ace93e60493b3fb676a874c7ae2bfe6bd", func := "broker/brokerlaw29.TxTogether", spec := "txTogether", inPlace := ["internal/bytealg.IndexByteString"], apart := false, narrowed := true }
def TxTogetherUptoSaid : Prop := txTogetherUptoRow.holds Try.pinned (OpenSpec.upto txTogetherSpec)

end Rows
end Go.Proofs.Ytagdffkagpeomaa
