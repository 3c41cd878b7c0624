/-
  No cell of these rows narrows 'for every input' (looked for: loops, veiled, ifaces, maps, wideKeys, modest, calm, conditions, laid).
  DERIVED. THE GIVEN ROWS OF THIS SEAT. 5 by the template 'for every input the law returns true; each argument reads behind the call as it read before'; 0 by the template 'total and deterministic' (their statements: YtlpnpjlnoeacnaaTotals.lean).
  GIVEN WITH THE SEED: the statements are not yours to turn. If you find one false, say at which input.
  Laid BY PROGRAM, IN A SANDBOX (cutbox-rows.mjs): the forced cells as the released guide's own fill.sh prints them over the translation 43930572943adf08… (all of the seat's roots in one cut). By AI agents, Wed Nov 11 2026. No macro, syntax, notation, axiom, sorry.
-/
import Derived.Test.YtlpnpjlnoeacnaaChecked
import GoSem.Claim
import GoSem.ClaimJoined
import GoSem.ClaimMapViews
import Derived.JoinedTies
import Derived.KernelRfl
namespace Go.Proofs.Ytlpnpjlnoeacnaa
/- THE CELL 'sum', in the pinned program and in every row, IS THE sha256 OF THE DUMP (.gsa) THAT YtlpnpjlnoeacnaaProg.lean LOADS. Nothing in Lean hashes anything: it is a label: what it is worth is what the hold of that sum in a sandbox is worth. -/
noncomputable def Try.pinned : Pinned := { name := "ytlpnpjlnoeacnaa", sum := "43930572943adf08352ca88760fb0db9d8ad320e209e02cdae6a32b4eca8d868", checked := Try.checked }
namespace Rows
def none {H : Type} : Left H := { results := [], args := [] }

/-- 'brokerlaw27.LeaseChecks': WHATEVER THE INPUT: true; the input reads as it did. -/
def leaseChecksSpec : ChangeSpec := { name := "leaseChecks", fn := fun _ => fun
  | [d1, d2] => { results := [.lit (.bool true)], args := [d1, d2] }
  | _ => none }
def leaseChecksRow : OpenClaim := { program := "ytlpnpjlnoeacnaa", sum := "43930572943adf08352ca88760fb0db9d8ad320e209e02cdae6a32b4eca8d868", func := "broker/brokerlaw27.LeaseChecks", spec := "leaseChecks", inPlace := ["slices.overlaps[broker/api.Entry]"], unfollowed := true, recurses := true, apart := false }
def LeaseChecksSaid : Prop := leaseChecksRow.holds Try.pinned (OpenSpec.ofChange leaseChecksSpec)

/-- ITS FALSE NEIGHBOUR: 'it returns false'. Refute it at one input. -/
def leaseChecksWrong : ChangeSpec := { name := "leaseChecks", fn := fun _ => fun
  | [d1, d2] => { results := [.lit (.bool false)], args := [d1, d2] }
  | _ => none }
def LeaseChecksWrongFalsely : Prop := leaseChecksRow.holds Try.pinned (OpenSpec.ofChange leaseChecksWrong)

/-- 'brokerlaw27.LeaseBacks': WHATEVER THE INPUT: true; the input reads as it did. -/
def leaseBacksSpec : ChangeSpec := { name := "leaseBacks", fn := fun _ => fun
  | [d1, d2] => { results := [.lit (.bool true)], args := [d1, d2] }
  | _ => none }
def leaseBacksRow : OpenClaim := { program := "ytlpnpjlnoeacnaa", sum := "43930572943adf08352ca88760fb0db9d8ad320e209e02cdae6a32b4eca8d868", func := "broker/brokerlaw27.LeaseBacks", spec := "leaseBacks", inPlace := ["slices.overlaps[broker/api.Entry]"], unfollowed := true, recurses := true, apart := false }
def LeaseBacksSaid : Prop := leaseBacksRow.holds Try.pinned (OpenSpec.ofChange leaseBacksSpec)

/-- ITS FALSE NEIGHBOUR: 'it returns false'. Refute it at one input. -/
def leaseBacksWrong : ChangeSpec := { name := "leaseBacks", fn := fun _ => fun
  | [d1, d2] => { results := [.lit (.bool false)], args := [d1, d2] }
  | _ => none }
def LeaseBacksWrongFalsely : Prop := leaseBacksRow.holds Try.pinned (OpenSpec.ofChange leaseBacksWrong)

/-- 'brokerlaw27.LeasePlays': WHATEVER THE INPUT: true; the input reads as it did. -/
def leasePlaysSpec : ChangeSpec := { name := "leasePlays", fn := fun _ => fun
  | [d1, d2] => { results := [.lit (.bool true)], args := [d1, d2] }
  | _ => none }
def leasePlaysRow : OpenClaim := { program := "ytlpnpjlnoeacnaa", sum := "43930572943adf08352ca88760fb0db9d8ad320e209e02cdae6a32b4eca8d868", func := "broker/brokerlaw27.LeasePlays", spec := "leasePlays", inPlace := ["slices.overlaps[broker/api.Entry]"], unfollowed := true, recurses := true, apart := false }
def LeasePlaysSaid : Prop := leasePlaysRow.holds Try.pinned (OpenSpec.ofChange leasePlaysSpec)

/-- ITS FALSE NEIGHBOUR: 'it returns false'. Refute it at one input. -/
def leasePlaysWrong : ChangeSpec := { name := "leasePlays", fn := fun _ => fun
  | [d1, d2] => { results := [.lit (.bool false)], args := [d1, d2] }
  | _ => none }
def LeasePlaysWrongFalsely : Prop := leasePlaysRow.holds Try.pinned (OpenSpec.ofChange leasePlaysWrong)

/-- 'brokerlaw27.LeaseKeeps': WHATEVER THE INPUT: true; the input reads as it did. -/
def leaseKeepsSpec : ChangeSpec := { name := "leaseKeeps", fn := fun _ => fun
  | [d1, d2] => { results := [.lit (.bool true)], args := [d1, d2] }
  | _ => none }
def leaseKeepsRow : OpenClaim := { program := "ytlpnpjlnoeacnaa", sum := "43930572943adf08352ca88760fb0db9d8ad320e209e02cdae6a32b4eca8d868", func := "broker/brokerlaw27.LeaseKeeps", spec := "leaseKeeps", inPlace := ["slices.overlaps[broker/api.Entry]"], unfollowed := true, recurses := true, apart := false }
def LeaseKeepsSaid : Prop := leaseKeepsRow.holds Try.pinned (OpenSpec.ofChange leaseKeepsSpec)

/-- ITS FALSE NEIGHBOUR: 'it returns false'. Refute it at one input. -/
def leaseKeepsWrong : ChangeSpec := { name := "leaseKeeps", fn := fun _ => fun
  | [d1, d2] => { results := [.lit (.bool false)], args := [d1, d2] }
  | _ => none }
def LeaseKeepsWrongFalsely : Prop := leaseKeepsRow.holds Try.pinned (OpenSpec.ofChange leaseKeepsWrong)

/-- 'brokerlaw27.LeaseParts': WHATEVER THE INPUT: true; the input reads as it did. -/
def leasePartsSpec : ChangeSpec := { name := "leaseParts", fn := fun _ => fun
  | [d1, d2] => { results := [.lit (.bool true)], args := [d1, d2] }
  | _ => none }
def leasePartsRow : OpenClaim := { program := "ytlpnpjlnoeacnaa", sum := "43930572943adf08352ca88760fb0db9d8ad320e209e02cdae6a32b4eca8d868", func := "broker/brokerlaw27.LeaseParts", spec := "leaseParts", inPlace := ["slices.overlaps[broker/api.Entry]"], unfollowed := true, recurses := true, apart := false }
def LeasePartsSaid : Prop := leasePartsRow.holds Try.pinned (OpenSpec.ofChange leasePartsSpec)

/-- ITS FALSE NEIGHBOUR: 'it returns false'. Refute it at one input. -/
def leasePartsWrong : ChangeSpec := { name := "leaseParts", fn := fun _ => fun
  | [d1, d2] => { results := [.lit (.bool false)], args := [d1, d2] }
  | _ => none }
def LeasePartsWrongFalsely : Prop := leasePartsRow.holds Try.pinned (OpenSpec.ofChange leasePartsWrong)

/- THE SECOND FORM. 'bulk': how many values and letters a reading holds, each counted each time it is reached (what is shared counts as often as it is met; a slice's spare places count too). A statement '..UptoSaid' is the law's where the arguments, and the package variables that the reading takes, are together of bulk at most 1048576: NARROWER than '..Said'. Prove '..Said' where nothing that the law and all that it calls make is longer than what came in: it says more and counts as full. Else prove '..UptoSaid'. A law counts once. -/
mutual
def uptoBulk {H : Type} : DataW H → Nat
  | .lit (.string bytes) => bytes.length + 1
  | .lit _ => 1
  | .nil => 1
  | .ptr d => uptoBulk d + 1
  | .slice elems spare => uptoBulkAll elems + uptoBulkAll spare + 1
  | .agg parts => uptoBulkAll parts + 1
  | .iface _ d => uptoBulk d + 1
  | .map entries => uptoBulkEntries entries + 1
  | .held _ => 1
def uptoBulkAll {H : Type} : List (DataW H) → Nat
  | [] => 0
  | d :: r => uptoBulk d + uptoBulkAll r
def uptoBulkEntries {H : Type} : List (Lit × DataW H) → Nat
  | [] => 0
  | x :: r => uptoBulkEntry x + uptoBulkEntries r
def uptoBulkEntry {H : Type} : Lit × DataW H → Nat
  | (.string bytes, d) => bytes.length + uptoBulk d + 1
  | (_, d) => uptoBulk d + 1
 end
def uptoSmall : (H : Type) → List (DataW H) → Bool := fun _ ds => decide (uptoBulkAll ds ≤ 1048576)
def OpenSpec.upto (s : _root_.Go.ChangeSpec) : _root_.Go.OpenSpec := { _root_.Go.OpenSpec.ofChange s with cond := some uptoSmall }

/-- 'brokerlaw27.LeaseChecks', WHERE WHAT IT READS IS OF BULK AT MOST 1048576: true; the input reads as it did. -/
def leaseChecksUptoRow : OpenClaim := { program := "ytlpnpjlnoeacnaa", sum := "43930572943adf08352ca88760fb0db9d8ad320e209e02cdae6a32b4eca8d868", func := "broker/brokerlaw27.LeaseChecks", spec := "leaseChecks", inPlace := ["slices.overlaps[broker/api.Entry]"], unfollowed := true, recurses := true, apart := false, narrowed := true }
def LeaseChecksUptoSaid : Prop := leaseChecksUptoRow.holds Try.pinned (OpenSpec.upto leaseChecksSpec)

/-- 'brokerlaw27.LeaseBacks', WHERE WHAT IT READS IS OF BULK AT MOST 1048576: true; the input reads as it did. -/
def leaseBacksUptoRow : OpenClaim := { program := "ytlpnpjlnoeacnaa", sum := "43930572943adf08352ca88760fb0db9d8ad320e209e02cdae6a32b4eca8d868", func := "broker/brokerlaw27.LeaseBacks", spec := "leaseBacks", inPlace := ["slices.overlaps[broker/api.Entry]"], unfollowed := true, recurses := true, apart := false, narrowed := true }
def LeaseBacksUptoSaid : Prop := leaseBacksUptoRow.holds Try.pinned (OpenSpec.upto leaseBacksSpec)

/-- 'brokerlaw27.LeasePlays', WHERE WHAT IT READS IS OF BULK AT MOST 1048576: true; the input reads as it did. -/
def leasePlaysUptoRow : OpenClaim := { program := "ytlpnpjlnoeacnaa", sum := "43930572943adf08352ca88760fb0db9d8ad320e209e02cdae6a32b4eca8d868", func := "broker/brokerlaw27.LeasePlays", spec := "leasePlays", inPlace := ["slices.overlaps[broker/api.Entry]"], unfollowed := true, recurses := true, apart := false, narrowed := true }
def LeasePlaysUptoSaid : Prop := leasePlaysUptoRow.holds Try.pinned (OpenSpec.upto leasePlaysSpec)

/-- 'brokerlaw27.LeaseKeeps', WHERE WHAT IT READS IS OF BULK AT MOST 1048576: true; the input reads as it did. -/
def leaseKeepsUptoRow : OpenClaim := { program := "ytlpnpjlnoeacnaa", sum := "43930572943adf08352ca88760fb0db9d8ad320e209e02cdae6a32b4eca8d868", func := "broker/brokerlaw27.LeaseKeeps", spec := "leaseKeeps", inPlace := ["slices.overlaps[broker/api.Entry]"], unfollowed := true, recurses := true, apart := false, narrowed := true }
def LeaseKeepsUptoSaid : Prop := leaseKeepsUptoRow.holds Try.pinned (OpenSpec.upto leaseKeepsSpec)

/-- 'brokerlaw27.LeaseParts', WHERE WHAT IT READS IS OF BULK AT MOST 1048576: true; the input reads as it did. -/
def leasePartsUptoRow : OpenClaim := { program := "ytlpnpjlnoeacnaa", sum := "43930572943adf08352ca88760fb0db9d8ad320e209e02cdae6a32b4eca8d868", func := "broker/brokerlaw27.LeaseParts", spec := "leaseParts", inPlace := ["slices.overlaps[broker/api.Entry]"], unfollowed := true, recurses := true, apart := false, narrowed := true }
def LeasePartsUptoSaid : Prop := leasePartsUptoRow.holds Try.pinned (OpenSpec.upto leasePartsSpec)

end Rows
end Go.Proofs.Ytlpnpjlnoeacnaa
