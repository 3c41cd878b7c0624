/-
  No cell of these rows narrows 'for every input' (looked for: loops, veiled, ifaces, maps, wideKeys, modest, calm, conditions, laid).
  DERIVED. THE GIVEN ROWS OF THIS SEAT. 6 by the template 'for every input the law returns true; each argument reads behind the call as it read before'; 0 by the template 'total and deterministic' (their statements: YtmbbccmahkjjkaaTotals.lean).
  GIVEN WITH THE SEED: the statements are not yours to turn. If you find one false, say at which input.
  Laid BY PROGRAM, IN A SANDBOX (cutbox-rows.mjs): the forced cells as the released guide's own fill.sh prints them over the translation cdba0b21e57ee768… (all of the seat's roots in one cut). By AI agents, Wed Nov 11 2026. No macro, syntax, notation, axiom, sorry.
-/
import Derived.Test.YtmbbccmahkjjkaaChecked
import GoSem.Claim
import GoSem.ClaimJoined
import GoSem.ClaimMapViews
import Derived.JoinedTies
import Derived.KernelRfl
namespace Go.Proofs.Ytmbbccmahkjjkaa
/- THE CELL 'sum', in the pinned program and in every row, IS THE sha256 OF THE DUMP (.gsa) THAT YtmbbccmahkjjkaaProg.lean LOADS. Nothing in Lean hashes anything: it is a label: what it is worth is what the hold of that sum in a sandbox is worth. -/
noncomputable def Try.pinned : Pinned := { name := "ytmbbccmahkjjkaa", sum := "cdba0b21e57ee768f8085b0bae71fed30188b066ebdd927ff04546dfc82edca3", checked := Try.checked }
namespace Rows
def none {H : Type} : Left H := { results := [], args := [] }

/-- 'brokerlaw48.AuditLinks': WHATEVER THE INPUT: true; the input reads as it did. -/
def auditLinksSpec : ChangeSpec := { name := "auditLinks", fn := fun _ => fun
  | [d1, d2] => { results := [.lit (.bool true)], args := [d1, d2] }
  | _ => none }
def auditLinksRow : OpenClaim := { program := "ytmbbccmahkjjkaa", sum := "cdba0b21e57ee768f8085b0bae71fed30188b066ebdd927ff04546dfc82edca3", func := "broker/brokerlaw48.AuditLinks", spec := "auditLinks", apart := false }
def AuditLinksSaid : Prop := auditLinksRow.holds Try.pinned (OpenSpec.ofChange auditLinksSpec)

/-- ITS FALSE NEIGHBOUR: 'it returns false'. Refute it at one input. -/
def auditLinksWrong : ChangeSpec := { name := "auditLinks", fn := fun _ => fun
  | [d1, d2] => { results := [.lit (.bool false)], args := [d1, d2] }
  | _ => none }
def AuditLinksWrongFalsely : Prop := auditLinksRow.holds Try.pinned (OpenSpec.ofChange auditLinksWrong)

/-- 'brokerlaw48.AuditAppends': WHATEVER THE INPUT: true; the input reads as it did. -/
def auditAppendsSpec : ChangeSpec := { name := "auditAppends", fn := fun _ => fun
  | [d] => { results := [.lit (.bool true)], args := [d] }
  | _ => none }
def auditAppendsRow : OpenClaim := { program := "ytmbbccmahkjjkaa", sum := "cdba0b21e57ee768f8085b0bae71fed30188b066ebdd927ff04546dfc82edca3", func := "broker/brokerlaw48.AuditAppends", spec := "auditAppends", apart := false }
def AuditAppendsSaid : Prop := auditAppendsRow.holds Try.pinned (OpenSpec.ofChange auditAppendsSpec)

/-- ITS FALSE NEIGHBOUR: 'it returns false'. Refute it at one input. -/
def auditAppendsWrong : ChangeSpec := { name := "auditAppends", fn := fun _ => fun
  | [d] => { results := [.lit (.bool false)], args := [d] }
  | _ => none }
def AuditAppendsWrongFalsely : Prop := auditAppendsRow.holds Try.pinned (OpenSpec.ofChange auditAppendsWrong)

/-- 'brokerlaw48.AuditVerifies': WHATEVER THE INPUT: true; the input reads as it did. -/
def auditVerifiesSpec : ChangeSpec := { name := "auditVerifies", fn := fun _ => fun
  | [d1, d2] => { results := [.lit (.bool true)], args := [d1, d2] }
  | _ => none }
def auditVerifiesRow : OpenClaim := { program := "ytmbbccmahkjjkaa", sum := "cdba0b21e57ee768f8085b0bae71fed30188b066ebdd927ff04546dfc82edca3", func := "broker/brokerlaw48.AuditVerifies", spec := "auditVerifies", apart := false }
def AuditVerifiesSaid : Prop := auditVerifiesRow.holds Try.pinned (OpenSpec.ofChange auditVerifiesSpec)

/-- ITS FALSE NEIGHBOUR: 'it returns false'. Refute it at one input. -/
def auditVerifiesWrong : ChangeSpec := { name := "auditVerifies", fn := fun _ => fun
  | [d1, d2] => { results := [.lit (.bool false)], args := [d1, d2] }
  | _ => none }
def AuditVerifiesWrongFalsely : Prop := auditVerifiesRow.holds Try.pinned (OpenSpec.ofChange auditVerifiesWrong)

/-- 'brokerlaw48.AuditCounts': WHATEVER THE INPUT: true; the input reads as it did. -/
def auditCountsSpec : ChangeSpec := { name := "auditCounts", fn := fun _ => fun
  | [d1, d2] => { results := [.lit (.bool true)], args := [d1, d2] }
  | _ => none }
def auditCountsRow : OpenClaim := { program := "ytmbbccmahkjjkaa", sum := "cdba0b21e57ee768f8085b0bae71fed30188b066ebdd927ff04546dfc82edca3", func := "broker/brokerlaw48.AuditCounts", spec := "auditCounts", apart := false }
def AuditCountsSaid : Prop := auditCountsRow.holds Try.pinned (OpenSpec.ofChange auditCountsSpec)

/-- ITS FALSE NEIGHBOUR: 'it returns false'. Refute it at one input. -/
def auditCountsWrong : ChangeSpec := { name := "auditCounts", fn := fun _ => fun
  | [d1, d2] => { results := [.lit (.bool false)], args := [d1, d2] }
  | _ => none }
def AuditCountsWrongFalsely : Prop := auditCountsRow.holds Try.pinned (OpenSpec.ofChange auditCountsWrong)

/-- 'brokerlaw48.AuditChain': WHATEVER THE INPUT: true; the input reads as it did. -/
def auditChainSpec : ChangeSpec := { name := "auditChain", fn := fun _ => fun
  | [d] => { results := [.lit (.bool true)], args := [d] }
  | _ => none }
def auditChainRow : OpenClaim := { program := "ytmbbccmahkjjkaa", sum := "cdba0b21e57ee768f8085b0bae71fed30188b066ebdd927ff04546dfc82edca3", func := "broker/brokerlaw48.AuditChain", spec := "auditChain", apart := false }
def AuditChainSaid : Prop := auditChainRow.holds Try.pinned (OpenSpec.ofChange auditChainSpec)

/-- ITS FALSE NEIGHBOUR: 'it returns false'. Refute it at one input. -/
def auditChainWrong : ChangeSpec := { name := "auditChain", fn := fun _ => fun
  | [d] => { results := [.lit (.bool false)], args := [d] }
  | _ => none }
def AuditChainWrongFalsely : Prop := auditChainRow.holds Try.pinned (OpenSpec.ofChange auditChainWrong)

/-- 'brokerlaw48.AuditDetects': WHATEVER THE INPUT: true; the input reads as it did. -/
def auditDetectsSpec : ChangeSpec := { name := "auditDetects", fn := fun _ => fun
  | [d1, d2, d3] => { results := [.lit (.bool true)], args := [d1, d2, d3] }
  | _ => none }
def auditDetectsRow : OpenClaim := { program := "ytmbbccmahkjjkaa", sum := "cdba0b21e57ee768f8085b0bae71fed30188b066ebdd927ff04546dfc82edca3", func := "broker/brokerlaw48.AuditDetects", spec := "auditDetects", apart := false }
def AuditDetectsSaid : Prop := auditDetectsRow.holds Try.pinned (OpenSpec.ofChange auditDetectsSpec)

/-- ITS FALSE NEIGHBOUR: 'it returns false'. Refute it at one input. -/
def auditDetectsWrong : ChangeSpec := { name := "auditDetects", fn := fun _ => fun
  | [d1, d2, d3] => { results := [.lit (.bool false)], args := [d1, d2, d3] }
  | _ => none }
def AuditDetectsWrongFalsely : Prop := auditDetectsRow.holds Try.pinned (OpenSpec.ofChange auditDetectsWrong)

/- THE SECOND FORM. 'bulk': how many values and letters a reading holds, each counted each time it is reached (what is shared counts as often as it is met; a slice's spare places count too). A statement '..UptoSaid' is the law's where the arguments, and the package variables that the reading takes, are together of bulk at most 1048576: NARROWER than '..Said'. Prove '..Said' where nothing that the law and all that it calls make is longer than what came in: it says more and counts as full. Else prove '..UptoSaid'. A law counts once. -/
mutual
def uptoBulk {H : Type} : DataW H → Nat
  | .lit (.string bytes) => bytes.length + 1
  | .lit _ => 1
  | .nil => 1
  | .ptr d => uptoBulk d + 1
  | .slice elems spare => uptoBulkAll elems + uptoBulkAll spare + 1
  | .agg parts => uptoBulkAll parts + 1
  | .iface _ d => uptoBulk d + 1
  | .map entries => uptoBulkEntries entries + 1
  | .held _ => 1
def uptoBulkAll {H : Type} : List (DataW H) → Nat
  | [] => 0
  | d :: r => uptoBulk d + uptoBulkAll r
def uptoBulkEntries {H : Type} : List (Lit × DataW H) → Nat
  | [] => 0
  | x :: r => uptoBulkEntry x + uptoBulkEntries r
def uptoBulkEntry {H : Type} : Lit × DataW H → Nat
  | (.string bytes, d) => bytes.length + uptoBulk d + 1
  | (_, d) => uptoBulk d + 1
 end
def uptoSmall : (H : Type) → List (DataW H) → Bool := fun _ ds => decide (uptoBulkAll ds ≤ 1048576)
def OpenSpec.upto (s : _root_.Go.ChangeSpec) : _root_.Go.OpenSpec := { _root_.Go.OpenSpec.ofChange s with cond := some uptoSmall }

/-- 'brokerlaw48.AuditLinks', WHERE WHAT IT READS IS OF BULK AT MOST 1048576: true; the input reads as it did. -/
def auditLinksUptoRow : OpenClaim := { program := "ytmbbccmahkjjkaa", sum := "cdba0b21e57ee768f8085b0bae71fed30188b066ebdd927ff04546dfc82edca3", func := "broker/brokerlaw48.AuditLinks", spec := "auditLinks", apart := false, narrowed := true }
def AuditLinksUptoSaid : Prop := auditLinksUptoRow.holds Try.pinned (OpenSpec.upto auditLinksSpec)

/-- 'brokerlaw48.AuditAppends', WHERE WHAT IT READS IS OF BULK AT MOST 1048576: true; the input reads as it did. -/
def auditAppendsUptoRow : OpenClaim := { program := "ytmbbccmahkjjkaa", sum := "cdba0b21e57ee768f8085b0bae71fed30188b066ebdd927ff04546dfc82edca3", func := "broker/brokerlaw48.AuditAppends", spec := "auditAppends", apart := false, narrowed := true }
def AuditAppendsUptoSaid : Prop := auditAppendsUptoRow.holds Try.pinned (OpenSpec.upto auditAppendsSpec)

/-- 'brokerlaw48.AuditVerifies', WHERE WHAT IT READS IS OF BULK AT MOST 1048576: true; the input reads as it did. -/
def auditVerifiesUptoRow : OpenClaim := { program := "ytmbbccmahkjjkaa", sum := "cdba0b21e57ee768f8085b0bae71fed30188b066ebdd927ff04546dfc82edca3", func := "broker/brokerlaw48.AuditVerifies", spec := "auditVerifies", apart := false, narrowed := true }
def AuditVerifiesUptoSaid : Prop := auditVerifiesUptoRow.holds Try.pinned (OpenSpec.upto auditVerifiesSpec)

/-- 'brokerlaw48.AuditCounts', WHERE WHAT IT READS IS OF BULK AT MOST 1048576: true; the input reads as it did. -/
def auditCountsUptoRow : OpenClaim := { program := "ytmbbccmahkjjkaa", sum := "cdba0b21e57ee768f8085b0bae71fed30188b066ebdd927ff04546dfc82edca3", func := "broker/brokerlaw48.AuditCounts", spec := "auditCounts", apart := false, narrowed := true }
def AuditCountsUptoSaid : Prop := auditCountsUptoRow.holds Try.pinned (OpenSpec.upto auditCountsSpec)

/-- 'brokerlaw48.AuditChain', WHERE WHAT IT READS IS OF BULK AT MOST 1048576: true; the input reads as it did. -/
def auditChainUptoRow : OpenClaim := { program := "ytmbbccmahkjjkaa", sum := "cdba0b21e57ee768f8085b0bae71fed30188b066ebdd927ff04546dfc82edca3", func := "broker/brokerlaw48.AuditChain", spec := "auditChain", apart := false, narrowed := true }
def AuditChainUptoSaid : Prop := auditChainUptoRow.holds Try.pinned (OpenSpec.upto auditChainSpec)

/-- 'brokerlaw48.AuditDetects', WHERE WHAT IT READS IS OF BULK AT MOST 1048576: true; the input reads as it did. -/
def auditDetectsUptoRow : OpenClaim := { program := "ytmbbccmahkjjkaa", sum := "cdba0b21e57ee768f8085b0bae71fed30188b066ebdd927ff04546dfc82edca3", func := "broker/brokerlaw48.AuditDetects", spec := "auditDetects", apart := false, narrowed := true }
def AuditDetectsUptoSaid : Prop := auditDetectsUptoRow.holds Try.pinned (OpenSpec.upto auditDetectsSpec)

end Rows
end Go.Proofs.Ytmbbccmahkjjkaa
