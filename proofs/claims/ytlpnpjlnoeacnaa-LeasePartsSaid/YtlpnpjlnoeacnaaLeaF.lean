/- lease: the reference's Give. -/
import Derived.Test.YtlpnpjlnoeacnaaLeaE
import Derived.Test.YtlpnpjlnoeacnaaAMD
import Derived.Test.YtlpnpjlnoeacnaaWk
set_option linter.unusedSimpArgs false
set_option linter.unusedVariables false
namespace Go.Proofs.Try
open Go Go.AM

def zeroL : Le := ⟨0, 0, ⟨#[]⟩, 0, zeroE⟩
def giveL (tag own : Int) (s : ByteArray) (e : En) : Le := ⟨tag, own, s, 0, { e with att := e.att + 1 }⟩
def ordS (l : List Le) (tag : Int) : Bool := if h : 0 < l.length then decide (tag ≤ l[l.length - 1].tag) else false
def giveS (l : List Le) (tag own : Int) (s : ByteArray) (e : En) : List Le × Le × Int :=
  if inS tag 1 1099511627776 && inS own 0 1099511627776 then
    (if ent27 s e 0 1099511627775 = 0 then
      (if ordS l tag then ([], zeroL, 22) else if hasS l s e.num then ([], zeroL, 7) else if 4096 ≤ l.length then ([], zeroL, 6) else (l ++ [giveL tag own s e], giveL tag own s e, 0))
     else ([], zeroL, ent27 s e 0 1099511627775))
  else ([], zeroL, 1)
abbrev giveAV (r : List Le × Le × Int) : AV := .tup [rowL r.1, aggL r.2.1, i64 r.2.2]
theorem ent_att {s : ByteArray} {e : En} {lo hi : Int} (h : ent27 s e lo hi = 0) : lo ≤ e.att ∧ e.att ≤ hi := by
  unfold ent27 inS at h
  split at h
  · split at h
    · rename_i h1
      simp at h1
      exact h1.2.2
    · exact absurd h (by decide)
  · exact absurd h (by decide)
end Go.Proofs.Try
