/- queue: whether a queue is valid. -/
import Derived.Test.YtlpnpjlnoeacnaaQueA
import Derived.Test.YtlpnpjlnoeacnaaAMD
import Derived.Test.YtlpnpjlnoeacnaaWk
set_option linter.unusedSimpArgs false
set_option linter.unusedVariables false
namespace Go.Proofs.Try
open Go Go.AM

def nums (l : List En) (i : Nat) : List Int := (l.take i).map (·.num)
def precAt (l : List En) (i : Nat) (x : En) : Bool := match l[i - 1]? with
  | some a => precS a x
  | none => true
def validRow (q : Qu) (i : Nat) (x : En) : Int := if entryS x q.next = 0 then (if x.num ∈ nums q.ready i then 26 else if 0 < i ∧ precAt q.ready i x = false then 22 else 0) else entryS x q.next
def validRows (q : Qu) : Nat → Nat → Int
  | _, 0 => 0
  | i, n + 1 => match q.ready[i]? with
    | some x => if validRow q i x = 0 then validRows q (i + 1) n else validRow q i x
    | none => 0
def validS (q : Qu) : Int := if checkSp q.spec = 0 then (if q.next < 1 ∨ 1099511627776 < q.next then 1 else if 4352 < q.ready.length then 5 else validRows q 0 q.ready.length) else checkSp q.spec
def OkQ (q : Qu) : Prop := OkE q.ready
end Go.Proofs.Try
