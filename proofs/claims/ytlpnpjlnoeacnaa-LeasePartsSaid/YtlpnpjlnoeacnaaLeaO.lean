/- lease: the law LeasePlays. -/
import Derived.Test.YtlpnpjlnoeacnaaLeaN
import Derived.Test.YtlpnpjlnoeacnaaWk
set_option linter.unusedSimpArgs false
set_option linter.unusedVariables false
namespace Go.Proofs.Try
open Go Go.AM

structure OpL where
  kind : Int
  tag : Int
  own : Int
  queue : ByteArray
  all : Bool
  e : En
/-- What the lists hold, after each call. -/
structure HasL (l : List Le) (n : Nat) : Prop where
  ok : OkL l
  tg : TagL l
  len : l.length ≤ n
theorem HasL.fil {l : List Le} {n : Nat} (h : HasL l n) (p : Le → Bool) : HasL (l.filter p) (n + 1) :=
  ⟨fun x hx => h.ok x (List.mem_filter.1 hx).1, fun x hx => h.tg x (List.mem_filter.1 hx).1, Nat.le_trans (List.length_filter_le _ _) (by have := h.len; omega)⟩
end Go.Proofs.Try
