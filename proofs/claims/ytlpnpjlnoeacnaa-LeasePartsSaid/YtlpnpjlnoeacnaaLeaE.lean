/- lease: Give. -/
import Derived.Test.YtlpnpjlnoeacnaaLeaD
import Derived.Test.YtlpnpjlnoeacnaaAMD
import Derived.Test.YtlpnpjlnoeacnaaWk
set_option linter.unusedSimpArgs false
set_option linter.unusedVariables false
namespace Go.Proofs.Try
open Go Go.AM

/-- The first error of a queue's name and an entry. -/
def ent27 (s : ByteArray) (e : En) (lo hi : Int) : Int :=
  if nameS s then (if inS e.num 1 1099511627775 && (inS e.arr 0 1099511627776 && inS e.att lo hi) then checkM e.msg else 1) else 11
end Go.Proofs.Try
