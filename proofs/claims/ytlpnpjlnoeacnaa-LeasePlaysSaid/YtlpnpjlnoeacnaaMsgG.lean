/- Messages: expired. -/
import Derived.Test.YtlpnpjlnoeacnaaMsgE
import Derived.Test.YtlpnpjlnoeacnaaWk
set_option linter.unusedSimpArgs false
set_option linter.unusedVariables false
namespace Go.Proofs.Try
open Go Go.AM

def expiredS (m : Ms) (now : Int) : Bool := !decide (m.expires = 0) && decide (m.expires ≤ now)
end Go.Proofs.Try
