/- lease: the reference's Check. -/
import Derived.Test.YtlpnpjlnoeacnaaLeaG
import Derived.Test.YtlpnpjlnoeacnaaWk
set_option linter.unusedSimpArgs false
set_option linter.unusedVariables false
namespace Go.Proofs.Try
open Go Go.AM

end Go.Proofs.Try
