/- lease: merged; the law LeasePlays. -/
import Derived.Test.YtlpnpjlnoeacnaaLeaM
import Derived.Test.YtlpnpjlnoeacnaaWk
set_option linter.unusedSimpArgs false
set_option linter.unusedVariables false
namespace Go.Proofs.Try
open Go Go.AM

end Go.Proofs.Try
