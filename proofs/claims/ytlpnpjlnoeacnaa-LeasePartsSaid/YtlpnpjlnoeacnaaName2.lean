/- Names: the reference's test. -/
import Derived.Test.YtlpnpjlnoeacnaaName
import Derived.Test.YtlpnpjlnoeacnaaWk
set_option linter.unusedSimpArgs false
set_option linter.unusedVariables false
namespace Go.Proofs.Try
open Go Go.AM

end Go.Proofs.Try
