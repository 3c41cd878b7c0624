/- queue: queues compared. -/
import Derived.Test.YtlpnpjlnoeacnaaQueF
import Derived.Test.YtlpnpjlnoeacnaaAMD
import Derived.Test.YtlpnpjlnoeacnaaWk
set_option linter.unusedSimpArgs false
set_option linter.unusedVariables false
namespace Go.Proofs.Try
open Go Go.AM

end Go.Proofs.Try
