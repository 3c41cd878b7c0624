/- Texts: the parts of a topic name; the reference's tests. -/
import Derived.Test.YtlpnpjlnoeacnaaMsgA
import Derived.Test.YtlpnpjlnoeacnaaWk
set_option linter.unusedSimpArgs false
set_option linter.unusedVariables false
namespace Go.Proofs.Try
open Go Go.AM

end Go.Proofs.Try
