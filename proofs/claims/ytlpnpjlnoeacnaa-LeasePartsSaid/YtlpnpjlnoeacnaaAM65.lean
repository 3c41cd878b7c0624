/- A machine over pure data: part 65: what comes behind, shown once. -/
import Derived.Test.YtlpnpjlnoeacnaaAM64
namespace Go.AM
open Go Go.RowKit
end Go.AM
