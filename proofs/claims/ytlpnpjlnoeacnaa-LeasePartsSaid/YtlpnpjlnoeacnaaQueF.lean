/- queue: the reference's calls. -/
import Derived.Test.YtlpnpjlnoeacnaaQueE
import Derived.Test.YtlpnpjlnoeacnaaAMD
import Derived.Test.YtlpnpjlnoeacnaaWk
set_option linter.unusedSimpArgs false
set_option linter.unusedVariables false
namespace Go.Proofs.Try
open Go Go.AM

theorem prec_total {a b : En} (h : precS a b = false) (hn : a.num ≠ b.num) : precS b a = true := by
  rw [prec_iff]
  have : ¬ (b.msg.prio < a.msg.prio ∨ a.msg.prio = b.msg.prio ∧ a.num < b.num) := fun hc => by rw [prec_iff.2 hc] at h; cases h
  omega
end Go.Proofs.Try
