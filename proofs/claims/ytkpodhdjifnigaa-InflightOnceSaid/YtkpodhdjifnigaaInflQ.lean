/- inflight: what is equal to itself. -/
import Derived.Test.YtkpodhdjifnigaaInflP
import Derived.Test.YtkpodhdjifnigaaAM49
set_option linter.unusedSimpArgs false
set_option linter.unusedVariables false
namespace Go.Proofs.Try
open Go Go.AM

theorem okT {w : Wi} (ho : OkW w) : OkT w := fun f hf => by have := (ho f hf).1; omega
theorem eqW_self (w : Wi) : eqW w w = true := by simp [eqW, eqFs_iff.2]
theorem sameW_t (w : Wi) (hl : w.items.length ≤ 1000000) : ACallP Try.prog 14 [aggW w, aggW w] (bo true) := by
  have := refSameW_calls w w hl
  rwa [eqW_self] at this
theorem sameK_t (p : Pk) : ACallP Try.prog 15 [aggK p, aggK p] (bo true) := by
  have := samePk_calls p p
  rwa [eqK_iff.2 rfl] at this
theorem packets_t (l : List Pk) : ACallP Try.prog 18 [rowK l, rowK l] (bo true) := by
  have := packets_calls l l
  rwa [eqKs_iff.2 rfl] at this
theorem checkW_good {w : Wi} (hw : GoodW w) (ho : OkW w) : ACallP Try.prog 29 [aggW w] (i64 0) := by
  have := checkW_calls w (okT ho)
  rwa [goodW_iff.2 hw] at this
theorem newS_len (n : Int) : (newS n).items.length ≤ 1000000 := by simp [newS]
theorem sameM_t (m : Ms) : ACallP Try.prog 21 [aggM m, aggM m] (bo true) := by
  have := refSameM_calls m m
  rwa [eqM_iff.2 rfl] at this
end Go.Proofs.Try
