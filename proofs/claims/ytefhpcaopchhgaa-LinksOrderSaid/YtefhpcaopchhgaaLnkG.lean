/- links: Send: what it defers. -/
import Derived.Test.YtefhpcaopchhgaaLnkF
import Derived.Tactics
import Derived.Tactics2
import Derived.Defers
import Derived.Recover
import Derived.Laws.Pointers
import Derived.Test.YtefhpcaopchhgaaWk
set_option linter.unusedSimpArgs false
set_option linter.unusedVariables false
namespace Go.Proofs.Try
open Go Go.AM

@[go_sem] theorem assert_failure (v : Value) (xT : TypeId) (w : World) : (Instr.typeAssert (.iface 73 v) xT 73 true).run Try.prog w = .ok (.tuple #[v, .bool true]) w := by
  simp [Instr.typeAssert, run_underlying Try.underlying73]
theorem catch_idle (p : Addr) (w : World) :
    CallsD Try.prog 27 #[.pointer (some p)] .returning w fun e u' w' => e = .returned (.tuple #[]) ∧ u' = .returning ∧ w' = w := by
  refine callsD_of_wpS Try.func27 rfl fun c₀ cs hu => ?_
  apply wpS_seq
  apply wpS_region
  simp [wpOpsS, go_sem, recoverD, hu, Try.ntmps27, Exit.thenS]
  refine wpS_of_wp ?_
  go_wp2
  cases c₀
  simp_all [bodyPostS, results, Try.results27]
set_option maxHeartbeats 4000000 in
theorem catch_panicking (p : Addr) (x code : Int) (w : World) (hc : ∀ o, (w.alloc o).cell? p = some (.int .i64 x)) (hz : ∀ o, (w.alloc o).frozen? p = false) :
    CallsD Try.prog 27 #[.pointer (some p)] (.panicking (failCh code)) w fun e u' w' =>
      e = .returned (.tuple #[]) ∧ u' = .panicking [{ v := .iface 73 (.agg #[.int .i64 code]), recovered := true }] ∧ w' = (w.alloc (.cells #[.int .i64 code] 73)).setCell p (.int .i64 code) := by
  refine callsD_of_wpS Try.func27 rfl fun c₀ cs hu => ?_
  apply wpS_seq
  apply wpS_region
  simp [wpOpsS, go_sem, recoverD, hu, Try.ntmps27, Exit.thenS]
  refine wpS_of_wp ?_
  go_wp2_with (simp only [hc, hz])
  all_goals (cases c₀; simp_all [bodyPostS, results, Try.results27])
end Go.Proofs.Try
