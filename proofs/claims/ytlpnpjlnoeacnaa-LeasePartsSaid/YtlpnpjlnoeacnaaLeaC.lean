/- lease: the reference's split, Recall, Settle, Count; equality of deliveries. -/
import Derived.Test.YtlpnpjlnoeacnaaLeaB
import Derived.Test.YtlpnpjlnoeacnaaWk
set_option linter.unusedSimpArgs false
set_option linter.unusedVariables false
namespace Go.Proofs.Try
open Go Go.AM

def inS (n a b : Int) : Bool := decide (a ≤ n) && decide (n ≤ b)
set_option maxHeartbeats 8000000 in
set_option maxRecDepth 10000 in
theorem within_calls (n a b : Int) : ACallP Try.prog 31 [i64 n, i64 a, i64 b] (bo (inS n a b)) := by
  unfold inS
  refine ACalls.body tok Try.func31 rfl (by kernel_rfl) (by rw [Try.ntmps31]; simp) ?_
  simp only [Try.ntmps31, Try.results31, argT]
  repeat' (first|refine AL.do tok rfl rfl ?_|refine AL.nil ?_|refine AW.seq fun K hK => ?_|refine AW.region ?_|refine AL.no rfl rfl ?_|(refine hK _ ?_; clear hK)|(clear hK; refine hK _ ?_; clear hK)|(clear hK; clear hK; refine hK _ ?_; clear hK)|refine qaW ?_|refine qa1 tok ?_|refine qa2 tok ?_|refine qa3 tok ?_|refine AL.loadR tok rfl rfl rfl rfl rfl rfl ?_|refine qa4 tok ?_|refine qa5 tok ?_|refine AW.block ?_|refine AW.exit ?_|refine AW.skip ?_|((fail_if_success (refine AL.guard (b := true) rfl rfl ?_ ?_)); (fail_if_success (refine AL.guard (b := false) rfl rfl ?_ ?_)); refine AL.guard rfl rfl (fun hg => ?_) (fun hg => ?_) <;> ((try simp only [DX] at hg) <;> (try first|(exfalso; omega)|exact absurd trivial hg|exact False.elim hg|exact absurd rfl hg)))|refine AW.condT rfl ?_|refine AW.condF rfl ?_|(refine AW.cond rfl (fun hg => ?_) (fun hg => ?_) <;> ((try simp only [DX] at hg) <;> (try first|(exfalso; omega)|exact absurd trivial hg|exact False.elim hg|exact absurd rfl hg)))|refine AW.ret ?_)
  all_goals (refine ⟨_, _, _, _, rfl, Out.pure rfl ⟨?_, rfl⟩ rfl⟩; first | (simp [*]; done) | (simp [*]; omega))
/-- Tags are numbers of 64 bits. -/
def TagL (l : List Le) : Prop := ∀ x ∈ l, -9223372036854775808 ≤ x.tag ∧ x.tag ≤ 9223372036854775807
end Go.Proofs.Try
