/- Messages: the layer's tests and the reference's. -/
import Derived.Test.YtlpnpjlnoeacnaaMsgD
import Derived.Test.YtlpnpjlnoeacnaaWk
set_option linter.unusedSimpArgs false
set_option linter.unusedVariables false
namespace Go.Proofs.Try
open Go Go.AM

structure Ms where
  topic : ByteArray
  payload : ByteArray
  level : Int
  retain : Bool
  prio : Int
  expires : Int
  sender : ByteArray
  seq : Int
  props : List Pr
  deriving DecidableEq
abbrev aggM (m : Ms) : AV := .agg [st m.topic, st m.payload, i64 m.level, bo m.retain, i64 m.prio, i64 m.expires, st m.sender, i64 m.seq, rowP m.props]
set_option maxRecDepth 10000 in
theorem is_calls (n m : Int) : ACallP Try.prog 66 [i64 n, i64 m] (bo (decide (0 ≤ n) && decide (n ≤ m))) := by
  refine ACalls.body tok Try.func66 rfl (by kernel_rfl) (by rw [Try.ntmps66]; simp) ?_
  simp only [Try.ntmps66, Try.results66, argT]
  repeat' (first|refine AL.do tok rfl rfl ?_|refine AL.nil ?_|refine AW.seq fun K hK => ?_|refine AW.region ?_|refine AL.no rfl rfl ?_|(refine hK _ ?_; clear hK)|(clear hK; refine hK _ ?_; clear hK)|(clear hK; clear hK; refine hK _ ?_; clear hK)|refine qaW ?_|refine qa1 tok ?_|refine qa2 tok ?_|refine qa3 tok ?_|refine AL.loadR tok rfl rfl rfl rfl rfl rfl ?_|refine qa4 tok ?_|refine qa5 tok ?_|refine AW.block ?_|refine AW.exit ?_|refine AW.skip ?_|((fail_if_success (refine AL.guard (b := true) rfl rfl ?_ ?_)); (fail_if_success (refine AL.guard (b := false) rfl rfl ?_ ?_)); refine AL.guard rfl rfl (fun hg => ?_) (fun hg => ?_) <;> ((try simp only [DX] at hg) <;> (try first|(exfalso; omega)|exact absurd trivial hg|exact False.elim hg|exact absurd rfl hg)))|refine AW.condT rfl ?_|refine AW.condF rfl ?_|(refine AW.cond rfl (fun hg => ?_) (fun hg => ?_) <;> ((try simp only [DX] at hg) <;> (try first|(exfalso; omega)|exact absurd trivial hg|exact False.elim hg|exact absurd rfl hg)))|refine AW.ret ?_)
  all_goals (refine ⟨_, _, _, _, rfl, Out.pure rfl ⟨?_, rfl⟩ rfl⟩; (refine bo_iff ?_; (try simp only [DX]); omega))

/-- The error of a message. -/
def checkM (m : Ms) : Int :=
  if validT m.topic then
    if 256 < m.payload.size then 5 else
    if ¬ (0 ≤ m.level ∧ m.level ≤ 2) then 14 else
    if ¬ ((0 ≤ m.prio ∧ m.prio ≤ 9) ∧ 0 ≤ m.expires ∧ m.expires ≤ 1099511627776) then 1 else
    if ¬ (m.sender = ⟨#[]⟩ ∨ nameS m.sender = true) then 11 else
    if ¬ (0 ≤ m.seq ∧ m.seq ≤ 1099511627776) then 1 else propsS m.props
  else 12

set_option maxHeartbeats 8000000 in
set_option maxRecDepth 10000 in
theorem checkM_calls (m : Ms) (ht : m.topic.size ≤ 9223372036854775807) : ACallP Try.prog 33 [aggM m] (i64 (checkM m)) := by
  have hv := validT_calls m.topic ht
  refine ACalls.body tok Try.func33 rfl (by kernel_rfl) (by rw [Try.ntmps33]; simp) ?_
  simp only [Try.ntmps33, Try.results33, argT]
  repeat' (first|refine AL.do tok rfl rfl ?_|refine AL.nil ?_|refine AW.seq fun K hK => ?_|refine AW.region ?_|refine AL.no rfl rfl ?_|(refine hK _ ?_; clear hK)|(clear hK; refine hK _ ?_; clear hK)|(clear hK; clear hK; refine hK _ ?_; clear hK)|refine qaW ?_|refine qa1 tok ?_|refine qa2 tok ?_|refine qa3 tok ?_|refine AL.loadR tok rfl rfl rfl rfl rfl rfl ?_|refine qa4 tok ?_|refine qa5 tok ?_|refine AW.block ?_|refine AW.exit ?_|refine AW.skip ?_|refine qc1 (hv ..) ?_|refine qc2 (hv ..) ?_|refine qc1 (is_calls ..) ?_|refine qc2 (is_calls ..) ?_|refine qc1 (name_calls ..) ?_|refine qc2 (name_calls ..) ?_|refine qc1 (props_calls ..) ?_|refine qc2 (props_calls ..) ?_|((fail_if_success (refine AL.guard (b := true) rfl rfl ?_ ?_)); (fail_if_success (refine AL.guard (b := false) rfl rfl ?_ ?_)); refine AL.guard rfl rfl (fun hg => ?_) (fun hg => ?_) <;> ((try simp only [DX] at hg) <;> (try first|(exfalso; omega)|exact absurd trivial hg|exact False.elim hg|exact absurd rfl hg)))|refine AW.condT rfl ?_|refine AW.condF rfl ?_|(refine AW.cond rfl (fun hg => ?_) (fun hg => ?_) <;> ((try simp only [DX] at hg) <;> (try first|(exfalso; omega)|exact absurd trivial hg|exact False.elim hg|exact absurd rfl hg)))|refine AW.ret ?_)
  all_goals (refine ⟨_, _, _, _, rfl, Out.pure rfl ⟨?_, rfl⟩ rfl⟩)
  all_goals ((try simp only [DX] at *))
  all_goals
    refine congrArg i64 (?_ : _ = checkM m)
    unfold checkM
    repeat' split
  all_goals first
    | rfl
    | (exfalso; omega)
    | (exfalso; simp_all; done)
    | (exfalso; simp_all; omega)

end Go.Proofs.Try
