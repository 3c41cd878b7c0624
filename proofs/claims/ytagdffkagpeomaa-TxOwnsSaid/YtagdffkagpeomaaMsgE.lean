/- Messages: the layer's tests and the reference's. -/
import Derived.Test.YtagdffkagpeomaaMsgD
import Derived.Test.YtagdffkagpeomaaWk
set_option linter.unusedSimpArgs false
set_option linter.unusedVariables false
namespace Go.Proofs.Try
open Go Go.AM

structure Ms where
  topic : ByteArray
  payload : ByteArray
  level : Int
  retain : Bool
  prio : Int
  expires : Int
  sender : ByteArray
  seq : Int
  props : List Pr
  deriving DecidableEq
def encM (m : Ms) : List D := [.one (.string m.topic), .one (.string m.payload), .one (.int .i64 m.level), .one (.bool m.retain), .one (.int .i64 m.prio), .one (.int .i64 m.expires), .one (.string m.sender), .one (.int .i64 m.seq), .row (m.props.map encP)]
abbrev aggM (m : Ms) : AV := .agg [st m.topic, st m.payload, i64 m.level, bo m.retain, i64 m.prio, i64 m.expires, st m.sender, i64 m.seq, rowP m.props]
abbrev rowM (l : List Ms) : AV := .d (.row (l.map encM))

set_option maxRecDepth 10000 in
theorem is_calls (n m : Int) : ACallP Try.prog 70 [i64 n, i64 m] (bo (decide (0 ≤ n) && decide (n ≤ m))) := by
  refine ACalls.body tok Try.func70 rfl (by kernel_rfl) (by rw [Try.ntmps70]; simp) ?_
  simp only [Try.ntmps70, Try.results70, argT]
  repeat' (first|refine AL.do tok rfl rfl ?_|refine AL.nil ?_|refine AW.seq fun K hK => ?_|refine AW.region ?_|refine AL.no rfl rfl ?_|(refine hK _ ?_; clear hK)|(clear hK; refine hK _ ?_; clear hK)|(clear hK; clear hK; refine hK _ ?_; clear hK)|refine qaW ?_|refine qa1 tok ?_|refine qa2 tok ?_|refine qa3 tok ?_|refine AL.loadR tok rfl rfl rfl rfl rfl rfl ?_|refine qa4 tok ?_|refine qa5 tok ?_|refine AW.block ?_|refine AW.exit ?_|refine AW.skip ?_|((fail_if_success (refine AL.guard (b := true) rfl rfl ?_ ?_)); (fail_if_success (refine AL.guard (b := false) rfl rfl ?_ ?_)); refine AL.guard rfl rfl (fun hg => ?_) (fun hg => ?_) <;> ((try simp only [DX] at hg) <;> (try first|(exfalso; omega)|exact absurd trivial hg|exact False.elim hg|exact absurd rfl hg)))|refine AW.condT rfl ?_|refine AW.condF rfl ?_|(refine AW.cond rfl (fun hg => ?_) (fun hg => ?_) <;> ((try simp only [DX] at hg) <;> (try first|(exfalso; omega)|exact absurd trivial hg|exact False.elim hg|exact absurd rfl hg)))|refine AW.ret ?_)
  all_goals (refine ⟨_, _, _, _, rfl, Out.pure rfl ⟨?_, rfl⟩ rfl⟩; (refine bo_iff ?_; (try simp only [DX]); omega))

/-- The error of a message. -/
def checkM (m : Ms) : Int :=
  if validT m.topic then
    if 256 < m.payload.size then 5 else
    if ¬ (0 ≤ m.level ∧ m.level ≤ 2) then 14 else
    if ¬ ((0 ≤ m.prio ∧ m.prio ≤ 9) ∧ 0 ≤ m.expires ∧ m.expires ≤ 1099511627776) then 1 else
    if ¬ (m.sender = ⟨#[]⟩ ∨ nameS m.sender = true) then 11 else
    if ¬ (0 ≤ m.seq ∧ m.seq ≤ 1099511627776) then 1 else propsS m.props
  else 12

set_option maxHeartbeats 8000000 in
set_option maxRecDepth 10000 in
theorem checkM_calls (m : Ms) (ht : m.topic.size ≤ 9223372036854775807) : ACallP Try.prog 59 [aggM m] (i64 (checkM m)) := by
  have hv := validT_calls m.topic ht
  refine ACalls.body tok Try.func59 rfl (by kernel_rfl) (by rw [Try.ntmps59]; simp) ?_
  simp only [Try.ntmps59, Try.results59, argT]
  repeat' (first|refine AL.do tok rfl rfl ?_|refine AL.nil ?_|refine AW.seq fun K hK => ?_|refine AW.region ?_|refine AL.no rfl rfl ?_|(refine hK _ ?_; clear hK)|(clear hK; refine hK _ ?_; clear hK)|(clear hK; clear hK; refine hK _ ?_; clear hK)|refine qaW ?_|refine qa1 tok ?_|refine qa2 tok ?_|refine qa3 tok ?_|refine AL.loadR tok rfl rfl rfl rfl rfl rfl ?_|refine qa4 tok ?_|refine qa5 tok ?_|refine AW.block ?_|refine AW.exit ?_|refine AW.skip ?_|refine qc1 (hv ..) ?_|refine qc2 (hv ..) ?_|refine qc1 (is_calls ..) ?_|refine qc2 (is_calls ..) ?_|refine qc1 (name_calls ..) ?_|refine qc2 (name_calls ..) ?_|refine qc1 (props_calls ..) ?_|refine qc2 (props_calls ..) ?_|((fail_if_success (refine AL.guard (b := true) rfl rfl ?_ ?_)); (fail_if_success (refine AL.guard (b := false) rfl rfl ?_ ?_)); refine AL.guard rfl rfl (fun hg => ?_) (fun hg => ?_) <;> ((try simp only [DX] at hg) <;> (try first|(exfalso; omega)|exact absurd trivial hg|exact False.elim hg|exact absurd rfl hg)))|refine AW.condT rfl ?_|refine AW.condF rfl ?_|(refine AW.cond rfl (fun hg => ?_) (fun hg => ?_) <;> ((try simp only [DX] at hg) <;> (try first|(exfalso; omega)|exact absurd trivial hg|exact False.elim hg|exact absurd rfl hg)))|refine AW.ret ?_)
  all_goals (refine ⟨_, _, _, _, rfl, Out.pure rfl ⟨?_, rfl⟩ rfl⟩)
  all_goals ((try simp only [DX] at *))
  all_goals
    refine congrArg i64 (?_ : _ = checkM m)
    unfold checkM
    repeat' split
  all_goals first
    | rfl
    | (exfalso; omega)
    | (exfalso; simp_all; done)
    | (exfalso; simp_all; omega)

set_option maxHeartbeats 8000000 in
set_option maxRecDepth 10000 in
theorem refCheckM_calls (m : Ms) (ht : m.topic.size ≤ 9223372036854775807) : ACallP Try.prog 51 [aggM m] (i64 (checkM m)) := by
  have hv := refValid_calls m.topic ht
  refine ACalls.body tok Try.func51 rfl (by kernel_rfl) (by rw [Try.ntmps51]; simp) ?_
  simp only [Try.ntmps51, Try.results51, argT]
  repeat' (first|refine AL.do tok rfl rfl ?_|refine AL.nil ?_|refine AW.seq fun K hK => ?_|refine AW.region ?_|refine AL.no rfl rfl ?_|(refine hK _ ?_; clear hK)|(clear hK; refine hK _ ?_; clear hK)|(clear hK; clear hK; refine hK _ ?_; clear hK)|refine qaW ?_|refine qa1 tok ?_|refine qa2 tok ?_|refine qa3 tok ?_|refine AL.loadR tok rfl rfl rfl rfl rfl rfl ?_|refine qa4 tok ?_|refine qa5 tok ?_|refine AW.block ?_|refine AW.exit ?_|refine AW.skip ?_|refine qc1 (hv ..) ?_|refine qc2 (hv ..) ?_|refine qc1 (refName_calls ..) ?_|refine qc2 (refName_calls ..) ?_|refine qc1 (refProps_calls ..) ?_|refine qc2 (refProps_calls ..) ?_|((fail_if_success (refine AL.guard (b := true) rfl rfl ?_ ?_)); (fail_if_success (refine AL.guard (b := false) rfl rfl ?_ ?_)); refine AL.guard rfl rfl (fun hg => ?_) (fun hg => ?_) <;> ((try simp only [DX] at hg) <;> (try first|(exfalso; omega)|exact absurd trivial hg|exact False.elim hg|exact absurd rfl hg)))|refine AW.condT rfl ?_|refine AW.condF rfl ?_|(refine AW.cond rfl (fun hg => ?_) (fun hg => ?_) <;> ((try simp only [DX] at hg) <;> (try first|(exfalso; omega)|exact absurd trivial hg|exact False.elim hg|exact absurd rfl hg)))|refine AW.ret ?_)
  all_goals (refine ⟨_, _, _, _, rfl, Out.pure rfl ⟨?_, rfl⟩ rfl⟩)
  all_goals ((try simp only [DX] at *))
  all_goals
    refine congrArg i64 (?_ : _ = checkM m)
    unfold checkM
    repeat' split
  all_goals first
    | rfl
    | (exfalso; omega)
    | (exfalso; simp_all; done)
    | (exfalso; simp_all; omega)

def eqM (a b : Ms) : Bool :=
  decide (a.topic = b.topic) && decide (a.payload = b.payload) && decide (a.level = b.level) && decide (a.retain = b.retain) && decide (a.prio = b.prio) && decide (a.expires = b.expires) && decide (a.sender = b.sender) && decide (a.seq = b.seq) && eqPs a.props b.props
theorem eqM_iff {a b : Ms} : eqM a b = true ↔ a = b := by
  cases a; cases b
  simp [eqM, eqPs_iff, and_assoc]

set_option maxHeartbeats 8000000 in
set_option maxRecDepth 10000 in
theorem refSameM_calls (a b : Ms) : ACallP Try.prog 29 [aggM a, aggM b] (bo (eqM a b)) := by
  refine ACalls.body tok Try.func29 rfl (by kernel_rfl) (by rw [Try.ntmps29]; simp) ?_
  simp only [Try.ntmps29, Try.results29, argT]
  repeat' (first|refine AL.do tok rfl rfl ?_|refine AL.nil ?_|refine AW.seq fun K hK => ?_|refine AW.region ?_|refine AL.no rfl rfl ?_|(refine hK _ ?_; clear hK)|(clear hK; refine hK _ ?_; clear hK)|(clear hK; clear hK; refine hK _ ?_; clear hK)|refine qaW ?_|refine qa1 tok ?_|refine qa2 tok ?_|refine qa3 tok ?_|refine AL.loadR tok rfl rfl rfl rfl rfl rfl ?_|refine qa4 tok ?_|refine qa5 tok ?_|refine AW.block ?_|refine AW.exit ?_|refine AW.skip ?_|refine qc1 (sameProps_calls ..) ?_|refine qc2 (sameProps_calls ..) ?_|((fail_if_success (refine AL.guard (b := true) rfl rfl ?_ ?_)); (fail_if_success (refine AL.guard (b := false) rfl rfl ?_ ?_)); refine AL.guard rfl rfl (fun hg => ?_) (fun hg => ?_) <;> ((try simp only [DX] at hg) <;> (try first|(exfalso; omega)|exact absurd trivial hg|exact False.elim hg|exact absurd rfl hg)))|refine AW.condT rfl ?_|refine AW.condF rfl ?_|(refine AW.cond rfl (fun hg => ?_) (fun hg => ?_) <;> ((try simp only [DX] at hg) <;> (try first|(exfalso; omega)|exact absurd trivial hg|exact False.elim hg|exact absurd rfl hg)))|refine AW.ret ?_)
  all_goals (refine ⟨_, _, _, _, rfl, Out.pure rfl ⟨?_, rfl⟩ rfl⟩; simp [eqM, *])

end Go.Proofs.Try
