/- inflight: new windows, what is left, the place of a flight, packets. -/
import Derived.Test.YtkpodhdjifnigaaMsgE
import Derived.Test.YtkpodhdjifnigaaIdentH
import Derived.Test.YtkpodhdjifnigaaAM48
set_option linter.unusedSimpArgs false
set_option linter.unusedVariables false
namespace Go.Proofs.Try
open Go Go.AM

structure Fl where
  id : Int
  state : Int
  msg : Ms
  deriving DecidableEq
def encF (f : Fl) : List D := [.one (.int .i64 f.id), .one (.int .i64 f.state), .one (.string f.msg.topic), .one (.string f.msg.payload), .one (.int .i64 f.msg.level), .one (.bool f.msg.retain), .one (.int .i64 f.msg.prio), .one (.int .i64 f.msg.expires), .one (.string f.msg.sender), .one (.int .i64 f.msg.seq), .row (f.msg.props.map encP)]
abbrev rowF (l : List Fl) : AV := .d (.row (l.map encF))
abbrev aggF (f : Fl) : AV := .agg [i64 f.id, i64 f.state, st f.msg.topic, st f.msg.payload, i64 f.msg.level, bo f.msg.retain, i64 f.msg.prio, i64 f.msg.expires, st f.msg.sender, i64 f.msg.seq, rowP f.msg.props]
structure Wi where
  limit : Int
  items : List Fl
  pool : Po
abbrev aggW (w : Wi) : AV := .agg [i64 w.limit, rowF w.items, rowI w.pool.used, i64 w.pool.last]
/-- A packet that the window makes: its kind, its identifier, dup, its message. -/
structure Pk where
  kind : Int
  id : Int
  dup : Bool
  msg : Ms
def zeroM : Ms := ⟨⟨#[]⟩, ⟨#[]⟩, 0, false, 0, 0, ⟨#[]⟩, 0, []⟩
def encK (p : Pk) : List D := [.one (.int .i64 p.kind), .one (.int .i64 p.id), .one (.bool p.dup), .one (.string p.msg.topic), .one (.string p.msg.payload), .one (.int .i64 p.msg.level), .one (.bool p.msg.retain), .one (.int .i64 p.msg.prio), .one (.int .i64 p.msg.expires), .one (.string p.msg.sender), .one (.int .i64 p.msg.seq), .row (p.msg.props.map encP),
  .one (.string ⟨#[]⟩), .one (.string ⟨#[]⟩), .one (.bool false), .one (.int .i64 0), .one (.int .i64 0), .one (.int .i64 0), .one (.bool false), .one (.int .i64 0), .one (.string ⟨#[]⟩), .one (.string ⟨#[]⟩), .one (.int .i64 0), .one (.bool false), .one (.int .i64 0), .one (.int .i64 0), .one (.string ⟨#[]⟩), .one (.int .i64 0), .row [], .one (.bool false), .one (.int .i64 0), .row [], .row [], .row []]
abbrev aggK (p : Pk) : AV := .agg ((encK p).map .d)
def pubrelS (id : Int) : Pk := ⟨6, id, false, zeroM⟩
def publishS (f : Fl) (dup : Bool) : Pk := ⟨3, f.id, dup, f.msg⟩

def newS (n : Int) : Wi := ⟨if n < 0 then 0 else if 32 < n then 32 else n, [], zeroP⟩
theorem newS_neg {n : Int} (h : n < 0) : newS n = ⟨0, [], zeroP⟩ := by rw [newS, if_pos h]
theorem newS_pos {n : Int} (h : 0 ≤ n) : newS n = ⟨if 32 < n then 32 else n, [], zeroP⟩ := by rw [newS, if_neg (by omega)]
theorem newS_big {n : Int} (h : 32 < n) : newS n = ⟨32, [], zeroP⟩ := by rw [newS_pos (by omega), if_pos h]
theorem newS_in {n : Int} (h : 0 ≤ n) (h2 : n ≤ 32) : newS n = ⟨n, [], zeroP⟩ := by rw [newS_pos h, if_neg (by omega)]
set_option maxHeartbeats 8000000 in
set_option maxRecDepth 10000 in
theorem new_pr (n : Int) : ACallPR Try.prog 30 [i64 n] fun r' => nd3 r' = aggW (newS n) := by
  refine ACalls.body tok Try.func30 rfl (by kernel_rfl) (by rw [Try.ntmps30]; simp) ?_
  simp only [Try.ntmps30, Try.results30, argT]
  repeat' (first|refine AL.do tok rfl rfl ?_|refine AL.nil ?_|refine AW.seq fun K hK => ?_|refine AW.region ?_|refine AL.no rfl rfl ?_|(refine hK _ ?_; clear hK)|(clear hK; refine hK _ ?_; clear hK)|(clear hK; clear hK; refine hK _ ?_; clear hK)|refine qa7 qv1 ?_|refine qa7 qv2 ?_|refine qa7 qv3 ?_|refine qa7 (qv4 tok) ?_|refine qa7 (qv5 tok) ?_|refine qa7 qv6 ?_|refine qa7 qv7 ?_|refine qa7 (qv8 tok) ?_|refine qa7 (qv9 tok) ?_|refine qa7 (qv10 tok) ?_|refine qa7 (qv11 tok) ?_|refine qa7 (qv12 tok) ?_|refine qa7 (qv13 tok) ?_|refine qa7 (qv14 tok) ?_|refine qa7 (qv15 tok) ?_|refine qa7 (qv16 tok) ?_|refine qa7 qv17 ?_|refine qa7 (qv18 tok) ?_|refine qa7 qv19 ?_|refine qa7 (qv20 tok) ?_|refine qa7 (qv21 tok) ?_|refine qa7 (qv22 tok) ?_|refine qa7 (qv23 tok) ?_|refine qa7 (qv24 tok) ?_|refine qa7 qv26 ?_|refine qa7 qv27 ?_|refine qa7 (qv28 tok) ?_|refine qa1 tok ?_|refine qa2 tok ?_|refine qa3 tok ?_|refine AL.loadR tok rfl rfl rfl rfl rfl rfl ?_|refine qa4 tok ?_|refine qa5 tok ?_|refine AW.block ?_|refine AW.exit ?_|refine AW.skip ?_|((fail_if_success (refine AL.guard (b := true) rfl rfl ?_ ?_)); (fail_if_success (refine AL.guard (b := false) rfl rfl ?_ ?_)); refine AL.guard rfl rfl (fun hg => ?_) (fun hg => ?_) <;> ((try simp only [DX] at hg) <;> (try first|(exfalso; omega)|exact absurd trivial hg|exact False.elim hg|exact absurd rfl hg)))|refine AW.condT rfl ?_|refine AW.condF rfl ?_|(refine AW.cond rfl (fun hg => ?_) (fun hg => ?_) <;> ((try simp only [DX] at hg) <;> (try first|(exfalso; omega)|exact absurd trivial hg|exact False.elim hg|exact absurd rfl hg)))|refine AW.ret ?_)
  all_goals (refine ⟨_, _, _, _, rfl, Out.pure rfl ⟨?_, rfl⟩ rfl⟩; (try simp only [DX] at *); first | (rw [newS_neg (by omega)]; rfl) | (rw [newS_big (by omega)]; rfl) | (rw [newS_in (by omega) (by omega)]; rfl) | (rw [newS_pos (by omega)]; rfl))
set_option maxHeartbeats 8000000 in
set_option maxRecDepth 10000 in
theorem refNew_pr (n : Int) : ACallPR Try.prog 31 [i64 n] fun r' => nd3 r' = aggW (newS n) := by
  refine ACalls.body tok Try.func31 rfl (by kernel_rfl) (by rw [Try.ntmps31]; simp) ?_
  simp only [Try.ntmps31, Try.results31, argT]
  repeat' (first|refine AL.do tok rfl rfl ?_|refine AL.nil ?_|refine AW.seq fun K hK => ?_|refine AW.region ?_|refine AL.no rfl rfl ?_|(refine hK _ ?_; clear hK)|(clear hK; refine hK _ ?_; clear hK)|(clear hK; clear hK; refine hK _ ?_; clear hK)|refine qa7 qv1 ?_|refine qa7 qv2 ?_|refine qa7 qv3 ?_|refine qa7 (qv4 tok) ?_|refine qa7 (qv5 tok) ?_|refine qa7 qv6 ?_|refine qa7 qv7 ?_|refine qa7 (qv8 tok) ?_|refine qa7 (qv9 tok) ?_|refine qa7 (qv10 tok) ?_|refine qa7 (qv11 tok) ?_|refine qa7 (qv12 tok) ?_|refine qa7 (qv13 tok) ?_|refine qa7 (qv14 tok) ?_|refine qa7 (qv15 tok) ?_|refine qa7 (qv16 tok) ?_|refine qa7 qv17 ?_|refine qa7 (qv18 tok) ?_|refine qa7 qv19 ?_|refine qa7 (qv20 tok) ?_|refine qa7 (qv21 tok) ?_|refine qa7 (qv22 tok) ?_|refine qa7 (qv23 tok) ?_|refine qa7 (qv24 tok) ?_|refine qa7 qv26 ?_|refine qa7 qv27 ?_|refine qa7 (qv28 tok) ?_|refine qa1 tok ?_|refine qa2 tok ?_|refine qa3 tok ?_|refine AL.loadR tok rfl rfl rfl rfl rfl rfl ?_|refine qa4 tok ?_|refine qa5 tok ?_|refine AW.block ?_|refine AW.exit ?_|refine AW.skip ?_|((fail_if_success (refine AL.guard (b := true) rfl rfl ?_ ?_)); (fail_if_success (refine AL.guard (b := false) rfl rfl ?_ ?_)); refine AL.guard rfl rfl (fun hg => ?_) (fun hg => ?_) <;> ((try simp only [DX] at hg) <;> (try first|(exfalso; omega)|exact absurd trivial hg|exact False.elim hg|exact absurd rfl hg)))|refine AW.condT rfl ?_|refine AW.condF rfl ?_|(refine AW.cond rfl (fun hg => ?_) (fun hg => ?_) <;> ((try simp only [DX] at hg) <;> (try first|(exfalso; omega)|exact absurd trivial hg|exact False.elim hg|exact absurd rfl hg)))|refine AW.ret ?_)
  all_goals (refine ⟨_, _, _, _, rfl, Out.pure rfl ⟨?_, rfl⟩ rfl⟩; (try simp only [DX] at *); first | (rw [newS_neg (by omega)]; rfl) | (rw [newS_big (by omega)]; rfl) | (rw [newS_in (by omega) (by omega)]; rfl) | (rw [newS_pos (by omega)]; rfl))
set_option maxHeartbeats 8000000 in
set_option maxRecDepth 10000 in
theorem wleft_calls (w : Wi) (hl : w.items.length ≤ 1000000) (h0 : 0 ≤ w.limit) (h1 : w.limit ≤ 1000000) : ACallP Try.prog 22 [aggW w] (i64 (if w.limit - w.items.length < 0 then 0 else w.limit - w.items.length)) := by
  have hlm : (w.items.map encF).length = w.items.length := List.length_map ..
  refine ACalls.body tok Try.func22 rfl (by kernel_rfl) (by rw [Try.ntmps22]; simp) ?_
  simp only [Try.ntmps22, Try.results22, argT]
  repeat' (first|refine AL.do tok rfl rfl ?_|refine AL.nil ?_|refine AW.seq fun K hK => ?_|refine AW.region ?_|refine AL.no rfl rfl ?_|(refine hK _ ?_; clear hK)|(clear hK; refine hK _ ?_; clear hK)|(clear hK; clear hK; refine hK _ ?_; clear hK)|refine qa7 qv1 ?_|refine qa7 qv2 ?_|refine qa7 qv3 ?_|refine qa7 (qv4 tok) ?_|refine qa7 (qv5 tok) ?_|refine qa7 qv6 ?_|refine qa7 qv7 ?_|refine qa7 (qv8 tok) ?_|refine qa7 (qv9 tok) ?_|refine qa7 (qv10 tok) ?_|refine qa7 (qv11 tok) ?_|refine qa7 (qv12 tok) ?_|refine qa7 (qv13 tok) ?_|refine qa7 (qv14 tok) ?_|refine qa7 (qv15 tok) ?_|refine qa7 (qv16 tok) ?_|refine qa7 qv17 ?_|refine qa7 (qv18 tok) ?_|refine qa7 qv19 ?_|refine qa7 (qv20 tok) ?_|refine qa7 (qv21 tok) ?_|refine qa7 (qv22 tok) ?_|refine qa7 (qv23 tok) ?_|refine qa7 (qv24 tok) ?_|refine qa7 qv26 ?_|refine qa7 qv27 ?_|refine qa7 (qv28 tok) ?_|refine qa1 tok ?_|refine qa2 tok ?_|refine qa3 tok ?_|refine AL.loadR tok rfl rfl rfl rfl rfl rfl ?_|refine qa4 tok ?_|refine qa5 tok ?_|refine AW.block ?_|refine AW.exit ?_|refine AW.skip ?_|((fail_if_success (refine AL.guard (b := true) rfl rfl ?_ ?_)); (fail_if_success (refine AL.guard (b := false) rfl rfl ?_ ?_)); refine AL.guard rfl rfl (fun hg => ?_) (fun hg => ?_) <;> ((try simp only [DX] at hg) <;> (try first|(exfalso; omega)|exact absurd trivial hg|exact False.elim hg|exact absurd rfl hg)))|refine AW.condT rfl ?_|refine AW.condF rfl ?_|(refine AW.cond rfl (fun hg => ?_) (fun hg => ?_) <;> ((try simp only [DX] at hg) <;> (try first|(exfalso; omega)|exact absurd trivial hg|exact False.elim hg|exact absurd rfl hg)))|refine AW.ret ?_)
  all_goals (refine ⟨_, _, _, _, rfl, Out.pure rfl ⟨?_, rfl⟩ rfl⟩; rw [hlm])
set_option maxHeartbeats 8000000 in
set_option maxRecDepth 10000 in
theorem pubrel_pr (id : Int) : ACallPR Try.prog 50 [i64 id] fun r' => nd3 r' = aggK (pubrelS id) := by
  refine ACalls.body tok Try.func50 rfl (by kernel_rfl) (by rw [Try.ntmps50]; simp) ?_
  simp only [Try.ntmps50, Try.results50, argT]
  repeat' (first|refine AL.do tok rfl rfl ?_|refine AL.nil ?_|refine AW.seq fun K hK => ?_|refine AW.region ?_|refine AL.no rfl rfl ?_|(refine hK _ ?_; clear hK)|(clear hK; refine hK _ ?_; clear hK)|(clear hK; clear hK; refine hK _ ?_; clear hK)|refine qa7 qv1 ?_|refine qa7 qv2 ?_|refine qa7 qv3 ?_|refine qa7 (qv4 tok) ?_|refine qa7 (qv5 tok) ?_|refine qa7 qv6 ?_|refine qa7 qv7 ?_|refine qa7 (qv8 tok) ?_|refine qa7 (qv9 tok) ?_|refine qa7 (qv10 tok) ?_|refine qa7 (qv11 tok) ?_|refine qa7 (qv12 tok) ?_|refine qa7 (qv13 tok) ?_|refine qa7 (qv14 tok) ?_|refine qa7 (qv15 tok) ?_|refine qa7 (qv16 tok) ?_|refine qa7 qv17 ?_|refine qa7 (qv18 tok) ?_|refine qa7 qv19 ?_|refine qa7 (qv20 tok) ?_|refine qa7 (qv21 tok) ?_|refine qa7 (qv22 tok) ?_|refine qa7 (qv23 tok) ?_|refine qa7 (qv24 tok) ?_|refine qa7 qv26 ?_|refine qa7 qv27 ?_|refine qa7 (qv28 tok) ?_|refine qa1 tok ?_|refine qa2 tok ?_|refine qa3 tok ?_|refine AL.loadR tok rfl rfl rfl rfl rfl rfl ?_|refine qa4 tok ?_|refine qa5 tok ?_|refine AW.block ?_|refine AW.exit ?_|refine AW.skip ?_|((fail_if_success (refine AL.guard (b := true) rfl rfl ?_ ?_)); (fail_if_success (refine AL.guard (b := false) rfl rfl ?_ ?_)); refine AL.guard rfl rfl (fun hg => ?_) (fun hg => ?_) <;> ((try simp only [DX] at hg) <;> (try first|(exfalso; omega)|exact absurd trivial hg|exact False.elim hg|exact absurd rfl hg)))|refine AW.condT rfl ?_|refine AW.condF rfl ?_|(refine AW.cond rfl (fun hg => ?_) (fun hg => ?_) <;> ((try simp only [DX] at hg) <;> (try first|(exfalso; omega)|exact absurd trivial hg|exact False.elim hg|exact absurd rfl hg)))|refine AW.ret ?_)
  all_goals (refine ⟨_, _, _, _, rfl, Out.pure rfl ⟨?_, rfl⟩ rfl⟩; rfl)
set_option maxHeartbeats 8000000 in
set_option maxRecDepth 10000 in
theorem refPubrel_pr (id : Int) : ACallPR Try.prog 51 [i64 id] fun r' => nd3 r' = aggK (pubrelS id) := by
  refine ACalls.body tok Try.func51 rfl (by kernel_rfl) (by rw [Try.ntmps51]; simp) ?_
  simp only [Try.ntmps51, Try.results51, argT]
  repeat' (first|refine AL.do tok rfl rfl ?_|refine AL.nil ?_|refine AW.seq fun K hK => ?_|refine AW.region ?_|refine AL.no rfl rfl ?_|(refine hK _ ?_; clear hK)|(clear hK; refine hK _ ?_; clear hK)|(clear hK; clear hK; refine hK _ ?_; clear hK)|refine qa7 qv1 ?_|refine qa7 qv2 ?_|refine qa7 qv3 ?_|refine qa7 (qv4 tok) ?_|refine qa7 (qv5 tok) ?_|refine qa7 qv6 ?_|refine qa7 qv7 ?_|refine qa7 (qv8 tok) ?_|refine qa7 (qv9 tok) ?_|refine qa7 (qv10 tok) ?_|refine qa7 (qv11 tok) ?_|refine qa7 (qv12 tok) ?_|refine qa7 (qv13 tok) ?_|refine qa7 (qv14 tok) ?_|refine qa7 (qv15 tok) ?_|refine qa7 (qv16 tok) ?_|refine qa7 qv17 ?_|refine qa7 (qv18 tok) ?_|refine qa7 qv19 ?_|refine qa7 (qv20 tok) ?_|refine qa7 (qv21 tok) ?_|refine qa7 (qv22 tok) ?_|refine qa7 (qv23 tok) ?_|refine qa7 (qv24 tok) ?_|refine qa7 qv26 ?_|refine qa7 qv27 ?_|refine qa7 (qv28 tok) ?_|refine qa1 tok ?_|refine qa2 tok ?_|refine qa3 tok ?_|refine AL.loadR tok rfl rfl rfl rfl rfl rfl ?_|refine qa4 tok ?_|refine qa5 tok ?_|refine AW.block ?_|refine AW.exit ?_|refine AW.skip ?_|((fail_if_success (refine AL.guard (b := true) rfl rfl ?_ ?_)); (fail_if_success (refine AL.guard (b := false) rfl rfl ?_ ?_)); refine AL.guard rfl rfl (fun hg => ?_) (fun hg => ?_) <;> ((try simp only [DX] at hg) <;> (try first|(exfalso; omega)|exact absurd trivial hg|exact False.elim hg|exact absurd rfl hg)))|refine AW.condT rfl ?_|refine AW.condF rfl ?_|(refine AW.cond rfl (fun hg => ?_) (fun hg => ?_) <;> ((try simp only [DX] at hg) <;> (try first|(exfalso; omega)|exact absurd trivial hg|exact False.elim hg|exact absurd rfl hg)))|refine AW.ret ?_)
  all_goals (refine ⟨_, _, _, _, rfl, Out.pure rfl ⟨?_, rfl⟩ rfl⟩; rfl)
set_option maxHeartbeats 8000000 in
set_option maxRecDepth 10000 in
theorem refPublish_pr (f : Fl) (dup : Bool) : ACallPR Try.prog 42 [aggF f, bo dup] fun r' => nd3 r' = aggK (publishS f dup) := by
  refine ACalls.body tok Try.func42 rfl (by kernel_rfl) (by rw [Try.ntmps42]; simp) ?_
  simp only [Try.ntmps42, Try.results42, argT]
  repeat' (first|refine AL.do tok rfl rfl ?_|refine AL.nil ?_|refine AW.seq fun K hK => ?_|refine AW.region ?_|refine AL.no rfl rfl ?_|(refine hK _ ?_; clear hK)|(clear hK; refine hK _ ?_; clear hK)|(clear hK; clear hK; refine hK _ ?_; clear hK)|refine qa7 qv1 ?_|refine qa7 qv2 ?_|refine qa7 qv3 ?_|refine qa7 (qv4 tok) ?_|refine qa7 (qv5 tok) ?_|refine qa7 qv6 ?_|refine qa7 qv7 ?_|refine qa7 (qv8 tok) ?_|refine qa7 (qv9 tok) ?_|refine qa7 (qv10 tok) ?_|refine qa7 (qv11 tok) ?_|refine qa7 (qv12 tok) ?_|refine qa7 (qv13 tok) ?_|refine qa7 (qv14 tok) ?_|refine qa7 (qv15 tok) ?_|refine qa7 (qv16 tok) ?_|refine qa7 qv17 ?_|refine qa7 (qv18 tok) ?_|refine qa7 qv19 ?_|refine qa7 (qv20 tok) ?_|refine qa7 (qv21 tok) ?_|refine qa7 (qv22 tok) ?_|refine qa7 (qv23 tok) ?_|refine qa7 (qv24 tok) ?_|refine qa7 qv26 ?_|refine qa7 qv27 ?_|refine qa7 (qv28 tok) ?_|refine qa1 tok ?_|refine qa2 tok ?_|refine qa3 tok ?_|refine AL.loadR tok rfl rfl rfl rfl rfl rfl ?_|refine qa4 tok ?_|refine qa5 tok ?_|refine AW.block ?_|refine AW.exit ?_|refine AW.skip ?_|((fail_if_success (refine AL.guard (b := true) rfl rfl ?_ ?_)); (fail_if_success (refine AL.guard (b := false) rfl rfl ?_ ?_)); refine AL.guard rfl rfl (fun hg => ?_) (fun hg => ?_) <;> ((try simp only [DX] at hg) <;> (try first|(exfalso; omega)|exact absurd trivial hg|exact False.elim hg|exact absurd rfl hg)))|refine AW.condT rfl ?_|refine AW.condF rfl ?_|(refine AW.cond rfl (fun hg => ?_) (fun hg => ?_) <;> ((try simp only [DX] at hg) <;> (try first|(exfalso; omega)|exact absurd trivial hg|exact False.elim hg|exact absurd rfl hg)))|refine AW.ret ?_)
  all_goals (refine ⟨_, _, _, _, rfl, Out.pure rfl ⟨?_, rfl⟩ rfl⟩; rfl)
end Go.Proofs.Try
