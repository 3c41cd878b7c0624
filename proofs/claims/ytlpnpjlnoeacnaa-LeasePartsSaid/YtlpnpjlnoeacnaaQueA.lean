/- queue: descriptions, entries, which precedes which. -/
import Derived.Test.YtlpnpjlnoeacnaaMsgG
import Derived.Test.YtlpnpjlnoeacnaaAMD
import Derived.Test.YtlpnpjlnoeacnaaWk
set_option linter.unusedSimpArgs false
set_option linter.unusedVariables false
namespace Go.Proofs.Try
open Go Go.AM

structure En where
  num : Int
  arr : Int
  att : Int
  msg : Ms
  deriving DecidableEq
def encE (e : En) : List D := [.one (.int .i64 e.num), .one (.int .i64 e.arr), .one (.int .i64 e.att), .one (.string e.msg.topic), .one (.string e.msg.payload), .one (.int .i64 e.msg.level), .one (.bool e.msg.retain), .one (.int .i64 e.msg.prio), .one (.int .i64 e.msg.expires), .one (.string e.msg.sender), .one (.int .i64 e.msg.seq), .row (e.msg.props.map encP)]
abbrev rowE (l : List En) : AV := .d (.row (l.map encE))
abbrev aggE (e : En) : AV := .agg [i64 e.num, i64 e.arr, i64 e.att, st e.msg.topic, st e.msg.payload, i64 e.msg.level, bo e.msg.retain, i64 e.msg.prio, i64 e.msg.expires, st e.msg.sender, i64 e.msg.seq, rowP e.msg.props]
structure Sp where
  name : ByteArray
  max : Int
  ttl : Int
  att : Int
  dead : ByteArray
  deriving DecidableEq
abbrev aggS (s : Sp) : AV := .agg [st s.name, i64 s.max, i64 s.ttl, i64 s.att, st s.dead]
structure Qu where
  spec : Sp
  next : Int
  ready : List En
  deriving DecidableEq
abbrev aggQ (q : Qu) : AV := .agg [st q.spec.name, i64 q.spec.max, i64 q.spec.ttl, i64 q.spec.att, st q.spec.dead, i64 q.next, rowE q.ready]
def zeroS : Sp := ⟨⟨#[]⟩, 0, 0, 0, ⟨#[]⟩⟩
def zeroQ : Qu := ⟨zeroS, 0, []⟩
def zeroMq : Ms := ⟨⟨#[]⟩, ⟨#[]⟩, 0, false, 0, 0, ⟨#[]⟩, 0, []⟩
def zeroE : En := ⟨0, 0, 0, zeroMq⟩

def checkSp (s : Sp) : Int :=
  if nameS s.name then
    if ¬ ((1 ≤ s.max ∧ s.max ≤ 256) ∧ (0 ≤ s.ttl ∧ s.ttl ≤ 1099511627776) ∧ 0 ≤ s.att ∧ s.att ≤ 1099511627776) then 1 else
    if ¬ (s.dead = ⟨#[]⟩ ∨ nameS s.dead = true) then 11 else 0
  else 11
set_option maxHeartbeats 8000000 in
set_option maxRecDepth 10000 in
theorem checkSp_calls (s : Sp) : ACallP Try.prog 61 [aggS s] (i64 (checkSp s)) := by
  refine ACalls.body tok Try.func61 rfl (by kernel_rfl) (by rw [Try.ntmps61]; simp) ?_
  simp only [Try.ntmps61, Try.results61, argT]
  repeat' (first|refine AL.do tok rfl rfl ?_|refine AL.nil ?_|refine AW.seq fun K hK => ?_|refine AW.region ?_|refine AL.no rfl rfl ?_|(refine hK _ ?_; clear hK)|(clear hK; refine hK _ ?_; clear hK)|(clear hK; clear hK; refine hK _ ?_; clear hK)|refine qaW ?_|refine qa1 tok ?_|refine qa2 tok ?_|refine qa3 tok ?_|refine AL.loadR tok rfl rfl rfl rfl rfl rfl ?_|refine qa4 tok ?_|refine qa5 tok ?_|refine AW.block ?_|refine AW.exit ?_|refine AW.skip ?_|refine qc1 (name_calls ..) ?_|refine qc2 (name_calls ..) ?_|((fail_if_success (refine AL.guard (b := true) rfl rfl ?_ ?_)); (fail_if_success (refine AL.guard (b := false) rfl rfl ?_ ?_)); refine AL.guard rfl rfl (fun hg => ?_) (fun hg => ?_) <;> ((try simp only [DX] at hg) <;> (try first|(exfalso; omega)|exact absurd trivial hg|exact False.elim hg|exact absurd rfl hg)))|refine AW.condT rfl ?_|refine AW.condF rfl ?_|(refine AW.cond rfl (fun hg => ?_) (fun hg => ?_) <;> ((try simp only [DX] at hg) <;> (try first|(exfalso; omega)|exact absurd trivial hg|exact False.elim hg|exact absurd rfl hg)))|refine AW.ret ?_)
  all_goals (refine ⟨_, _, _, _, rfl, Out.pure rfl ⟨?_, rfl⟩ rfl⟩; (try simp only [DX] at *))
  all_goals
    refine congrArg i64 (?_ : _ = checkSp s)
    unfold checkSp
    repeat' split
  all_goals first
    | rfl
    | (exfalso; omega)
    | (exfalso; simp_all; done)
    | (exfalso; simp_all; omega)
/-- Whether a leaves before b. -/
def precS (a b : En) : Bool := if a.msg.prio = b.msg.prio then decide (a.num < b.num) else decide (b.msg.prio < a.msg.prio)
set_option maxRecDepth 10000 in
theorem prec_calls (a b : En) : ACallP Try.prog 78 [aggE a, aggE b] (bo (precS a b)) := by
  refine ACalls.body tok Try.func78 rfl (by kernel_rfl) (by rw [Try.ntmps78]; simp) ?_
  simp only [Try.ntmps78, Try.results78, argT]
  repeat' (first|refine AL.do tok rfl rfl ?_|refine AL.nil ?_|refine AW.seq fun K hK => ?_|refine AW.region ?_|refine AL.no rfl rfl ?_|(refine hK _ ?_; clear hK)|(clear hK; refine hK _ ?_; clear hK)|(clear hK; clear hK; refine hK _ ?_; clear hK)|refine qaW ?_|refine qa1 tok ?_|refine qa2 tok ?_|refine qa3 tok ?_|refine AL.loadR tok rfl rfl rfl rfl rfl rfl ?_|refine qa4 tok ?_|refine qa5 tok ?_|refine AW.block ?_|refine AW.exit ?_|refine AW.skip ?_|((fail_if_success (refine AL.guard (b := true) rfl rfl ?_ ?_)); (fail_if_success (refine AL.guard (b := false) rfl rfl ?_ ?_)); refine AL.guard rfl rfl (fun hg => ?_) (fun hg => ?_) <;> ((try simp only [DX] at hg) <;> (try first|(exfalso; omega)|exact absurd trivial hg|exact False.elim hg|exact absurd rfl hg)))|refine AW.condT rfl ?_|refine AW.condF rfl ?_|(refine AW.cond rfl (fun hg => ?_) (fun hg => ?_) <;> ((try simp only [DX] at hg) <;> (try first|(exfalso; omega)|exact absurd trivial hg|exact False.elim hg|exact absurd rfl hg)))|refine AW.ret ?_)
  all_goals (refine ⟨_, _, _, _, rfl, Out.pure rfl ⟨?_, rfl⟩ rfl⟩; (try simp only [DX] at *); unfold precS; first | rw [if_pos (by omega)] | rw [if_neg (by omega)])
/-- The error of an entry. -/
def entryS (e : En) (next : Int) : Int := if (1 ≤ e.num ∧ e.num < next) ∧ (0 ≤ e.arr ∧ e.arr ≤ 1099511627776) ∧ 0 ≤ e.att ∧ e.att ≤ 1099511627776 then checkM e.msg else 1
theorem entryS_in {e : En} {next : Int} (h : (1 ≤ e.num ∧ e.num < next) ∧ (0 ≤ e.arr ∧ e.arr ≤ 1099511627776) ∧ 0 ≤ e.att ∧ e.att ≤ 1099511627776) : entryS e next = checkM e.msg := if_pos h
theorem entryS_out {e : En} {next : Int} (h : ¬ ((1 ≤ e.num ∧ e.num < next) ∧ (0 ≤ e.arr ∧ e.arr ≤ 1099511627776) ∧ 0 ≤ e.att ∧ e.att ≤ 1099511627776)) : entryS e next = 1 := if_neg h
set_option maxHeartbeats 8000000 in
set_option maxRecDepth 10000 in
theorem entry_calls (e : En) (next : Int) (ht : e.msg.topic.size ≤ 9223372036854775807) : ACallP Try.prog 70 [aggE e, i64 next] (i64 (entryS e next)) := by
  have k := checkM_calls e.msg ht
  have h1 := fun h => entryS_in (e := e) (next := next) h
  have h2 := fun h => entryS_out (e := e) (next := next) h
  generalize entryS e next = E at *
  generalize checkM e.msg = c at *
  refine ACalls.body tok Try.func70 rfl (by kernel_rfl) (by rw [Try.ntmps70]; simp) ?_
  simp only [Try.ntmps70, Try.results70, argT]
  repeat' (first|refine AL.do tok rfl rfl ?_|refine AL.nil ?_|refine AW.seq fun K hK => ?_|refine AW.region ?_|refine AL.no rfl rfl ?_|(refine hK _ ?_; clear hK)|(clear hK; refine hK _ ?_; clear hK)|(clear hK; clear hK; refine hK _ ?_; clear hK)|refine qaW ?_|refine qa1 tok ?_|refine qa2 tok ?_|refine qa3 tok ?_|refine AL.loadR tok rfl rfl rfl rfl rfl rfl ?_|refine qa4 tok ?_|refine qa5 tok ?_|refine AW.block ?_|refine AW.exit ?_|refine AW.skip ?_|refine qc1 (k ..) ?_|refine qc2 (k ..) ?_|((fail_if_success (refine AL.guard (b := true) rfl rfl ?_ ?_)); (fail_if_success (refine AL.guard (b := false) rfl rfl ?_ ?_)); refine AL.guard rfl rfl (fun hg => ?_) (fun hg => ?_) <;> ((try simp only [DX] at hg) <;> (try first|(exfalso; omega)|exact absurd trivial hg|exact False.elim hg|exact absurd rfl hg)))|refine AW.condT rfl ?_|refine AW.condF rfl ?_|(refine AW.cond rfl (fun hg => ?_) (fun hg => ?_) <;> ((try simp only [DX] at hg) <;> (try first|(exfalso; omega)|exact absurd trivial hg|exact False.elim hg|exact absurd rfl hg)))|refine AW.ret ?_)
  all_goals (refine ⟨_, _, _, _, rfl, Out.pure rfl ⟨?_, rfl⟩ rfl⟩; (try simp only [DX] at *))
  all_goals first
    | rw [h1 (by omega)]
    | rw [h2 (by omega)]
/-- An entry of arguments: its texts and lists have room. -/
def OkM (m : Ms) : Prop := m.topic.size ≤ 140737488351232 ∧ m.props.length ≤ 4398046510976
def OkE (l : List En) : Prop := ∀ e ∈ l, OkM e.msg
set_option maxHeartbeats 8000000 in
set_option maxRecDepth 10000 in
theorem cloneP_calls (l : List Pr) (hl : l.length ≤ 4398046510976) : ACallO Try.prog 42 [rowP l] 83 2 (· = l.map encP) := by
  refine ACalls.body tok Try.func42 rfl (by kernel_rfl) (by rw [Try.ntmps42]; simp) ?_
  simp only [Try.ntmps42, Try.results42, argT]
  repeat (first|refine AL.do tok rfl rfl ?_|refine AL.nil ?_|refine AW.seq fun K hK => ?_|refine AW.region ?_|refine AL.no rfl rfl ?_|(refine hK _ ?_; clear hK)|(clear hK; refine hK _ ?_; clear hK)|(clear hK; clear hK; refine hK _ ?_; clear hK)|refine qaW ?_|refine qa1 tok ?_|refine qa2 tok ?_|refine qa3 tok ?_|refine AL.loadR tok rfl rfl rfl rfl rfl rfl ?_|refine qa4 tok ?_|refine qa5 tok ?_|refine AW.block ?_|refine AW.exit ?_|refine AW.skip ?_)
  refine AL.eqNil tok rfl rfl rfl rfl rfl rfl (fun b hb => ?_)
  repeat (first|refine AL.do tok rfl rfl ?_|refine AL.nil ?_|refine AW.seq fun K hK => ?_|refine AW.region ?_|refine AL.no rfl rfl ?_|(refine hK _ ?_; clear hK)|(clear hK; refine hK _ ?_; clear hK)|(clear hK; clear hK; refine hK _ ?_; clear hK)|refine qaW ?_|refine qa1 tok ?_|refine qa2 tok ?_|refine qa3 tok ?_|refine AL.loadR tok rfl rfl rfl rfl rfl rfl ?_|refine qa4 tok ?_|refine qa5 tok ?_|refine AW.block ?_|refine AW.exit ?_|refine AW.skip ?_)
  refine AW.cond rfl (fun hg => ?_) (fun hg => ?_)
  · repeat (first|refine AL.do tok rfl rfl ?_|refine AL.nil ?_|refine AW.seq fun K hK => ?_|refine AW.region ?_|refine AL.no rfl rfl ?_|(refine hK _ ?_; clear hK)|(clear hK; refine hK _ ?_; clear hK)|(clear hK; clear hK; refine hK _ ?_; clear hK)|refine qaW ?_|refine qa1 tok ?_|refine qa2 tok ?_|refine qa3 tok ?_|refine AL.loadR tok rfl rfl rfl rfl rfl rfl ?_|refine qa4 tok ?_|refine qa5 tok ?_|refine AW.block ?_|refine AW.exit ?_|refine AW.skip ?_)
    refine AW.nilOwn 2 83 2 rfl ?_
    refine AW.ret ?_
    refine ⟨_, _, _, _, rfl, Out.row rfl ⟨_, ?_, rfl, rfl⟩ rfl⟩
    exact (hb hg).symm
  · repeat (first|refine AL.do tok rfl rfl ?_|refine AL.nil ?_|refine AW.seq fun K hK => ?_|refine AW.region ?_|refine AL.no rfl rfl ?_|(refine hK _ ?_; clear hK)|(clear hK; refine hK _ ?_; clear hK)|(clear hK; clear hK; refine hK _ ?_; clear hK)|refine qaW ?_|refine qa1 tok ?_|refine qa2 tok ?_|refine qa3 tok ?_|refine AL.loadR tok rfl rfl rfl rfl rfl rfl ?_|refine qa4 tok ?_|refine qa5 tok ?_|refine AW.block ?_|refine AW.exit ?_|refine AW.skip ?_)
    refine qa6 tok ?_
    simp only [List.nil_append]
    repeat (first|refine AL.do tok rfl rfl ?_|refine AL.nil ?_|refine AW.seq fun K hK => ?_|refine AW.region ?_|refine AL.no rfl rfl ?_|(refine hK _ ?_; clear hK)|(clear hK; refine hK _ ?_; clear hK)|(clear hK; clear hK; refine hK _ ?_; clear hK)|refine qaW ?_|refine qa1 tok ?_|refine qa2 tok ?_|refine qa3 tok ?_|refine AL.loadR tok rfl rfl rfl rfl rfl rfl ?_|refine qa4 tok ?_|refine qa5 tok ?_|refine AW.block ?_|refine AW.exit ?_|refine AW.skip ?_)
    refine AW.ret ?_
    refine ⟨_, _, _, _, rfl, Out.row rfl ⟨_, ?_, rfl, rfl⟩ rfl⟩
    rfl
set_option maxHeartbeats 8000000 in
set_option maxRecDepth 10000 in
theorem copyE_calls (e : En) (hm : OkM e.msg) : ACallP Try.prog 63 [aggE e] (aggE e) := by
  have hcl := cloneP_calls e.msg.props hm.2
  refine ACalls.body tok Try.func63 rfl (by kernel_rfl) (by rw [Try.ntmps63]; simp) ?_
  simp only [Try.ntmps63, Try.results63, argT]
  repeat (first|refine AL.do tok rfl rfl ?_|refine AL.nil ?_|refine AW.seq fun K hK => ?_|refine AW.region ?_|refine AL.no rfl rfl ?_|(refine hK _ ?_; clear hK)|(clear hK; refine hK _ ?_; clear hK)|(clear hK; clear hK; refine hK _ ?_; clear hK)|refine qaW ?_|refine qa1 tok ?_|refine qa2 tok ?_|refine qa3 tok ?_|refine AL.loadR tok rfl rfl rfl rfl rfl rfl ?_|refine qa4 tok ?_|refine qa5 tok ?_|refine AW.block ?_|refine AW.exit ?_|refine AW.skip ?_)
  refine AL.callO rfl rfl rfl rfl rfl hcl (fun xs hxs => ?_)
  subst hxs
  refine AL.frz 2 rfl rfl rfl ?_
  repeat (first|refine AL.do tok rfl rfl ?_|refine AL.nil ?_|refine AW.seq fun K hK => ?_|refine AW.region ?_|refine AL.no rfl rfl ?_|(refine hK _ ?_; clear hK)|(clear hK; refine hK _ ?_; clear hK)|(clear hK; clear hK; refine hK _ ?_; clear hK)|refine qaW ?_|refine qa1 tok ?_|refine qa2 tok ?_|refine qa3 tok ?_|refine AL.loadR tok rfl rfl rfl rfl rfl rfl ?_|refine qa4 tok ?_|refine qa5 tok ?_|refine AW.block ?_|refine AW.exit ?_|refine AW.skip ?_)
  refine AW.ret ?_
  refine ⟨_, _, _, _, rfl, Out.pure rfl ⟨?_, rfl⟩ rfl⟩
  rfl
theorem take_mapE {α β : Type} (e : α → β) {l : List α} {i : Nat} (h : i < l.length) : (l.take i).map e ++ [e l[i]] = (l.take (i + 1)).map e := by
  rw [← List.take_append_getElem h, List.map_append]
  rfl
set_option maxHeartbeats 8000000 in
set_option maxRecDepth 10000 in
theorem copies_calls (l : List En) (hl : l.length ≤ 1000000) (ho : OkE l) : ACallO Try.prog 64 [rowE l] 43 12 (· = l.map encE) := by
  have hlm : (l.map encE).length = l.length := List.length_map ..
  refine ACalls.body tok Try.func64 rfl (by kernel_rfl) (by rw [Try.ntmps64]; simp) ?_
  simp only [Try.ntmps64, Try.results64, argT]
  repeat (first|refine AL.do tok rfl rfl ?_|refine AL.nil ?_|refine AW.seq fun K hK => ?_|refine AW.region ?_|refine AL.no rfl rfl ?_|(refine hK _ ?_; clear hK)|(clear hK; refine hK _ ?_; clear hK)|(clear hK; clear hK; refine hK _ ?_; clear hK)|refine qaW ?_|refine qa1 tok ?_|refine qa2 tok ?_|refine qa3 tok ?_|refine AL.loadR tok rfl rfl rfl rfl rfl rfl ?_|refine qa4 tok ?_|refine qa5 tok ?_|refine AW.block ?_|refine AW.exit ?_|refine AW.skip ?_)
  (try simp only [hlm])
  repeat (first|refine AL.do tok rfl rfl ?_|refine AL.nil ?_|refine AW.seq fun K hK => ?_|refine AW.region ?_|refine AL.no rfl rfl ?_|(refine hK _ ?_; clear hK)|(clear hK; refine hK _ ?_; clear hK)|(clear hK; clear hK; refine hK _ ?_; clear hK)|refine qaW ?_|refine qa1 tok ?_|refine qa2 tok ?_|refine qa3 tok ?_|refine AL.loadR tok rfl rfl rfl rfl rfl rfl ?_|refine qa4 tok ?_|refine qa5 tok ?_|refine AW.block ?_|refine AW.exit ?_|refine AW.skip ?_)
  (try simp only [hlm])
  refine AW.loop (ι := Nat) (fun i => ⟨23, [(12, i64 i), (11, i64 l.length), (10, rowE l), (3, .own (.loc 0))], [(0, some (.row 43 12 ((l.take i).map encE)))], [], 1⟩)
    (fun i => i ≤ l.length) (fun i => l.length - i) 0 (Nat.zero_le _) ?_ ?_
  · (refine Imp.weak id (fun _ _ _ _ h => h) (by first|assumption|(intro b hb; cases hb)) ?_ ?_ <;> (repeat' (first|exact trivial|exact Nat.lt_of_lt_of_le (Nat.lt_succ_self _) (Nat.le_of_ble_eq_true rfl)|exact rfl|exact Or.inl ⟨rfl, rfl⟩|exact Or.inr ⟨rfl, LF.fn _ _ ‹_›⟩|refine ⟨?_, ?_⟩)))
  rintro i hi K1 hK1
  have hfl : ((l.take i).map encE).length = i := by rw [List.length_map, List.length_take]; omega
  by_cases hlt : i < l.length
  · have hcp := copyE_calls l[i] (ho _ (List.getElem_mem _))
    repeat (first|refine AL.do tok rfl rfl ?_|refine AL.nil ?_|refine AW.seq fun K hK => ?_|refine AW.region ?_|refine AL.no rfl rfl ?_|(refine hK _ ?_; clear hK)|(clear hK; refine hK _ ?_; clear hK)|(clear hK; clear hK; refine hK _ ?_; clear hK)|refine qaW ?_|refine qa1 tok ?_|refine qa2 tok ?_|refine qa3 tok ?_|refine AL.loadR tok rfl rfl rfl rfl rfl rfl ?_|refine qa4 tok ?_|refine qa5 tok ?_|refine AW.block ?_|refine AW.exit ?_|refine AW.skip ?_)
    refine AW.cond rfl (fun hg => ?_) (fun hg => by simp at hg; omega)
    repeat (first|refine AL.do tok rfl rfl ?_|refine AL.nil ?_|refine AW.seq fun K hK => ?_|refine AW.region ?_|refine AL.no rfl rfl ?_|(refine hK _ ?_; clear hK)|(clear hK; refine hK _ ?_; clear hK)|(clear hK; clear hK; refine hK _ ?_; clear hK)|refine qaW ?_|refine qa1 tok ?_|refine qa2 tok ?_|refine qa3 tok ?_|refine AL.loadR tok rfl rfl rfl rfl rfl rfl ?_|refine qa4 tok ?_|refine qa5 tok ?_|refine AW.block ?_|refine AW.exit ?_|refine AW.skip ?_|refine qc1 (hcp ..) ?_|refine qc2 (hcp ..) ?_)
    refine qa6 (ys := [encE l[i]]) (hel := fun x hx => by rw [List.mem_singleton.1 hx]; rfl) tok ?_
    rw [take_mapE encE hlt]
    repeat (first|refine AL.do tok rfl rfl ?_|refine AL.nil ?_|refine AW.seq fun K hK => ?_|refine AW.region ?_|refine AL.no rfl rfl ?_|(refine hK _ ?_; clear hK)|(clear hK; refine hK _ ?_; clear hK)|(clear hK; clear hK; refine hK _ ?_; clear hK)|refine qaW ?_|refine qa1 tok ?_|refine qa2 tok ?_|refine qa3 tok ?_|refine AL.loadR tok rfl rfl rfl rfl rfl rfl ?_|refine qa4 tok ?_|refine qa5 tok ?_|refine AW.block ?_|refine AW.exit ?_|refine AW.skip ?_)
    refine hK1 _ (i + 1) (by omega) (by omega) ?_
    (refine Imp.weak (fun k => if k = 0 then 3 else k) (fun j k h1 h2 h => by by_cases e1 : j = 0 <;> by_cases e2 : k = 0 <;> simp [e1, e2] at h <;> omega) (by first|assumption|(intro b hb; cases hb)) ?_ ?_ <;> (repeat' (first|exact trivial|exact Nat.lt_of_lt_of_le (Nat.lt_succ_self _) (Nat.le_of_ble_eq_true rfl)|exact rfl|exact Or.inl ⟨rfl, rfl⟩|exact Or.inr ⟨rfl, LF.fn _ _ ‹_›⟩|refine ⟨?_, ?_⟩)))
  · obtain rfl : i = l.length := by omega
    rw [List.take_length] at *
    repeat (first|refine AL.do tok rfl rfl ?_|refine AL.nil ?_|refine AW.seq fun K hK => ?_|refine AW.region ?_|refine AL.no rfl rfl ?_|(refine hK _ ?_; clear hK)|(clear hK; refine hK _ ?_; clear hK)|(clear hK; clear hK; refine hK _ ?_; clear hK)|refine qaW ?_|refine qa1 tok ?_|refine qa2 tok ?_|refine qa3 tok ?_|refine AL.loadR tok rfl rfl rfl rfl rfl rfl ?_|refine qa4 tok ?_|refine qa5 tok ?_|refine AW.block ?_|refine AW.exit ?_|refine AW.skip ?_)
    refine AW.cond rfl (fun hg => by simp at hg) (fun hg => ?_)
    repeat (first|refine AL.do tok rfl rfl ?_|refine AL.nil ?_|refine AW.seq fun K hK => ?_|refine AW.region ?_|refine AL.no rfl rfl ?_|(refine hK _ ?_; clear hK)|(clear hK; refine hK _ ?_; clear hK)|(clear hK; clear hK; refine hK _ ?_; clear hK)|refine qaW ?_|refine qa1 tok ?_|refine qa2 tok ?_|refine qa3 tok ?_|refine AL.loadR tok rfl rfl rfl rfl rfl rfl ?_|refine qa4 tok ?_|refine qa5 tok ?_|refine AW.block ?_|refine AW.exit ?_|refine AW.skip ?_)
    refine AW.ret ?_
    refine ⟨_, _, _, _, rfl, Out.row rfl ⟨_, ?_, rfl, rfl⟩ rfl⟩
    rfl
end Go.Proofs.Try
