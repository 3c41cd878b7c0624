/- Requests: as data; names, keys, exchanges, descriptions: the layer's tests and the reference's. -/
import Derived.Test.YtagdffkagpeomaaMsgF
import Derived.Test.YtagdffkagpeomaaAMD
import Derived.Test.YtagdffkagpeomaaWk
set_option linter.unusedSimpArgs false
set_option linter.unusedVariables false
namespace Go.Proofs.Try
open Go Go.AM

structure Sp where
  name : ByteArray
  max : Int
  ttl : Int
  att : Int
  dead : ByteArray
  deriving DecidableEq
structure Ex where
  name : ByteArray
  kind : Int
  alt : ByteArray
  deriving DecidableEq
structure Bi where
  ex : ByteArray
  qu : ByteArray
  key : ByteArray
  all : Bool
  mtc : List Pr
  deriving DecidableEq
structure Rq where
  kind : Int
  conn : Int
  serial : Int
  tag : Int
  limit : Int
  flag : Bool
  name : ByteArray
  key : ByteArray
  x : Ex
  spec : Sp
  b : Bi
  msg : Ms
  deriving DecidableEq
abbrev aggX (x : Ex) : AV := .agg [st x.name, i64 x.kind, st x.alt]
abbrev aggS (s : Sp) : AV := .agg [st s.name, i64 s.max, i64 s.ttl, i64 s.att, st s.dead]
abbrev aggB (b : Bi) : AV := .agg [st b.ex, st b.qu, st b.key, bo b.all, rowP b.mtc]
def encR (r : Rq) : List D := [.one (.int .i64 r.kind), .one (.int .i64 r.conn), .one (.int .i64 r.serial), .one (.int .i64 r.tag), .one (.int .i64 r.limit), .one (.bool r.flag), .one (.string r.name), .one (.string r.key),
  .one (.string r.x.name), .one (.int .i64 r.x.kind), .one (.string r.x.alt), .one (.string r.spec.name), .one (.int .i64 r.spec.max), .one (.int .i64 r.spec.ttl), .one (.int .i64 r.spec.att), .one (.string r.spec.dead),
  .one (.string r.b.ex), .one (.string r.b.qu), .one (.string r.b.key), .one (.bool r.b.all), .row (r.b.mtc.map encP),
  .one (.string r.msg.topic), .one (.string r.msg.payload), .one (.int .i64 r.msg.level), .one (.bool r.msg.retain), .one (.int .i64 r.msg.prio), .one (.int .i64 r.msg.expires), .one (.string r.msg.sender), .one (.int .i64 r.msg.seq), .row (r.msg.props.map encP)]
abbrev celR (r : Rq) : List AV := [i64 r.kind, i64 r.conn, i64 r.serial, i64 r.tag, i64 r.limit, bo r.flag, st r.name, st r.key,
  st r.x.name, i64 r.x.kind, st r.x.alt, st r.spec.name, i64 r.spec.max, i64 r.spec.ttl, i64 r.spec.att, st r.spec.dead,
  st r.b.ex, st r.b.qu, st r.b.key, bo r.b.all, rowP r.b.mtc,
  st r.msg.topic, st r.msg.payload, i64 r.msg.level, bo r.msg.retain, i64 r.msg.prio, i64 r.msg.expires, st r.msg.sender, i64 r.msg.seq, rowP r.msg.props]
abbrev aggR (r : Rq) : AV := .agg (celR r)
abbrev rowR (l : List Rq) : AV := .d (.row (l.map encR))
structure Tr where
  op : Bool
  reqs : List Rq
  deriving DecidableEq
abbrev aggT (t : Tr) : AV := .agg [bo t.op, rowR t.reqs]

set_option maxRecDepth 10000 in
theorem lis_calls (n a b : Int) : ACallP Try.prog 37 [i64 n, i64 a, i64 b] (bo (decide (a ≤ n) && decide (n ≤ b))) := by
  refine ACalls.body tok Try.func37 rfl (by kernel_rfl) (by rw [Try.ntmps37]; simp) ?_
  simp only [Try.ntmps37, Try.results37, argT]
  repeat' (first|refine AL.do tok rfl rfl ?_|refine AL.nil ?_|refine AW.seq fun K hK => ?_|refine AW.region ?_|refine AL.no rfl rfl ?_|(refine hK _ ?_; clear hK)|(clear hK; refine hK _ ?_; clear hK)|(clear hK; clear hK; refine hK _ ?_; clear hK)|refine qaW ?_|refine qa1 tok ?_|refine qa2 tok ?_|refine qa3 tok ?_|refine AL.loadR tok rfl rfl rfl rfl rfl rfl ?_|refine qa4 tok ?_|refine qa5 tok ?_|refine AW.block ?_|refine AW.exit ?_|refine AW.skip ?_|((fail_if_success (refine AL.guard (b := true) rfl rfl ?_ ?_)); (fail_if_success (refine AL.guard (b := false) rfl rfl ?_ ?_)); refine AL.guard rfl rfl (fun hg => ?_) (fun hg => ?_) <;> ((try simp only [DX] at hg) <;> (try first|(exfalso; omega)|exact absurd trivial hg|exact False.elim hg|exact absurd rfl hg)))|refine AW.condT rfl ?_|refine AW.condF rfl ?_|(refine AW.cond rfl (fun hg => ?_) (fun hg => ?_) <;> ((try simp only [DX] at hg) <;> (try first|(exfalso; omega)|exact absurd trivial hg|exact False.elim hg|exact absurd rfl hg)))|refine AW.ret ?_)
  all_goals (refine ⟨_, _, _, _, rfl, Out.pure rfl ⟨?_, rfl⟩ rfl⟩; (refine bo_iff ?_; (try simp only [DX]); omega))
set_option maxRecDepth 10000 in
theorem from_calls (n b : Int) : ACallP Try.prog 33 [i64 n, i64 b] (bo (decide (0 ≤ n) && decide (n ≤ b))) := by
  refine ACalls.body tok Try.func33 rfl (by kernel_rfl) (by rw [Try.ntmps33]; simp) ?_
  simp only [Try.ntmps33, Try.results33, argT]
  repeat' (first|refine AL.do tok rfl rfl ?_|refine AL.nil ?_|refine AW.seq fun K hK => ?_|refine AW.region ?_|refine AL.no rfl rfl ?_|(refine hK _ ?_; clear hK)|(clear hK; refine hK _ ?_; clear hK)|(clear hK; clear hK; refine hK _ ?_; clear hK)|refine qaW ?_|refine qa1 tok ?_|refine qa2 tok ?_|refine qa3 tok ?_|refine AL.loadR tok rfl rfl rfl rfl rfl rfl ?_|refine qa4 tok ?_|refine qa5 tok ?_|refine AW.block ?_|refine AW.exit ?_|refine AW.skip ?_|((fail_if_success (refine AL.guard (b := true) rfl rfl ?_ ?_)); (fail_if_success (refine AL.guard (b := false) rfl rfl ?_ ?_)); refine AL.guard rfl rfl (fun hg => ?_) (fun hg => ?_) <;> ((try simp only [DX] at hg) <;> (try first|(exfalso; omega)|exact absurd trivial hg|exact False.elim hg|exact absurd rfl hg)))|refine AW.condT rfl ?_|refine AW.condF rfl ?_|(refine AW.cond rfl (fun hg => ?_) (fun hg => ?_) <;> ((try simp only [DX] at hg) <;> (try first|(exfalso; omega)|exact absurd trivial hg|exact False.elim hg|exact absurd rfl hg)))|refine AW.ret ?_)
  all_goals (refine ⟨_, _, _, _, rfl, Out.pure rfl ⟨?_, rfl⟩ rfl⟩; (refine bo_iff ?_; (try simp only [DX]); omega))
def optS (s : ByteArray) : Bool := decide (s = ⟨#[]⟩) || nameS s
set_option maxRecDepth 10000 in
theorem opt_calls (s : ByteArray) : ACallP Try.prog 58 [st s] (bo (optS s)) := by
  refine ACalls.body tok Try.func58 rfl (by kernel_rfl) (by rw [Try.ntmps58]; simp) ?_
  simp only [Try.ntmps58, Try.results58, argT]
  repeat' (first|refine AL.do tok rfl rfl ?_|refine AL.nil ?_|refine AW.seq fun K hK => ?_|refine AW.region ?_|refine AL.no rfl rfl ?_|(refine hK _ ?_; clear hK)|(clear hK; refine hK _ ?_; clear hK)|(clear hK; clear hK; refine hK _ ?_; clear hK)|refine qaW ?_|refine qa1 tok ?_|refine qa2 tok ?_|refine qa3 tok ?_|refine AL.loadR tok rfl rfl rfl rfl rfl rfl ?_|refine qa4 tok ?_|refine qa5 tok ?_|refine AW.block ?_|refine AW.exit ?_|refine AW.skip ?_|refine qc1 (name_calls ..) ?_|refine qc2 (name_calls ..) ?_|((fail_if_success (refine AL.guard (b := true) rfl rfl ?_ ?_)); (fail_if_success (refine AL.guard (b := false) rfl rfl ?_ ?_)); refine AL.guard rfl rfl (fun hg => ?_) (fun hg => ?_) <;> ((try simp only [DX] at hg) <;> (try first|(exfalso; omega)|exact absurd trivial hg|exact False.elim hg|exact absurd rfl hg)))|refine AW.condT rfl ?_|refine AW.condF rfl ?_|(refine AW.cond rfl (fun hg => ?_) (fun hg => ?_) <;> ((try simp only [DX] at hg) <;> (try first|(exfalso; omega)|exact absurd trivial hg|exact False.elim hg|exact absurd rfl hg)))|refine AW.ret ?_)
  all_goals (refine ⟨_, _, _, _, rfl, Out.pure rfl ⟨?_, rfl⟩ rfl⟩; simp [optS, *])
set_option maxRecDepth 10000 in
theorem refOpt_calls (s : ByteArray) : ACallP Try.prog 47 [st s] (bo (optS s)) := by
  refine ACalls.body tok Try.func47 rfl (by kernel_rfl) (by rw [Try.ntmps47]; simp) ?_
  simp only [Try.ntmps47, Try.results47, argT]
  repeat' (first|refine AL.do tok rfl rfl ?_|refine AL.nil ?_|refine AW.seq fun K hK => ?_|refine AW.region ?_|refine AL.no rfl rfl ?_|(refine hK _ ?_; clear hK)|(clear hK; refine hK _ ?_; clear hK)|(clear hK; clear hK; refine hK _ ?_; clear hK)|refine qaW ?_|refine qa1 tok ?_|refine qa2 tok ?_|refine qa3 tok ?_|refine AL.loadR tok rfl rfl rfl rfl rfl rfl ?_|refine qa4 tok ?_|refine qa5 tok ?_|refine AW.block ?_|refine AW.exit ?_|refine AW.skip ?_|refine qc1 (refName_calls ..) ?_|refine qc2 (refName_calls ..) ?_|((fail_if_success (refine AL.guard (b := true) rfl rfl ?_ ?_)); (fail_if_success (refine AL.guard (b := false) rfl rfl ?_ ?_)); refine AL.guard rfl rfl (fun hg => ?_) (fun hg => ?_) <;> ((try simp only [DX] at hg) <;> (try first|(exfalso; omega)|exact absurd trivial hg|exact False.elim hg|exact absurd rfl hg)))|refine AW.condT rfl ?_|refine AW.condF rfl ?_|(refine AW.cond rfl (fun hg => ?_) (fun hg => ?_) <;> ((try simp only [DX] at hg) <;> (try first|(exfalso; omega)|exact absurd trivial hg|exact False.elim hg|exact absurd rfl hg)))|refine AW.ret ?_)
  all_goals (refine ⟨_, _, _, _, rfl, Out.pure rfl ⟨?_, rfl⟩ rfl⟩; simp [optS, *])

/-- The error of a routing key. -/
def keyE (s : ByteArray) : Int := if 64 < s.size then 5 else if hasB s 0 0 s.size then 12 else 0
theorem hasB_iff (s : ByteArray) (c : Int) : ∀ (f i : Nat), hasB s c i f = true ↔ ∃ j, i ≤ j ∧ j < i + f ∧ byteAt s j = c
  | 0, i => by simp [hasB]; intro j h1 h2; omega
  | f + 1, i => by
    rw [hasB, Bool.or_eq_true, decide_eq_true_eq, hasB_iff s c f (i + 1)]
    constructor
    · rintro (h | ⟨j, h1, h2, h3⟩)
      · exact ⟨i, Nat.le_refl _, by omega, h⟩
      · exact ⟨j, by omega, by omega, h3⟩
    · rintro ⟨j, h1, h2, h3⟩
      by_cases e : j = i
      · subst e; exact Or.inl h3
      · exact Or.inr ⟨j, by omega, by omega, h3⟩
theorem idxB_has (s : ByteArray) : 0 ≤ idxB s 0 ↔ hasB s 0 0 s.size = true := by
  have hz : (0 : Int).toNat.toUInt8 = 0 := rfl
  rw [hasB_iff, idxB, hz, idxL_ge, Array.mem_toList_iff, Array.mem_iff_getElem]
  constructor
  · rintro ⟨j, h1, h2⟩
    refine ⟨j, Nat.zero_le _, by rw [Nat.zero_add]; exact h1, ?_⟩
    unfold byteAt
    rw [List.getD_eq_getElem?_getD, Array.getElem?_toList, Array.getElem?_eq_getElem h1, h2]
    rfl
  · rintro ⟨j, _, h1, h2⟩
    rw [Nat.zero_add] at h1
    have h1 : j < s.data.size := h1
    refine ⟨j, h1, ?_⟩
    unfold byteAt at h2
    rw [List.getD_eq_getElem?_getD, Array.getElem?_toList, Array.getElem?_eq_getElem h1] at h2
    have h3 : (s.data[j]).toNat = 0 := by simpa using h2
    exact UInt8.toNat_inj.1 h3
set_option maxRecDepth 10000 in
theorem idxSL_calls (s : ByteArray) (c : Int) : ACallP Try.prog 73 [st s, u8 c] (i64 (idxB s c)) := by
  refine ACalls.body tok Try.func73 rfl (by kernel_rfl) (by rw [Try.ntmps73]; simp) ?_
  simp only [Try.ntmps73, Try.results73, argT]
  repeat (first|refine AL.do tok rfl rfl ?_|refine AL.nil ?_|refine AW.seq fun K hK => ?_|refine AW.region ?_|refine AL.no rfl rfl ?_|(refine hK _ ?_; clear hK)|(clear hK; refine hK _ ?_; clear hK)|(clear hK; clear hK; refine hK _ ?_; clear hK)|refine qaW ?_|refine qa1 tok ?_|refine qa2 tok ?_|refine qa3 tok ?_|refine AL.loadR tok rfl rfl rfl rfl rfl rfl ?_|refine qa4 tok ?_|refine qa5 tok ?_|refine AW.block ?_|refine AW.exit ?_|refine AW.skip ?_)
  refine AL.v rfl rfl (VOp.idxB rfl Try.func76 (by kernel_rfl) (by kernel_rfl) (by kernel_rfl) (by kernel_rfl) rfl rfl) ?_
  repeat' (first|refine AL.do tok rfl rfl ?_|refine AL.nil ?_|refine AW.seq fun K hK => ?_|refine AW.region ?_|refine AL.no rfl rfl ?_|(refine hK _ ?_; clear hK)|(clear hK; refine hK _ ?_; clear hK)|(clear hK; clear hK; refine hK _ ?_; clear hK)|refine qaW ?_|refine qa1 tok ?_|refine qa2 tok ?_|refine qa3 tok ?_|refine AL.loadR tok rfl rfl rfl rfl rfl rfl ?_|refine qa4 tok ?_|refine qa5 tok ?_|refine AW.block ?_|refine AW.exit ?_|refine AW.skip ?_|((fail_if_success (refine AL.guard (b := true) rfl rfl ?_ ?_)); (fail_if_success (refine AL.guard (b := false) rfl rfl ?_ ?_)); refine AL.guard rfl rfl (fun hg => ?_) (fun hg => ?_) <;> ((try simp only [DX] at hg) <;> (try first|(exfalso; omega)|exact absurd trivial hg|exact False.elim hg|exact absurd rfl hg)))|refine AW.condT rfl ?_|refine AW.condF rfl ?_|(refine AW.cond rfl (fun hg => ?_) (fun hg => ?_) <;> ((try simp only [DX] at hg) <;> (try first|(exfalso; omega)|exact absurd trivial hg|exact False.elim hg|exact absurd rfl hg)))|refine AW.ret ?_)
  refine ⟨_, _, _, _, rfl, Out.pure rfl ⟨?_, rfl⟩ rfl⟩
  rfl
set_option maxRecDepth 10000 in
theorem idx_calls (s : ByteArray) (c : Int) : ACallP Try.prog 67 [st s, u8 c] (i64 (idxB s c)) := by
  refine ACalls.body tok Try.func67 rfl (by kernel_rfl) (by rw [Try.ntmps67]; simp) ?_
  simp only [Try.ntmps67, Try.results67, argT]
  repeat' (first|refine AL.do tok rfl rfl ?_|refine AL.nil ?_|refine AW.seq fun K hK => ?_|refine AW.region ?_|refine AL.no rfl rfl ?_|(refine hK _ ?_; clear hK)|(clear hK; refine hK _ ?_; clear hK)|(clear hK; clear hK; refine hK _ ?_; clear hK)|refine qaW ?_|refine qa1 tok ?_|refine qa2 tok ?_|refine qa3 tok ?_|refine AL.loadR tok rfl rfl rfl rfl rfl rfl ?_|refine qa4 tok ?_|refine qa5 tok ?_|refine AW.block ?_|refine AW.exit ?_|refine AW.skip ?_|refine qc1 (idxSL_calls ..) ?_|refine qc2 (idxSL_calls ..) ?_|((fail_if_success (refine AL.guard (b := true) rfl rfl ?_ ?_)); (fail_if_success (refine AL.guard (b := false) rfl rfl ?_ ?_)); refine AL.guard rfl rfl (fun hg => ?_) (fun hg => ?_) <;> ((try simp only [DX] at hg) <;> (try first|(exfalso; omega)|exact absurd trivial hg|exact False.elim hg|exact absurd rfl hg)))|refine AW.condT rfl ?_|refine AW.condF rfl ?_|(refine AW.cond rfl (fun hg => ?_) (fun hg => ?_) <;> ((try simp only [DX] at hg) <;> (try first|(exfalso; omega)|exact absurd trivial hg|exact False.elim hg|exact absurd rfl hg)))|refine AW.ret ?_)
  refine ⟨_, _, _, _, rfl, Out.pure rfl ⟨?_, rfl⟩ rfl⟩
  rfl
set_option maxRecDepth 10000 in
theorem lkey_calls (s : ByteArray) : ACallP Try.prog 56 [st s] (i64 (keyE s)) := by
  have hi := idxB_has s
  have k := idx_calls s 0
  have h1 : 64 < (s.size : Int) → keyE s = 5 := fun h => if_pos (by omega)
  have h2 : ¬ 64 < (s.size : Int) → keyE s = if hasB s 0 0 s.size then 12 else 0 := fun h => if_neg (by omega)
  generalize keyE s = E at *
  generalize hasB s 0 0 s.size = q at *
  generalize idxB s 0 = p at *
  refine ACalls.body tok Try.func56 rfl (by kernel_rfl) (by rw [Try.ntmps56]; simp) ?_
  simp only [Try.ntmps56, Try.results56, argT]
  repeat' (first|refine AL.do tok rfl rfl ?_|refine AL.nil ?_|refine AW.seq fun K hK => ?_|refine AW.region ?_|refine AL.no rfl rfl ?_|(refine hK _ ?_; clear hK)|(clear hK; refine hK _ ?_; clear hK)|(clear hK; clear hK; refine hK _ ?_; clear hK)|refine qaW ?_|refine qa1 tok ?_|refine qa2 tok ?_|refine qa3 tok ?_|refine AL.loadR tok rfl rfl rfl rfl rfl rfl ?_|refine qa4 tok ?_|refine qa5 tok ?_|refine AW.block ?_|refine AW.exit ?_|refine AW.skip ?_|refine qc1 (k ..) ?_|refine qc2 (k ..) ?_|((fail_if_success (refine AL.guard (b := true) rfl rfl ?_ ?_)); (fail_if_success (refine AL.guard (b := false) rfl rfl ?_ ?_)); refine AL.guard rfl rfl (fun hg => ?_) (fun hg => ?_) <;> ((try simp only [DX] at hg) <;> (try first|(exfalso; omega)|exact absurd trivial hg|exact False.elim hg|exact absurd rfl hg)))|refine AW.condT rfl ?_|refine AW.condF rfl ?_|(refine AW.cond rfl (fun hg => ?_) (fun hg => ?_) <;> ((try simp only [DX] at hg) <;> (try first|(exfalso; omega)|exact absurd trivial hg|exact False.elim hg|exact absurd rfl hg)))|refine AW.ret ?_)
  all_goals (refine ⟨_, _, _, _, rfl, Out.pure rfl ⟨?_, rfl⟩ rfl⟩; (try simp only [DX] at *))
  · rw [h1 (by omega)]
  · rw [h2 (by omega), if_pos (hi.1 (by omega))]
  · rw [h2 (by omega), if_neg (fun h => by have := hi.2 h; omega)]
set_option maxRecDepth 10000 in
theorem refLkey_calls (s : ByteArray) (hs : s.size ≤ 9223372036854775807) : ACallP Try.prog 50 [st s] (i64 (keyE s)) := by
  have k := has_calls s 0 hs
  have h1 : 64 < (s.size : Int) → keyE s = 5 := fun h => if_pos (by omega)
  have h2 : ¬ 64 < (s.size : Int) → keyE s = if hasB s 0 0 s.size then 12 else 0 := fun h => if_neg (by omega)
  generalize keyE s = E at *
  generalize hasB s 0 0 s.size = q at *
  refine ACalls.body tok Try.func50 rfl (by kernel_rfl) (by rw [Try.ntmps50]; simp) ?_
  simp only [Try.ntmps50, Try.results50, argT]
  repeat' (first|refine AL.do tok rfl rfl ?_|refine AL.nil ?_|refine AW.seq fun K hK => ?_|refine AW.region ?_|refine AL.no rfl rfl ?_|(refine hK _ ?_; clear hK)|(clear hK; refine hK _ ?_; clear hK)|(clear hK; clear hK; refine hK _ ?_; clear hK)|refine qaW ?_|refine qa1 tok ?_|refine qa2 tok ?_|refine qa3 tok ?_|refine AL.loadR tok rfl rfl rfl rfl rfl rfl ?_|refine qa4 tok ?_|refine qa5 tok ?_|refine AW.block ?_|refine AW.exit ?_|refine AW.skip ?_|refine qc1 (k ..) ?_|refine qc2 (k ..) ?_|((fail_if_success (refine AL.guard (b := true) rfl rfl ?_ ?_)); (fail_if_success (refine AL.guard (b := false) rfl rfl ?_ ?_)); refine AL.guard rfl rfl (fun hg => ?_) (fun hg => ?_) <;> ((try simp only [DX] at hg) <;> (try first|(exfalso; omega)|exact absurd trivial hg|exact False.elim hg|exact absurd rfl hg)))|refine AW.condT rfl ?_|refine AW.condF rfl ?_|(refine AW.cond rfl (fun hg => ?_) (fun hg => ?_) <;> ((try simp only [DX] at hg) <;> (try first|(exfalso; omega)|exact absurd trivial hg|exact False.elim hg|exact absurd rfl hg)))|refine AW.ret ?_)
  all_goals (refine ⟨_, _, _, _, rfl, Out.pure rfl ⟨?_, rfl⟩ rfl⟩; (try simp only [DX] at *))
  · rw [h1 (by omega)]
  · rw [h2 (by omega)]; simp [*]
  · rw [h2 (by omega)]; simp [*]
/-- The error of an exchange, of a description. -/
def exE (x : Ex) : Int := if nameS x.name then if 1 ≤ x.kind ∧ x.kind ≤ 4 then if optS x.alt then 0 else 11 else 10 else 11
def spE (s : Sp) : Int :=
  if nameS s.name then
    if ¬ ((1 ≤ s.max ∧ s.max ≤ 256) ∧ (0 ≤ s.ttl ∧ s.ttl ≤ 1099511627776) ∧ 0 ≤ s.att ∧ s.att ≤ 1099511627776) then 1 else
    if optS s.dead then 0 else 11
  else 11
set_option maxHeartbeats 8000000 in
set_option maxRecDepth 10000 in
theorem lex_calls (x : Ex) : ACallP Try.prog 53 [aggX x] (i64 (exE x)) := by
  refine ACalls.body tok Try.func53 rfl (by kernel_rfl) (by rw [Try.ntmps53]; simp) ?_
  simp only [Try.ntmps53, Try.results53, argT]
  repeat' (first|refine AL.do tok rfl rfl ?_|refine AL.nil ?_|refine AW.seq fun K hK => ?_|refine AW.region ?_|refine AL.no rfl rfl ?_|(refine hK _ ?_; clear hK)|(clear hK; refine hK _ ?_; clear hK)|(clear hK; clear hK; refine hK _ ?_; clear hK)|refine qaW ?_|refine qa1 tok ?_|refine qa2 tok ?_|refine qa3 tok ?_|refine AL.loadR tok rfl rfl rfl rfl rfl rfl ?_|refine qa4 tok ?_|refine qa5 tok ?_|refine AW.block ?_|refine AW.exit ?_|refine AW.skip ?_|refine qc1 (name_calls ..) ?_|refine qc2 (name_calls ..) ?_|refine qc1 (lis_calls ..) ?_|refine qc2 (lis_calls ..) ?_|refine qc1 (opt_calls ..) ?_|refine qc2 (opt_calls ..) ?_|((fail_if_success (refine AL.guard (b := true) rfl rfl ?_ ?_)); (fail_if_success (refine AL.guard (b := false) rfl rfl ?_ ?_)); refine AL.guard rfl rfl (fun hg => ?_) (fun hg => ?_) <;> ((try simp only [DX] at hg) <;> (try first|(exfalso; omega)|exact absurd trivial hg|exact False.elim hg|exact absurd rfl hg)))|refine AW.condT rfl ?_|refine AW.condF rfl ?_|(refine AW.cond rfl (fun hg => ?_) (fun hg => ?_) <;> ((try simp only [DX] at hg) <;> (try first|(exfalso; omega)|exact absurd trivial hg|exact False.elim hg|exact absurd rfl hg)))|refine AW.ret ?_)
  all_goals (refine ⟨_, _, _, _, rfl, Out.pure rfl ⟨?_, rfl⟩ rfl⟩; (try simp only [DX] at *))
  all_goals
    refine congrArg i64 (?_ : _ = exE x)
    unfold exE
    repeat' split
  all_goals first
    | rfl
    | (exfalso; omega)
    | (exfalso; simp_all; done)
    | (exfalso; simp_all; omega)
set_option maxHeartbeats 8000000 in
set_option maxRecDepth 10000 in
theorem lsp_calls (s : Sp) : ACallP Try.prog 54 [aggS s] (i64 (spE s)) := by
  refine ACalls.body tok Try.func54 rfl (by kernel_rfl) (by rw [Try.ntmps54]; simp) ?_
  simp only [Try.ntmps54, Try.results54, argT]
  repeat' (first|refine AL.do tok rfl rfl ?_|refine AL.nil ?_|refine AW.seq fun K hK => ?_|refine AW.region ?_|refine AL.no rfl rfl ?_|(refine hK _ ?_; clear hK)|(clear hK; refine hK _ ?_; clear hK)|(clear hK; clear hK; refine hK _ ?_; clear hK)|refine qaW ?_|refine qa1 tok ?_|refine qa2 tok ?_|refine qa3 tok ?_|refine AL.loadR tok rfl rfl rfl rfl rfl rfl ?_|refine qa4 tok ?_|refine qa5 tok ?_|refine AW.block ?_|refine AW.exit ?_|refine AW.skip ?_|refine qc1 (name_calls ..) ?_|refine qc2 (name_calls ..) ?_|refine qc1 (lis_calls ..) ?_|refine qc2 (lis_calls ..) ?_|refine qc1 (opt_calls ..) ?_|refine qc2 (opt_calls ..) ?_|((fail_if_success (refine AL.guard (b := true) rfl rfl ?_ ?_)); (fail_if_success (refine AL.guard (b := false) rfl rfl ?_ ?_)); refine AL.guard rfl rfl (fun hg => ?_) (fun hg => ?_) <;> ((try simp only [DX] at hg) <;> (try first|(exfalso; omega)|exact absurd trivial hg|exact False.elim hg|exact absurd rfl hg)))|refine AW.condT rfl ?_|refine AW.condF rfl ?_|(refine AW.cond rfl (fun hg => ?_) (fun hg => ?_) <;> ((try simp only [DX] at hg) <;> (try first|(exfalso; omega)|exact absurd trivial hg|exact False.elim hg|exact absurd rfl hg)))|refine AW.ret ?_)
  all_goals (refine ⟨_, _, _, _, rfl, Out.pure rfl ⟨?_, rfl⟩ rfl⟩; (try simp only [DX] at *))
  all_goals
    refine congrArg i64 (?_ : _ = spE s)
    unfold spE
    repeat' split
  all_goals first
    | rfl
    | (exfalso; omega)
    | (exfalso; simp_all; done)
    | (exfalso; simp_all; omega)
set_option maxHeartbeats 8000000 in
set_option maxRecDepth 10000 in
theorem refLsp_calls (s : Sp) : ACallP Try.prog 48 [aggS s] (i64 (spE s)) := by
  refine ACalls.body tok Try.func48 rfl (by kernel_rfl) (by rw [Try.ntmps48]; simp) ?_
  simp only [Try.ntmps48, Try.results48, argT]
  repeat' (first|refine AL.do tok rfl rfl ?_|refine AL.nil ?_|refine AW.seq fun K hK => ?_|refine AW.region ?_|refine AL.no rfl rfl ?_|(refine hK _ ?_; clear hK)|(clear hK; refine hK _ ?_; clear hK)|(clear hK; clear hK; refine hK _ ?_; clear hK)|refine qaW ?_|refine qa1 tok ?_|refine qa2 tok ?_|refine qa3 tok ?_|refine AL.loadR tok rfl rfl rfl rfl rfl rfl ?_|refine qa4 tok ?_|refine qa5 tok ?_|refine AW.block ?_|refine AW.exit ?_|refine AW.skip ?_|refine qc1 (refName_calls ..) ?_|refine qc2 (refName_calls ..) ?_|refine qc1 (from_calls ..) ?_|refine qc2 (from_calls ..) ?_|refine qc1 (refOpt_calls ..) ?_|refine qc2 (refOpt_calls ..) ?_|((fail_if_success (refine AL.guard (b := true) rfl rfl ?_ ?_)); (fail_if_success (refine AL.guard (b := false) rfl rfl ?_ ?_)); refine AL.guard rfl rfl (fun hg => ?_) (fun hg => ?_) <;> ((try simp only [DX] at hg) <;> (try first|(exfalso; omega)|exact absurd trivial hg|exact False.elim hg|exact absurd rfl hg)))|refine AW.condT rfl ?_|refine AW.condF rfl ?_|(refine AW.cond rfl (fun hg => ?_) (fun hg => ?_) <;> ((try simp only [DX] at hg) <;> (try first|(exfalso; omega)|exact absurd trivial hg|exact False.elim hg|exact absurd rfl hg)))|refine AW.ret ?_)
  all_goals (refine ⟨_, _, _, _, rfl, Out.pure rfl ⟨?_, rfl⟩ rfl⟩; (try simp only [DX] at *))
  all_goals
    refine congrArg i64 (?_ : _ = spE s)
    unfold spE
    repeat' split
  all_goals first
    | rfl
    | (exfalso; omega)
    | (exfalso; simp_all; done)
    | (exfalso; simp_all; omega)
/-- The error of a binding. -/
def biE (b : Bi) : Int :=
  if nameS b.ex = true ∧ nameS b.qu = true then if keyE b.key = 0 then propsS b.mtc else keyE b.key else 11
set_option maxHeartbeats 8000000 in
set_option maxRecDepth 10000 in
theorem refBi_calls (b : Bi) (hb : b.key.size ≤ 9223372036854775807) : ACallP Try.prog 49 [aggB b] (i64 (biE b)) := by
  have k := refLkey_calls b.key hb
  refine ACalls.body tok Try.func49 rfl (by kernel_rfl) (by rw [Try.ntmps49]; simp) ?_
  simp only [Try.ntmps49, Try.results49, argT]
  repeat' (first|refine AL.do tok rfl rfl ?_|refine AL.nil ?_|refine AW.seq fun K hK => ?_|refine AW.region ?_|refine AL.no rfl rfl ?_|(refine hK _ ?_; clear hK)|(clear hK; refine hK _ ?_; clear hK)|(clear hK; clear hK; refine hK _ ?_; clear hK)|refine qaW ?_|refine qa1 tok ?_|refine qa2 tok ?_|refine qa3 tok ?_|refine AL.loadR tok rfl rfl rfl rfl rfl rfl ?_|refine qa4 tok ?_|refine qa5 tok ?_|refine AW.block ?_|refine AW.exit ?_|refine AW.skip ?_|refine qc1 (refName_calls ..) ?_|refine qc2 (refName_calls ..) ?_|refine qc1 (k ..) ?_|refine qc2 (k ..) ?_|refine qc1 (refProps_calls ..) ?_|refine qc2 (refProps_calls ..) ?_|((fail_if_success (refine AL.guard (b := true) rfl rfl ?_ ?_)); (fail_if_success (refine AL.guard (b := false) rfl rfl ?_ ?_)); refine AL.guard rfl rfl (fun hg => ?_) (fun hg => ?_) <;> ((try simp only [DX] at hg) <;> (try first|(exfalso; omega)|exact absurd trivial hg|exact False.elim hg|exact absurd rfl hg)))|refine AW.condT rfl ?_|refine AW.condF rfl ?_|(refine AW.cond rfl (fun hg => ?_) (fun hg => ?_) <;> ((try simp only [DX] at hg) <;> (try first|(exfalso; omega)|exact absurd trivial hg|exact False.elim hg|exact absurd rfl hg)))|refine AW.ret ?_)
  all_goals (refine ⟨_, _, _, _, rfl, Out.pure rfl ⟨?_, rfl⟩ rfl⟩; (try simp only [DX] at *))
  all_goals
    refine congrArg i64 (?_ : _ = biE b)
    unfold biE
    repeat' split
  all_goals first
    | rfl
    | (exfalso; omega)
    | (exfalso; simp_all; done)
    | (exfalso; simp_all; omega)
/-- The word of a kind of exchange. -/
def xwL : List ByteArray := [⟨#[]⟩, ⟨#[100, 105, 114, 101, 99, 116]⟩, ⟨#[102, 97, 110, 111, 117, 116]⟩, ⟨#[116, 111, 112, 105, 99]⟩, ⟨#[104, 101, 97, 100, 101, 114, 115]⟩]
def xwS (k : Int) : ByteArray := if 1 ≤ k then xwL.getD k.toNat ⟨#[]⟩ else ⟨#[]⟩
theorem xwS_emp (k : Int) : xwS k = ⟨#[]⟩ ↔ ¬ (1 ≤ k ∧ k ≤ 4) := by
  by_cases h : 1 ≤ k ∧ k ≤ 4
  · have : k = 1 ∨ k = 2 ∨ k = 3 ∨ k = 4 := by omega
    rcases this with rfl | rfl | rfl | rfl <;> decide
  · refine ⟨fun _ => h, fun _ => ?_⟩
    unfold xwS
    split
    · rw [List.getD_eq_getElem?_getD, List.getElem?_eq_none (by show (5 : Nat) ≤ _; omega)]; rfl
    · rfl
theorem xwS_out {k : Int} (h : ¬ (1 ≤ k ∧ k < 5)) : xwS k = ⟨#[]⟩ := (xwS_emp k).2 (by omega)
set_option maxHeartbeats 8000000 in
set_option maxRecDepth 10000 in
theorem refXw_calls (k : Int) : ACallP Try.prog 46 [i64 k] (st (xwS k)) := by
  by_cases h : 1 ≤ k ∧ k < 5
  · have : k = 1 ∨ k = 2 ∨ k = 3 ∨ k = 4 := by omega
    rcases this with rfl | rfl | rfl | rfl
    all_goals
      refine ACalls.body tok Try.func46 rfl (by kernel_rfl) (by rw [Try.ntmps46]; simp) ?_
      simp only [Try.ntmps46, Try.results46, argT]
      repeat' (first|refine AL.do tok rfl rfl ?_|refine AL.nil ?_|refine AW.seq fun K hK => ?_|refine AW.region ?_|refine AL.no rfl rfl ?_|(refine hK _ ?_; clear hK)|(clear hK; refine hK _ ?_; clear hK)|(clear hK; clear hK; refine hK _ ?_; clear hK)|refine qaW ?_|refine qa1 tok ?_|refine qa2 tok ?_|refine qa3 tok ?_|refine AL.loadR tok rfl rfl rfl rfl rfl rfl ?_|refine qa4 tok ?_|refine qa5 tok ?_|refine AW.block ?_|refine AW.exit ?_|refine AW.skip ?_|((fail_if_success (refine AL.guard (b := true) rfl rfl ?_ ?_)); (fail_if_success (refine AL.guard (b := false) rfl rfl ?_ ?_)); refine AL.guard rfl rfl (fun hg => ?_) (fun hg => ?_) <;> ((try simp only [DX] at hg) <;> (try first|(exfalso; omega)|exact absurd trivial hg|exact False.elim hg|exact absurd rfl hg)))|refine AW.condT rfl ?_|refine AW.condF rfl ?_|(refine AW.cond rfl (fun hg => ?_) (fun hg => ?_) <;> ((try simp only [DX] at hg) <;> (try first|(exfalso; omega)|exact absurd trivial hg|exact False.elim hg|exact absurd rfl hg)))|refine AW.ret ?_)
      all_goals (refine ⟨_, _, _, _, rfl, Out.pure rfl ⟨?_, rfl⟩ rfl⟩; rfl)
  · rw [xwS_out h]
    refine ACalls.body tok Try.func46 rfl (by kernel_rfl) (by rw [Try.ntmps46]; simp) ?_
    simp only [Try.ntmps46, Try.results46, argT]
    repeat' (first|refine AL.do tok rfl rfl ?_|refine AL.nil ?_|refine AW.seq fun K hK => ?_|refine AW.region ?_|refine AL.no rfl rfl ?_|(refine hK _ ?_; clear hK)|(clear hK; refine hK _ ?_; clear hK)|(clear hK; clear hK; refine hK _ ?_; clear hK)|refine qaW ?_|refine qa1 tok ?_|refine qa2 tok ?_|refine qa3 tok ?_|refine AL.loadR tok rfl rfl rfl rfl rfl rfl ?_|refine qa4 tok ?_|refine qa5 tok ?_|refine AW.block ?_|refine AW.exit ?_|refine AW.skip ?_|((fail_if_success (refine AL.guard (b := true) rfl rfl ?_ ?_)); (fail_if_success (refine AL.guard (b := false) rfl rfl ?_ ?_)); refine AL.guard rfl rfl (fun hg => ?_) (fun hg => ?_) <;> ((try simp only [DX] at hg) <;> (try first|(exfalso; omega)|exact absurd trivial hg|exact False.elim hg|exact absurd rfl hg)))|refine AW.condT rfl ?_|refine AW.condF rfl ?_|(refine AW.cond rfl (fun hg => ?_) (fun hg => ?_) <;> ((try simp only [DX] at hg) <;> (try first|(exfalso; omega)|exact absurd trivial hg|exact False.elim hg|exact absurd rfl hg)))|refine AW.ret ?_)
    all_goals first
      | (refine ⟨_, _, _, _, rfl, Out.pure rfl ⟨?_, rfl⟩ rfl⟩; rfl)
      | ((try simp only [DX] at *); exfalso; simp only [List.length_cons, List.length_nil] at *; omega)
end Go.Proofs.Try
