/- queue: the calls. -/
import Derived.Test.YtlpnpjlnoeacnaaQueC
import Derived.Test.YtlpnpjlnoeacnaaAMD
import Derived.Test.YtlpnpjlnoeacnaaWk
set_option linter.unusedSimpArgs false
set_option linter.unusedVariables false
namespace Go.Proofs.Try
open Go Go.AM

def newQ (s : Sp) : Qu × Int := if checkSp s = 0 then (⟨s, 1, []⟩, 0) else (zeroQ, checkSp s)
abbrev quAV (r : Qu × Int) : AV := .tup [aggQ r.1, i64 r.2]
set_option maxHeartbeats 8000000 in
set_option maxRecDepth 10000 in
theorem new_pr (s : Sp) : ACallPR Try.prog 26 [aggS s] fun r' => nd3 r' = quAV (newQ s) := by
  have h : newQ s = if checkSp s = 0 then (⟨s, 1, []⟩, 0) else (zeroQ, checkSp s) := rfl
  rw [h]
  have k := checkSp_calls s
  generalize checkSp s = c at *
  refine ACalls.body tok Try.func26 rfl (by kernel_rfl) (by rw [Try.ntmps26]; simp) ?_
  simp only [Try.ntmps26, Try.results26, argT]
  repeat' (first|refine AL.do tok rfl rfl ?_|refine AL.nil ?_|refine AW.seq fun K hK => ?_|refine AW.region ?_|refine AL.no rfl rfl ?_|(refine hK _ ?_; clear hK)|(clear hK; refine hK _ ?_; clear hK)|(clear hK; clear hK; refine hK _ ?_; clear hK)|refine qaW ?_|refine qa1 tok ?_|refine qa2 tok ?_|refine qa3 tok ?_|refine AL.loadR tok rfl rfl rfl rfl rfl rfl ?_|refine qa4 tok ?_|refine qa5 tok ?_|refine AW.block ?_|refine AW.exit ?_|refine AW.skip ?_|refine qc1 (k ..) ?_|refine qc2 (k ..) ?_|((fail_if_success (refine AL.guard (b := true) rfl rfl ?_ ?_)); (fail_if_success (refine AL.guard (b := false) rfl rfl ?_ ?_)); refine AL.guard rfl rfl (fun hg => ?_) (fun hg => ?_) <;> ((try simp only [DX] at hg) <;> (try first|(exfalso; omega)|exact absurd trivial hg|exact False.elim hg|exact absurd rfl hg)))|refine AW.condT rfl ?_|refine AW.condF rfl ?_|(refine AW.cond rfl (fun hg => ?_) (fun hg => ?_) <;> ((try simp only [DX] at hg) <;> (try first|(exfalso; omega)|exact absurd trivial hg|exact False.elim hg|exact absurd rfl hg)))|refine AW.ret ?_)
  all_goals (refine ⟨_, _, _, _, rfl, Out.pure rfl ⟨?_, rfl⟩ rfl⟩; (try simp only [DX] at *))
  · rw [if_neg (by assumption)]; rfl
  · rw [if_pos (by assumption)]; rfl
theorem new_calls (s : Sp) : ACallP Try.prog 26 [aggS s] (quAV (newQ s)) := (new_pr s).nilR
/-- Numbers within which sums stay in range. -/
def In (n : Int) : Prop := 0 ≤ n ∧ n ≤ 1099511627776
def idxE (p : En → Bool) : List En → Nat → Int
  | [], _ => -1
  | c :: r, k => if p c then k else idxE p r (k + 1)
theorem idxE_any (p : En → Bool) : ∀ (l : List En) (k : Nat), decide (0 ≤ idxE p l k) = l.any p
  | [], k => rfl
  | c :: r, k => by
    rw [idxE, List.any_cons]
    cases h : p c with
    | true => simp [Int.natCast_nonneg]
    | false => simpa using idxE_any p r (k + 1)
set_option maxHeartbeats 4000000 in
set_option maxRecDepth 10000 in
theorem indexE_calls (l : List En) (p : En → Bool) (f : FuncId) (caps : List AV) (Hp : List Blk) (hc : ∀ c ∈ l, ACallU Try.prog f (aggE c :: caps) Hp (bo (p c)))
    (hlc : ∀ x ∈ caps, LF x) (hlb : ∀ b ∈ Hp, LFB b) : ACallU Try.prog 85 [rowE l, .fn f caps] Hp (i64 (idxE p l 0)) := by
  refine ACalls.body tok Try.func85 rfl (by kernel_rfl) (by rw [Try.ntmps85]; simp) ?_
  simp only [Try.ntmps85, Try.results85, argT]
  refine AW.bound 0 rfl fun hm => ?_
  rw [List.length_map] at hm
  repeat (first|refine AL.do tok rfl rfl ?_|refine AL.nil ?_|refine AW.seq fun K hK => ?_|refine AW.region ?_|refine AL.no rfl rfl ?_|(refine hK _ ?_; clear hK)|(clear hK; refine hK _ ?_; clear hK)|(clear hK; clear hK; refine hK _ ?_; clear hK)|refine qaW ?_|refine qa1 tok ?_|refine qa2 tok ?_|refine qa3 tok ?_|refine AL.loadR tok rfl rfl rfl rfl rfl rfl ?_|refine qa4 tok ?_|refine qa5 tok ?_|refine AW.block ?_|refine AW.exit ?_|refine AW.skip ?_)
  simp only [List.length_map]
  refine AW.loop (ι := Nat) (fun i => ⟨19, [(8, i64 i), (7, i64 l.length), (0, rowE l), (1, .fn f caps)], [], Hp, 0⟩) (fun i => i ≤ l.length ∧ idxE p (l.drop i) i = idxE p l 0) (fun i => l.length - i) 0 ⟨Nat.zero_le _, rfl⟩ ?_ ?_
  · (refine Imp.weak id (fun _ _ _ _ h => h) (by first|assumption|(intro b hb; cases hb)) ?_ ?_ <;> (repeat' (first|exact trivial|exact Nat.lt_of_lt_of_le (Nat.lt_succ_self _) (Nat.le_of_ble_eq_true rfl)|exact rfl|exact Or.inl ⟨rfl, rfl⟩|exact Or.inr ⟨rfl, LF.fn _ _ ‹_›⟩|refine ⟨?_, ?_⟩)))
  rintro i ⟨hi, hf⟩ K1 hK1
  by_cases hlt : i < l.length
  · have hstep : idxE p (l.drop i) i = if p l[i] then (i : Int) else idxE p (l.drop (i + 1)) (i + 1) := by
      rw [List.drop_eq_getElem_cons hlt]; rfl
    repeat (first|refine AL.do tok rfl rfl ?_|refine AL.nil ?_|refine AW.seq fun K hK => ?_|refine AW.region ?_|refine AL.no rfl rfl ?_|(refine hK _ ?_; clear hK)|(clear hK; refine hK _ ?_; clear hK)|(clear hK; clear hK; refine hK _ ?_; clear hK)|refine qaW ?_|refine qa1 tok ?_|refine qa2 tok ?_|refine qa3 tok ?_|refine AL.loadR tok rfl rfl rfl rfl rfl rfl ?_|refine qa4 tok ?_|refine qa5 tok ?_|refine AW.block ?_|refine AW.exit ?_|refine AW.skip ?_)
    refine AW.cond rfl (fun hg => ?_) (fun hg => by simp at hg; omega)
    repeat (first|refine AL.do tok rfl rfl ?_|refine AL.nil ?_|refine AW.seq fun K hK => ?_|refine AW.region ?_|refine AL.no rfl rfl ?_|(refine hK _ ?_; clear hK)|(clear hK; refine hK _ ?_; clear hK)|(clear hK; clear hK; refine hK _ ?_; clear hK)|refine qaW ?_|refine qa1 tok ?_|refine qa2 tok ?_|refine qa3 tok ?_|refine AL.loadR tok rfl rfl rfl rfl rfl rfl ?_|refine qa4 tok ?_|refine qa5 tok ?_|refine AW.block ?_|refine AW.exit ?_|refine AW.skip ?_)
    refine AL.callPoly rfl rfl rfl rfl rfl hlc hlb (hc l[i] (by simp)) (fun r hr => ?_)
    subst hr
    repeat (first|refine AL.do tok rfl rfl ?_|refine AL.nil ?_|refine AW.seq fun K hK => ?_|refine AW.region ?_|refine AL.no rfl rfl ?_|(refine hK _ ?_; clear hK)|(clear hK; refine hK _ ?_; clear hK)|(clear hK; clear hK; refine hK _ ?_; clear hK)|refine qaW ?_|refine qa1 tok ?_|refine qa2 tok ?_|refine qa3 tok ?_|refine AL.loadR tok rfl rfl rfl rfl rfl rfl ?_|refine qa4 tok ?_|refine qa5 tok ?_|refine AW.block ?_|refine AW.exit ?_|refine AW.skip ?_)
    refine AW.cond rfl (fun hg => ?_) (fun hg => ?_)
    · repeat (first|refine AL.do tok rfl rfl ?_|refine AL.nil ?_|refine AW.seq fun K hK => ?_|refine AW.region ?_|refine AL.no rfl rfl ?_|(refine hK _ ?_; clear hK)|(clear hK; refine hK _ ?_; clear hK)|(clear hK; clear hK; refine hK _ ?_; clear hK)|refine qaW ?_|refine qa1 tok ?_|refine qa2 tok ?_|refine qa3 tok ?_|refine AL.loadR tok rfl rfl rfl rfl rfl rfl ?_|refine qa4 tok ?_|refine qa5 tok ?_|refine AW.block ?_|refine AW.exit ?_|refine AW.skip ?_)
      refine AW.ret ?_
      refine ⟨_, _, _, _, rfl, Out.pure rfl ⟨?_, rfl, rfl, rfl⟩ rfl⟩
      rw [← hf, hstep, hg]; rfl
    · repeat (first|refine AL.do tok rfl rfl ?_|refine AL.nil ?_|refine AW.seq fun K hK => ?_|refine AW.region ?_|refine AL.no rfl rfl ?_|(refine hK _ ?_; clear hK)|(clear hK; refine hK _ ?_; clear hK)|(clear hK; clear hK; refine hK _ ?_; clear hK)|refine qaW ?_|refine qa1 tok ?_|refine qa2 tok ?_|refine qa3 tok ?_|refine AL.loadR tok rfl rfl rfl rfl rfl rfl ?_|refine qa4 tok ?_|refine qa5 tok ?_|refine AW.block ?_|refine AW.exit ?_|refine AW.skip ?_)
      refine hK1 _ (i + 1) ⟨by omega, ?_⟩ (by omega) ?_
      · rw [← hf, hstep, hg]; rfl
      · (refine Imp.weak id (fun _ _ _ _ h => h) (by first|assumption|(intro b hb; cases hb)) ?_ ?_ <;> (repeat' (first|exact trivial|exact Nat.lt_of_lt_of_le (Nat.lt_succ_self _) (Nat.le_of_ble_eq_true rfl)|exact rfl|exact Or.inl ⟨rfl, rfl⟩|exact Or.inr ⟨rfl, LF.fn _ _ ‹_›⟩|refine ⟨?_, ?_⟩)))
  · repeat (first|refine AL.do tok rfl rfl ?_|refine AL.nil ?_|refine AW.seq fun K hK => ?_|refine AW.region ?_|refine AL.no rfl rfl ?_|(refine hK _ ?_; clear hK)|(clear hK; refine hK _ ?_; clear hK)|(clear hK; clear hK; refine hK _ ?_; clear hK)|refine qaW ?_|refine qa1 tok ?_|refine qa2 tok ?_|refine qa3 tok ?_|refine AL.loadR tok rfl rfl rfl rfl rfl rfl ?_|refine qa4 tok ?_|refine qa5 tok ?_|refine AW.block ?_|refine AW.exit ?_|refine AW.skip ?_)
    refine AW.cond rfl (fun hg => by simp at hg; omega) (fun hg => ?_)
    repeat (first|refine AL.do tok rfl rfl ?_|refine AL.nil ?_|refine AW.seq fun K hK => ?_|refine AW.region ?_|refine AL.no rfl rfl ?_|(refine hK _ ?_; clear hK)|(clear hK; refine hK _ ?_; clear hK)|(clear hK; clear hK; refine hK _ ?_; clear hK)|refine qaW ?_|refine qa1 tok ?_|refine qa2 tok ?_|refine qa3 tok ?_|refine AL.loadR tok rfl rfl rfl rfl rfl rfl ?_|refine qa4 tok ?_|refine qa5 tok ?_|refine AW.block ?_|refine AW.exit ?_|refine AW.skip ?_)
    refine AW.ret ?_
    refine ⟨_, _, _, _, rfl, Out.pure rfl ⟨?_, rfl, rfl, rfl⟩ rfl⟩
    rw [← hf, List.drop_eq_nil_of_le (by omega)]
    rfl
abbrev boxE (e : En) : Blk := .box 43 [i64 e.num, i64 e.arr, i64 e.att, st e.msg.topic, st e.msg.payload, i64 e.msg.level, bo e.msg.retain, i64 e.msg.prio, i64 e.msg.expires, st e.msg.sender, i64 e.msg.seq, rowP e.msg.props]
set_option maxRecDepth 10000 in
theorem ret1_calls (c e : En) : ACallU Try.prog 72 [aggE c, .ptr (.par 0) 0] [boxE e] (bo (decide (c.num = e.num))) := by
  refine ACalls.body tok Try.func72 rfl (by kernel_rfl) (by rw [Try.ntmps72]; simp) ?_
  simp only [Try.ntmps72, Try.results72, argT]
  repeat' (first|refine AL.do tok rfl rfl ?_|refine AL.nil ?_|refine AW.seq fun K hK => ?_|refine AW.region ?_|refine AL.no rfl rfl ?_|(refine hK _ ?_; clear hK)|(clear hK; refine hK _ ?_; clear hK)|(clear hK; clear hK; refine hK _ ?_; clear hK)|refine qaW ?_|refine qa1 tok ?_|refine qa2 tok ?_|refine qa3 tok ?_|refine AL.loadR tok rfl rfl rfl rfl rfl rfl ?_|refine qa4 tok ?_|refine qa5 tok ?_|refine AW.block ?_|refine AW.exit ?_|refine AW.skip ?_|((fail_if_success (refine AL.guard (b := true) rfl rfl ?_ ?_)); (fail_if_success (refine AL.guard (b := false) rfl rfl ?_ ?_)); refine AL.guard rfl rfl (fun hg => ?_) (fun hg => ?_) <;> ((try simp only [DX] at hg) <;> (try first|(exfalso; omega)|exact absurd trivial hg|exact False.elim hg|exact absurd rfl hg)))|refine AW.condT rfl ?_|refine AW.condF rfl ?_|(refine AW.cond rfl (fun hg => ?_) (fun hg => ?_) <;> ((try simp only [DX] at hg) <;> (try first|(exfalso; omega)|exact absurd trivial hg|exact False.elim hg|exact absurd rfl hg)))|refine AW.ret ?_)
  all_goals (refine ⟨_, _, _, _, rfl, Out.pure rfl ⟨?_, rfl, rfl, rfl⟩ rfl⟩; simp)
theorem boxE_lf (e : En) : ∀ b ∈ [boxE e], LFB b := by
  intro b hb
  simp only [List.mem_singleton] at hb
  subst hb
  intro x hx
  simp only [List.mem_cons, List.not_mem_nil, or_false] at hx
  rcases hx with rfl | rfl | rfl | rfl | rfl | rfl | rfl | rfl | rfl | rfl | rfl | rfl <;> exact .d _
set_option maxHeartbeats 4000000 in
set_option maxRecDepth 10000 in
theorem contE_calls (l : List En) (e : En) : ACallU Try.prog 71 [rowE l, .fn 72 [.ptr (.par 0) 0]] [boxE e] (bo (decide (e.num ∈ l.map (·.num)))) := by
  have hi := indexE_calls l (fun c => decide (c.num = e.num)) 72 [.ptr (.par 0) 0] [boxE e] (fun c _ => ret1_calls c e) (by simp; exact .ptr _ _) (boxE_lf e)
  have hany : decide (0 ≤ idxE (fun c => decide (c.num = e.num)) l 0) = decide (e.num ∈ l.map (·.num)) := by
    rw [idxE_any, Bool.eq_iff_iff]
    simp
  generalize idxE (fun c => decide (c.num = e.num)) l 0 = a at *
  refine ACalls.body tok Try.func71 rfl (by kernel_rfl) (by rw [Try.ntmps71]; simp) ?_
  simp only [Try.ntmps71, Try.results71, argT]
  repeat (first|refine AL.do tok rfl rfl ?_|refine AL.nil ?_|refine AW.seq fun K hK => ?_|refine AW.region ?_|refine AL.no rfl rfl ?_|(refine hK _ ?_; clear hK)|(clear hK; refine hK _ ?_; clear hK)|(clear hK; clear hK; refine hK _ ?_; clear hK)|refine qaW ?_|refine qa1 tok ?_|refine qa2 tok ?_|refine qa3 tok ?_|refine AL.loadR tok rfl rfl rfl rfl rfl rfl ?_|refine qa4 tok ?_|refine qa5 tok ?_|refine AW.block ?_|refine AW.exit ?_|refine AW.skip ?_)
  refine AL.callPoly rfl rfl rfl rfl rfl (by simp) (boxE_lf e) hi (fun r hr => ?_)
  subst hr
  repeat (first|refine AL.do tok rfl rfl ?_|refine AL.nil ?_|refine AW.seq fun K hK => ?_|refine AW.region ?_|refine AL.no rfl rfl ?_|(refine hK _ ?_; clear hK)|(clear hK; refine hK _ ?_; clear hK)|(clear hK; clear hK; refine hK _ ?_; clear hK)|refine qaW ?_|refine qa1 tok ?_|refine qa2 tok ?_|refine qa3 tok ?_|refine AL.loadR tok rfl rfl rfl rfl rfl rfl ?_|refine qa4 tok ?_|refine qa5 tok ?_|refine AW.block ?_|refine AW.exit ?_|refine AW.skip ?_)
  refine AW.ret ?_
  refine ⟨_, _, _, _, rfl, Out.pure rfl ⟨?_, rfl, rfl, rfl⟩ rfl⟩
  rw [hany]
/-- A queue whose numbers stay in range, whose entries stand in order. -/
structure InQ (q : Qu) : Prop where
  ok : OkQ q
  srt : Srt q.ready
  len : q.ready.length ≤ 1000000
  nx : -1000000000000000 ≤ q.next ∧ q.next ≤ 1000000000000000
  ttl : In q.spec.ttl
  arr : ∀ e ∈ q.ready, In e.arr
def pushS (q : Qu) (m : Ms) (now : Int) : Qu × Int :=
  if checkM m = 0 then (if now < 0 ∨ 1099511627776 < now then (zeroQ, 1) else if q.spec.max ≤ q.ready.length ∨ 1099511627776 ≤ q.next then (zeroQ, 6) else ({ insQ q ⟨q.next, now, 0, m⟩ with next := q.next + 1 }, 0)) else (zeroQ, checkM m)
set_option maxHeartbeats 16000000 in
set_option maxRecDepth 10000 in
theorem push_pr (q : Qu) (m : Ms) (now : Int) (hq : InQ q) (hm : OkM m) : ACallPR Try.prog 27 [aggQ q, aggM m, i64 now] fun r' => nd3 r' = quAV (pushS q m now) := by
  have hp : pushS q m now = if checkM m = 0 then (if now < 0 ∨ 1099511627776 < now then (zeroQ, 1) else if q.spec.max ≤ q.ready.length ∨ 1099511627776 ≤ q.next then (zeroQ, 6) else ({ insQ q ⟨q.next, now, 0, m⟩ with next := q.next + 1 }, 0)) else (zeroQ, checkM m) := rfl
  rw [hp]
  have k1 := checkM_calls m (by have := hm.1; omega)
  have k2 := insQ_calls q ⟨q.next, now, 0, m⟩ hq.len hq.ok hm hq.srt
  have hn := hq.nx
  have hln : (insQ q ⟨q.next, now, 0, m⟩).next = q.next := rfl
  generalize insQ q ⟨q.next, now, 0, m⟩ = v at *
  generalize checkM m = c at *
  have hlm : (q.ready.map encE).length = q.ready.length := List.length_map ..
  refine ACalls.body tok Try.func27 rfl (by kernel_rfl) (by rw [Try.ntmps27]; simp) ?_
  simp only [Try.ntmps27, Try.results27, argT]
  repeat' (first|refine AL.do tok rfl rfl ?_|refine AL.nil ?_|refine AW.seq fun K hK => ?_|refine AW.region ?_|refine AL.no rfl rfl ?_|(refine hK _ ?_; clear hK)|(clear hK; refine hK _ ?_; clear hK)|(clear hK; clear hK; refine hK _ ?_; clear hK)|refine qaW ?_|refine qa1 tok ?_|refine qa2 tok ?_|refine qa3 tok ?_|refine AL.loadR tok rfl rfl rfl rfl rfl rfl ?_|refine qa4 tok ?_|refine qa5 tok ?_|refine AW.block ?_|refine AW.exit ?_|refine AW.skip ?_|refine qc1 (k1 ..) ?_|refine qc2 (k1 ..) ?_|refine qc1 (k2 ..) ?_|refine qc2 (k2 ..) ?_|((fail_if_success (refine AL.guard (b := true) rfl rfl ?_ ?_)); (fail_if_success (refine AL.guard (b := false) rfl rfl ?_ ?_)); refine AL.guard rfl rfl (fun hg => ?_) (fun hg => ?_) <;> ((try simp only [DX] at hg) <;> (try first|(exfalso; omega)|exact absurd trivial hg|exact False.elim hg|exact absurd rfl hg)))|refine AW.condT rfl ?_|refine AW.condF rfl ?_|(refine AW.cond rfl (fun hg => ?_) (fun hg => ?_) <;> ((try simp only [DX] at hg) <;> (try first|(exfalso; omega)|exact absurd trivial hg|exact False.elim hg|exact absurd rfl hg)))|refine AW.ret ?_)
  all_goals (refine ⟨_, _, _, _, rfl, Out.pure rfl ⟨?_, rfl⟩ rfl⟩; (try simp only [DX] at *))
  all_goals first
    | (rw [if_neg (by omega)]; rfl)
    | (rw [if_pos (by omega), if_pos (by omega)]; rfl)
    | (rw [if_pos (by omega), if_neg (by omega), if_pos (by omega)]; rfl)
    | (rw [if_pos (by omega), if_neg (by omega), if_neg (by omega), ← hln]; rfl)
theorem push_calls (q : Qu) (m : Ms) (now : Int) (hq : InQ q) (hm : OkM m) : ACallP Try.prog 27 [aggQ q, aggM m, i64 now] (quAV (pushS q m now)) := (push_pr q m now hq hm).nilR
def popS (q : Qu) : En × Qu × Bool := match q.ready with
  | [] => (zeroE, zeroQ, false)
  | x :: r => (x, ⟨q.spec, q.next, r⟩, true)
abbrev popAV (r : En × Qu × Bool) : AV := .tup [aggE r.1, aggQ r.2.1, bo r.2.2]
theorem pop_nil {q : Qu} (h : q.ready.length = 0) : popS q = (zeroE, zeroQ, false) := by
  obtain ⟨s, nx, l⟩ := q
  cases l with
  | nil => rfl
  | cons => simp at h
theorem pop_cons {q : Qu} (h : 0 < q.ready.length) : popS q = (q.ready[0], ⟨q.spec, q.next, q.ready.drop 1⟩, true) := by
  obtain ⟨s, nx, l⟩ := q
  cases l with
  | nil => simp at h
  | cons => rfl
set_option maxHeartbeats 16000000 in
set_option maxRecDepth 10000 in
theorem pop_pr (q : Qu) (hl : q.ready.length ≤ 1000000) (ho : OkQ q) : ACallPR Try.prog 28 [aggQ q] fun r' => nd3 r' = popAV (popS q) := by
  have hlm : (q.ready.map encE).length = q.ready.length := List.length_map ..
  rcases Nat.eq_zero_or_pos q.ready.length with h0 | h0
  · rw [pop_nil h0]
    refine ACalls.body tok Try.func28 rfl (by kernel_rfl) (by rw [Try.ntmps28]; simp) ?_
    simp only [Try.ntmps28, Try.results28, argT]
    repeat' (first|refine AL.do tok rfl rfl ?_|refine AL.nil ?_|refine AW.seq fun K hK => ?_|refine AW.region ?_|refine AL.no rfl rfl ?_|(refine hK _ ?_; clear hK)|(clear hK; refine hK _ ?_; clear hK)|(clear hK; clear hK; refine hK _ ?_; clear hK)|refine qaW ?_|refine qa1 tok ?_|refine qa2 tok ?_|refine qa3 tok ?_|refine AL.loadR tok rfl rfl rfl rfl rfl rfl ?_|refine qa4 tok ?_|refine qa5 tok ?_|refine AW.block ?_|refine AW.exit ?_|refine AW.skip ?_|((fail_if_success (refine AL.guard (b := true) rfl rfl ?_ ?_)); (fail_if_success (refine AL.guard (b := false) rfl rfl ?_ ?_)); refine AL.guard rfl rfl (fun hg => ?_) (fun hg => ?_) <;> ((try simp only [DX] at hg) <;> (try first|(exfalso; omega)|exact absurd trivial hg|exact False.elim hg|exact absurd rfl hg)))|refine AW.condT rfl ?_|refine AW.condF rfl ?_|(refine AW.cond rfl (fun hg => ?_) (fun hg => ?_) <;> ((try simp only [DX] at hg) <;> (try first|(exfalso; omega)|exact absurd trivial hg|exact False.elim hg|exact absurd rfl hg)))|refine AW.ret ?_)
    all_goals (refine ⟨_, _, _, _, rfl, Out.pure rfl ⟨?_, rfl⟩ rfl⟩; rfl)
  · rw [pop_cons h0]
    have k1 := copyE_calls q.ready[0] (ho _ (List.getElem_mem h0))
    have k2 := copies_calls (q.ready.drop 1) (by rw [List.length_drop]; omega) (fun e he => ho e (List.mem_of_mem_drop he))
    refine ACalls.body tok Try.func28 rfl (by kernel_rfl) (by rw [Try.ntmps28]; simp) ?_
    simp only [Try.ntmps28, Try.results28, argT]
    repeat' (first|refine AL.do tok rfl rfl ?_|refine AL.nil ?_|refine AW.seq fun K hK => ?_|refine AW.region ?_|refine AL.no rfl rfl ?_|(refine hK _ ?_; clear hK)|(clear hK; refine hK _ ?_; clear hK)|(clear hK; clear hK; refine hK _ ?_; clear hK)|refine qaW ?_|refine qa1 tok ?_|refine qa2 tok ?_|refine qa3 tok ?_|refine AL.loadR tok rfl rfl rfl rfl rfl rfl ?_|refine qa4 tok ?_|refine qa5 tok ?_|refine AW.block ?_|refine AW.exit ?_|refine AW.skip ?_|refine qc1 (k1 ..) ?_|refine qc2 (k1 ..) ?_|((fail_if_success (refine AL.guard (b := true) rfl rfl ?_ ?_)); (fail_if_success (refine AL.guard (b := false) rfl rfl ?_ ?_)); refine AL.guard rfl rfl (fun hg => ?_) (fun hg => ?_) <;> ((try simp only [DX] at hg) <;> (try first|(exfalso; omega)|exact absurd trivial hg|exact False.elim hg|exact absurd rfl hg)))|refine AW.condT rfl ?_|refine AW.condF rfl ?_|(refine AW.cond rfl (fun hg => ?_) (fun hg => ?_) <;> ((try simp only [DX] at hg) <;> (try first|(exfalso; omega)|exact absurd trivial hg|exact False.elim hg|exact absurd rfl hg))))
    all_goals try (exfalso; omega)
    have hd : List.drop (1 : Int).toNat (List.take ((q.ready.map encE).length : Int).toNat q.ready) = q.ready.drop 1 := by
      rw [Int.toNat_natCast, hlm, List.take_length]
      rfl
    rw [hd]
    refine AL.callO rfl rfl rfl rfl rfl k2 (fun xs hxs => ?_)
    subst hxs
    repeat (first|refine AL.do tok rfl rfl ?_|refine AL.nil ?_|refine AW.seq fun K hK => ?_|refine AW.region ?_|refine AL.no rfl rfl ?_|(refine hK _ ?_; clear hK)|(clear hK; refine hK _ ?_; clear hK)|(clear hK; clear hK; refine hK _ ?_; clear hK)|refine qaW ?_|refine qa1 tok ?_|refine qa2 tok ?_|refine qa3 tok ?_|refine AL.loadR tok rfl rfl rfl rfl rfl rfl ?_|refine qa4 tok ?_|refine qa5 tok ?_|refine AW.block ?_|refine AW.exit ?_|refine AW.skip ?_)
    refine AW.frz 4 rfl rfl rfl ?_
    refine AW.anyN mix [[], [], [0], [0, 1, 2], [0, 1, 2, 3]] [[23], [22], [23], [], []] [[], [1], [], [], []] [(2, 1), (3, 2)] 5 10 rfl (by rfl) (by decide +kernel) rfl (by first|assumption|(intro b hb; cases hb)) ?_ <;> repeat' (first|refine AR.step rfl rfl (by first|exact OSp.do tok rfl rfl rfl|exact OSp.no rfl rfl|exact OSp.noN rfl|exact qoW|exact OSp.copy tok rfl rfl rfl rfl rfl rfl rfl (by (first | (intro x hx; obtain ⟨_, _, rfl⟩ := List.mem_map.1 hx; rfl) | (intro x hx; replace hx := List.mem_of_mem_take (List.mem_of_mem_drop hx); obtain ⟨_, _, rfl⟩ := List.mem_map.1 hx; rfl) | (simp; done))) rfl rfl rfl rfl|exact OSp.buildSlice tok rfl rfl rfl rfl rfl rfl rfl rfl|exact OSp.append tok rfl rfl rfl rfl rfl rfl rfl rfl rfl rfl rfl (by first|(intro x hx; obtain ⟨_, _, rfl⟩ := List.mem_map.1 hx; rfl)|(simp; done)) (by simp; omega) (by simp; omega)|exact OSp.alloc tok rfl rfl rfl rfl|exact OSp.box tok rfl rfl rfl rfl rfl|exact OSp.boxC tok rfl rfl rfl rfl rfl|exact OSp.store tok rfl rfl rfl rfl rfl rfl rfl rfl|exact OSp.appIn tok rfl rfl rfl rfl rfl (by first|assumption|(intro e; have := congrArg List.length e; simp at this; omega)) rfl rfl (by (first | (intro x hx; obtain ⟨_, _, rfl⟩ := List.mem_map.1 hx; rfl) | (intro x hx; replace hx := List.mem_of_mem_take (List.mem_of_mem_drop hx); obtain ⟨_, _, rfl⟩ := List.mem_map.1 hx; rfl) | (simp; done))) rfl rfl rfl rfl (by first|omega|(simp; omega))|exact OSp.copyX tok rfl rfl rfl rfl rfl rfl rfl rfl (by first|omega|(simp; omega)) (by first|omega|(simp; omega)) (by first|omega|(simp; omega)) (by first|omega|(simp; omega)) (by first|omega|(simp; omega))) (by rfl) (by rfl) ?_|refine AR.done rfl rfl ?_|(refine AR.guard rfl rfl rfl rfl (fun hg => ?_) (fun hg => ?_) <;> ((try simp only [DX] at hg) <;> (try first|(exfalso; omega)|exact absurd trivial hg|exact False.elim hg|exact absurd rfl hg))))
    repeat (first|refine AL.do tok rfl rfl ?_|refine AL.nil ?_|refine AW.seq fun K hK => ?_|refine AW.region ?_|refine AL.no rfl rfl ?_|(refine hK _ ?_; clear hK)|(clear hK; refine hK _ ?_; clear hK)|(clear hK; clear hK; refine hK _ ?_; clear hK)|refine qaW ?_|refine qa1 tok ?_|refine qa2 tok ?_|refine qa3 tok ?_|refine AL.loadR tok rfl rfl rfl rfl rfl rfl ?_|refine qa4 tok ?_|refine qa5 tok ?_|refine AW.block ?_|refine AW.exit ?_|refine AW.skip ?_)
    refine AW.ret ?_
    refine ⟨_, _, _, _, rfl, Out.pure rfl ⟨?_, rfl⟩ rfl⟩
    rfl
theorem pop_calls (q : Qu) (hl : q.ready.length ≤ 1000000) (ho : OkQ q) : ACallP Try.prog 28 [aggQ q] (popAV (popS q)) := (pop_pr q hl ho).nilR
def retS (q : Qu) (e : En) : Qu × Int := if entryS e q.next = 0 then (if e.num ∈ q.ready.map (·.num) then (zeroQ, 7) else if 4352 ≤ q.ready.length then (zeroQ, 6) else (insQ q e, 0)) else (zeroQ, entryS e q.next)
set_option maxHeartbeats 16000000 in
set_option maxRecDepth 10000 in
theorem return_pr (q : Qu) (e : En) (hq : InQ q) (hm : OkM e.msg) : ACallPR Try.prog 43 [aggQ q, aggE e] fun r' => nd3 r' = quAV (retS q e) := by
  have hp : retS q e = if entryS e q.next = 0 then (if e.num ∈ q.ready.map (·.num) then (zeroQ, 7) else if 4352 ≤ q.ready.length then (zeroQ, 6) else (insQ q e, 0)) else (zeroQ, entryS e q.next) := rfl
  rw [hp]
  have k1 := entry_calls e q.next (by have := hm.1; omega)
  have k2 := insQ_calls q e hq.len hq.ok hm hq.srt
  have k3 := contE_calls q.ready e
  have hlm : (q.ready.map encE).length = q.ready.length := List.length_map ..
  generalize entryS e q.next = c at *
  generalize insQ q e = v at *
  refine ACalls.body tok Try.func43 rfl (by kernel_rfl) (by rw [Try.ntmps43]; simp) ?_
  simp only [Try.ntmps43, Try.results43, argT]
  repeat' (first|refine AL.do tok rfl rfl ?_|refine AL.nil ?_|refine AW.seq fun K hK => ?_|refine AW.region ?_|refine AL.no rfl rfl ?_|(refine hK _ ?_; clear hK)|(clear hK; refine hK _ ?_; clear hK)|(clear hK; clear hK; refine hK _ ?_; clear hK)|refine qaW ?_|refine qa1 tok ?_|refine qa2 tok ?_|refine qa3 tok ?_|refine AL.loadR tok rfl rfl rfl rfl rfl rfl ?_|refine qa4 tok ?_|refine qa5 tok ?_|refine AW.block ?_|refine AW.exit ?_|refine AW.skip ?_|refine qc1 (k1 ..) ?_|refine qc2 (k1 ..) ?_|((fail_if_success (refine AL.guard (b := true) rfl rfl ?_ ?_)); (fail_if_success (refine AL.guard (b := false) rfl rfl ?_ ?_)); refine AL.guard rfl rfl (fun hg => ?_) (fun hg => ?_) <;> ((try simp only [DX] at hg) <;> (try first|(exfalso; omega)|exact absurd trivial hg|exact False.elim hg|exact absurd rfl hg)))|refine AW.condT rfl ?_|refine AW.condF rfl ?_|(refine AW.cond rfl (fun hg => ?_) (fun hg => ?_) <;> ((try simp only [DX] at hg) <;> (try first|(exfalso; omega)|exact absurd trivial hg|exact False.elim hg|exact absurd rfl hg))))
  · refine AW.ret ?_
    refine ⟨_, _, _, _, rfl, Out.pure rfl ⟨?_, rfl⟩ rfl⟩
    rw [if_neg (by omega)]
    rfl
  · refine AL.callU rfl rfl rfl rfl [.loc 1] (ys := [rowE q.ready, .fn 72 [.ptr (.par 0) 0]]) (HpC := [boxE e]) rfl rfl (by decide) rfl rfl k3 (fun r hr => ?_)
    subst hr
    repeat' (first|refine AL.do tok rfl rfl ?_|refine AL.nil ?_|refine AW.seq fun K hK => ?_|refine AW.region ?_|refine AL.no rfl rfl ?_|(refine hK _ ?_; clear hK)|(clear hK; refine hK _ ?_; clear hK)|(clear hK; clear hK; refine hK _ ?_; clear hK)|refine qaW ?_|refine qa1 tok ?_|refine qa2 tok ?_|refine qa3 tok ?_|refine AL.loadR tok rfl rfl rfl rfl rfl rfl ?_|refine qa4 tok ?_|refine qa5 tok ?_|refine AW.block ?_|refine AW.exit ?_|refine AW.skip ?_|refine qc1 (k2 ..) ?_|refine qc2 (k2 ..) ?_|((fail_if_success (refine AL.guard (b := true) rfl rfl ?_ ?_)); (fail_if_success (refine AL.guard (b := false) rfl rfl ?_ ?_)); refine AL.guard rfl rfl (fun hg => ?_) (fun hg => ?_) <;> ((try simp only [DX] at hg) <;> (try first|(exfalso; omega)|exact absurd trivial hg|exact False.elim hg|exact absurd rfl hg)))|refine AW.condT rfl ?_|refine AW.condF rfl ?_|(refine AW.cond rfl (fun hg => ?_) (fun hg => ?_) <;> ((try simp only [DX] at hg) <;> (try first|(exfalso; omega)|exact absurd trivial hg|exact False.elim hg|exact absurd rfl hg))))
    all_goals (try simp only [DX] at *)
    all_goals
      refine AW.ret ?_
      refine ⟨_, _, _, _, rfl, Out.pure rfl ⟨?_, rfl⟩ rfl⟩
    · rw [if_pos (by assumption), if_pos (by assumption)]
      rfl
    · rw [if_pos (by assumption), if_neg (by assumption), if_pos (by omega)]
      rfl
    · rw [if_pos (by assumption), if_neg (by assumption), if_neg (by omega)]
      rfl
theorem return_calls (q : Qu) (e : En) (hq : InQ q) (hm : OkM e.msg) : ACallP Try.prog 43 [aggQ q, aggE e] (quAV (retS q e)) := (return_pr q e hq hm).nilR
end Go.Proofs.Try
