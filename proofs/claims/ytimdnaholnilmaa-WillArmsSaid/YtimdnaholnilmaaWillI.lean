/- will: the laws WillChecks, WillArms, WillCancels, WillTakes, WillNext: what they compute is true. -/
import Derived.Test.YtimdnaholnilmaaWillH
set_option linter.unusedSimpArgs false
set_option linter.unusedVariables false
namespace Go.Proofs.Try
open Go Go.AM

theorem dt_P {ds : List D} (h : DT ts 57 ds) : ∃ p, ds = encP p ∧ True := by
  obtain ⟨hl, hf⟩ := DT.strct_inv rfl h
  match ds, hl with
  | [a, b], _ =>
    obtain ⟨n0, e0, _⟩ := DT.str_inv rfl (hf 0 _ _ _ rfl rfl rfl)
    obtain ⟨n1, e1, _⟩ := DT.str_inv rfl (hf 1 _ _ _ rfl rfl rfl)
    simp at e0 e1
    exact ⟨⟨n0, n1⟩, by simp [encP, e0, e1], trivial⟩
/-- A message of arguments: its texts and lists have room. -/
def OkM (m : Ms) : Prop := m.topic.size ≤ 140737488351232 ∧ m.props.length ≤ 4398046510976
theorem dt_M {ds : List D} (h : DT ts 24 ds) : ∃ m, ds = encM m ∧ OkM m := by
  obtain ⟨hl, hf⟩ := DT.strct_inv rfl h
  match ds, hl with
  | [a, b, c, d, e, f, g, i, j], _ =>
    obtain ⟨n0, e0, h0⟩ := DT.str_invB rfl (hf 0 _ _ _ rfl rfl rfl)
    obtain ⟨n1, e1, _⟩ := DT.str_inv rfl (hf 1 _ _ _ rfl rfl rfl)
    obtain ⟨n2, e2, _⟩ := DT.int_inv rfl (hf 2 _ _ _ rfl rfl rfl)
    obtain ⟨n3, e3⟩ := DT.bool_inv rfl (hf 3 _ _ _ rfl rfl rfl)
    obtain ⟨n4, e4, _⟩ := DT.int_inv rfl (hf 4 _ _ _ rfl rfl rfl)
    obtain ⟨n5, e5, _⟩ := DT.int_inv rfl (hf 5 _ _ _ rfl rfl rfl)
    obtain ⟨n6, e6, _⟩ := DT.str_inv rfl (hf 6 _ _ _ rfl rfl rfl)
    obtain ⟨n7, e7, _⟩ := DT.int_inv rfl (hf 7 _ _ _ rfl rfl rfl)
    obtain ⟨xs, e8, hx, hd⟩ := DT.slice_invB rfl rfl (hf 8 _ _ _ rfl rfl rfl)
    obtain ⟨l, rfl, _⟩ := list_decode xs (fun x hx' => dt_P (hd x hx'))
    simp at e0 e1 e2 e3 e4 e5 e6 e7 e8
    rw [List.length_map] at hx
    exact ⟨⟨n0, n1, n2, n3, n4, n5, n6, n7, l⟩, by simp [encM, e0, e1, e2, e3, e4, e5, e6, e7, e8], h0, (by have hx2 : l.length * 32 ≤ 140737488351232 := hx; show l.length ≤ 4398046510976; omega)⟩
theorem dt_D {ds : List D} (h : DT ts 51 ds) : ∃ d, ds = encD d ∧ OkM d.msg := by
  obtain ⟨hl, hf⟩ := DT.strct_inv rfl h
  match ds, hl with
  | [a, b, m0, m1, m2, m3, m4, m5, m6, m7, m8], _ =>
    obtain ⟨n0, e0, _⟩ := DT.str_inv rfl (hf 0 _ _ _ rfl rfl rfl)
    obtain ⟨n1, e1, _⟩ := DT.int_inv rfl (hf 1 _ _ _ rfl rfl rfl)
    obtain ⟨m, e2, hm⟩ := dt_M (hf 2 _ _ _ rfl rfl rfl)
    simp [encM] at e0 e1 e2
    exact ⟨⟨n0, n1, m⟩, by simp [encD, e0, e1, e2], hm⟩
def encW (w : Wl) : List D := [.one (.bool w.set_), .one (.int .i64 w.delay), .one (.string w.msg.topic), .one (.string w.msg.payload), .one (.int .i64 w.msg.level), .one (.bool w.msg.retain), .one (.int .i64 w.msg.prio), .one (.int .i64 w.msg.expires), .one (.string w.msg.sender), .one (.int .i64 w.msg.seq), .row (w.msg.props.map encP)]
theorem dt_W {ds : List D} (h : DT ts 26 ds) : ∃ w, ds = encW w ∧ OkM w.msg := by
  obtain ⟨hl, hf⟩ := DT.strct_inv rfl h
  match ds, hl with
  | [a, b, m0, m1, m2, m3, m4, m5, m6, m7, m8], _ =>
    obtain ⟨n0, e0⟩ := DT.bool_inv rfl (hf 0 _ _ _ rfl rfl rfl)
    obtain ⟨n1, e1, _⟩ := DT.int_inv rfl (hf 1 _ _ _ rfl rfl rfl)
    obtain ⟨m, e2, hm⟩ := dt_M (hf 2 _ _ _ rfl rfl rfl)
    simp [encM] at e0 e1 e2
    exact ⟨⟨n0, n1, m⟩, by simp [encW, e0, e1, e2], hm⟩
theorem at_W {x : AV} (h : AT ts 26 x) : ∃ w, x = aggW w ∧ OkM w.msg := by
  obtain ⟨ds, rfl, hd⟩ := h
  obtain ⟨w, rfl, hw⟩ := dt_W hd
  exact ⟨w, rfl, hw⟩
theorem at_D {x : AV} (h : AT ts 31 x) : ∃ l : List Du, x = rowD l ∧ (∀ d ∈ l, OkM d.msg) ∧ l.length ≤ 9223372036854775807 := by
  obtain ⟨y, rfl, hd⟩ := h
  obtain ⟨xs, e, hl, hx⟩ := DT.slice_inv rfl hd
  cases e
  obtain ⟨l, rfl, hp⟩ := list_decode xs (fun x hx' => dt_D (hx x hx'))
  exact ⟨l, rfl, hp, by rw [List.length_map] at hl; exact hl⟩
theorem at_str {x : AV} (h : AT ts 9 x) : ∃ s, x = st s ∧ s.size ≤ 9223372036854775807 := by
  obtain ⟨y, rfl, hd⟩ := h
  obtain ⟨s, e, hs⟩ := DT.str_inv rfl hd
  cases e
  exact ⟨s, rfl, hs⟩
theorem at_int {x : AV} (h : AT ts 3 x) : ∃ n, x = i64 n ∧ -9223372036854775808 ≤ n ∧ n ≤ 9223372036854775807 := by
  obtain ⟨y, rfl, hd⟩ := h
  obtain ⟨n, e, hn⟩ := DT.int_inv rfl hd
  cases e
  simp only [Lit.wf, Bool.and_eq_true, decide_eq_true_eq] at hn
  exact ⟨n, rfl, hn⟩

theorem checkW_delay {w : Wl} (h : checkW w = 0) : 0 ≤ w.delay ∧ w.delay ≤ 1099511627776 := by
  unfold checkW at h
  split at h
  · split at h
    · omega
    · omega
  · split at h
    · omega
    · rename_i h2
      have : w.delay = 0 := by
        by_cases e : w.delay = 0
        · exact e
        · exact absurd (.inl e) h2
      omega
theorem valid_t {l : List Du} (h : l.length ≤ 60 ∧ VW l) : ACallP Try.prog 13 [rowD l] (bo true) := by
  have := valid_calls l
  rw [decide_eq_true h.1, decide_eq_true h.2] at this
  exact this
theorem valid_f {l : List Du} (h : ¬ (l.length ≤ 60 ∧ VW l)) : ACallP Try.prog 13 [rowD l] (bo false) := by
  have := valid_calls l
  rw [← Bool.decide_and, decide_eq_false h] at this
  exact this
theorem instant_t {n : Int} (h : 0 ≤ n ∧ n ≤ 1099511627776) : ACallP Try.prog 14 [i64 n] (bo true) := by
  have := instant_calls n
  rw [decide_eq_true h] at this
  exact this
theorem instant_f {n : Int} (h : ¬ (0 ≤ n ∧ n ≤ 1099511627776)) : ACallP Try.prog 14 [i64 n] (bo false) := by
  have := instant_calls n
  rw [decide_eq_false h] at this
  exact this
theorem same_t (l : List Du) : ACallP Try.prog 16 [rowD l, rowD l] (bo true) := by
  have := refSame_calls l l
  rw [eqDs_iff.2 rfl] at this
  exact this
theorem vw_t {l : List Du} (h : VW l) : ACallP Try.prog 18 [rowD l] (bo true) := by
  have := refValid_calls18 l
  rw [decide_eq_true h] at this
  exact this

set_option maxHeartbeats 8000000 in
set_option maxRecDepth 10000 in
theorem willChecks_law (x0 : AV) (h0 : AT ts 26 x0) : ACallP Try.prog 3 [x0] (bo true) := by
  obtain ⟨w, rfl, hw⟩ := at_W h0
  have k1 := checkW_calls w (by have := hw.1; omega)
  have k2 := refCheckW_calls w (by have := hw.1; omega)
  refine ACalls.body tok Try.func3 rfl (by kernel_rfl) (by rw [Try.ntmps3]; simp) ?_
  simp only [Try.ntmps3, Try.results3, argT]
  repeat (first|refine AL.do tok rfl rfl ?_|refine AL.nil ?_|refine AW.seq fun K hK => ?_|refine AW.region ?_|refine AL.no rfl rfl ?_|(refine hK _ ?_; clear hK)|(clear hK; refine hK _ ?_; clear hK)|(clear hK; clear hK; refine hK _ ?_; clear hK)|refine qa7 qv1 ?_|refine qa7 qv2 ?_|refine qa7 qv3 ?_|refine qa7 (qv4 tok) ?_|refine qa7 (qv5 tok) ?_|refine qa7 qv6 ?_|refine qa7 qv7 ?_|refine qa7 (qv8 tok) ?_|refine qa7 (qv9 tok) ?_|refine qa7 (qv10 tok) ?_|refine qa7 (qv11 tok) ?_|refine qa7 (qv12 tok) ?_|refine qa7 (qv13 tok) ?_|refine qa7 (qv14 tok) ?_|refine qa7 (qv15 tok) ?_|refine qa7 (qv16 tok) ?_|refine qa7 qv17 ?_|refine qa7 (qv18 tok) ?_|refine qa7 qv19 ?_|refine qa7 (qv20 tok) ?_|refine qa7 (qv21 tok) ?_|refine qa7 (qv22 tok) ?_|refine qa1 tok ?_|refine qa2 tok ?_|refine qa3 tok ?_|refine AL.loadR tok rfl rfl rfl rfl rfl rfl ?_|refine qa4 tok ?_|refine qa5 tok ?_|refine AW.block ?_|refine AW.exit ?_|refine AW.skip ?_)
  refine AW.drawn mix (by kernel_rfl) ?_
  repeat' (first|refine AQ.do tok rfl rfl rfl ?_|refine AQ.no rfl rfl ?_|refine AQ.v rfl qv1 rfl ?_|refine AQ.v rfl qv2 rfl ?_|refine AQ.v rfl qv3 rfl ?_|refine AQ.v rfl (qv4 tok) rfl ?_|refine AQ.v rfl (qv5 tok) rfl ?_|refine AQ.v rfl qv6 rfl ?_|refine AQ.v rfl qv7 rfl ?_|refine AQ.v rfl (qv8 tok) rfl ?_|refine AQ.v rfl (qv9 tok) rfl ?_|refine AQ.v rfl (qv10 tok) rfl ?_|refine AQ.v rfl (qv11 tok) rfl ?_|refine AQ.v rfl (qv12 tok) rfl ?_|refine AQ.v rfl (qv13 tok) rfl ?_|refine AQ.v rfl (qv14 tok) rfl ?_|refine AQ.v rfl (qv15 tok) rfl ?_|refine AQ.v rfl (qv16 tok) rfl ?_|refine AQ.v rfl qv17 rfl ?_|refine AQ.v rfl (qv18 tok) rfl ?_|refine AQ.v rfl qv19 rfl ?_|refine AQ.v rfl (qv20 tok) rfl ?_|refine AQ.v rfl (qv21 tok) rfl ?_|refine AQ.v rfl (qv22 tok) rfl ?_|refine AQ.nil ?_|refine AQ.callB rfl rfl rfl rfl rfl rfl (awake_calls ..) rfl ?_|refine AQ.callB rfl rfl rfl rfl rfl rfl (k1 ..) rfl ?_|refine AQ.callB rfl rfl rfl rfl rfl rfl (k2 ..) rfl ?_|(refine AQ.guard rfl rfl (fun hg => ?_) (fun hg => ?_) <;> ((try simp only [DX] at hg) <;> (try first|(exfalso; omega)|exact absurd trivial hg|exact False.elim hg|exact absurd rfl hg))))
  repeat (first|refine AL.do tok rfl rfl ?_|refine AL.nil ?_|refine AW.seq fun K hK => ?_|refine AW.region ?_|refine AL.no rfl rfl ?_|(refine hK _ ?_; clear hK)|(clear hK; refine hK _ ?_; clear hK)|(clear hK; clear hK; refine hK _ ?_; clear hK)|refine qa7 qv1 ?_|refine qa7 qv2 ?_|refine qa7 qv3 ?_|refine qa7 (qv4 tok) ?_|refine qa7 (qv5 tok) ?_|refine qa7 qv6 ?_|refine qa7 qv7 ?_|refine qa7 (qv8 tok) ?_|refine qa7 (qv9 tok) ?_|refine qa7 (qv10 tok) ?_|refine qa7 (qv11 tok) ?_|refine qa7 (qv12 tok) ?_|refine qa7 (qv13 tok) ?_|refine qa7 (qv14 tok) ?_|refine qa7 (qv15 tok) ?_|refine qa7 (qv16 tok) ?_|refine qa7 qv17 ?_|refine qa7 (qv18 tok) ?_|refine qa7 qv19 ?_|refine qa7 (qv20 tok) ?_|refine qa7 (qv21 tok) ?_|refine qa7 (qv22 tok) ?_|refine qa1 tok ?_|refine qa2 tok ?_|refine qa3 tok ?_|refine AL.loadR tok rfl rfl rfl rfl rfl rfl ?_|refine qa4 tok ?_|refine qa5 tok ?_|refine AW.block ?_|refine AW.exit ?_|refine AW.skip ?_)
  refine AW.ret ?_
  refine ⟨_, _, _, _, rfl, Out.pure rfl ⟨?_, rfl⟩ rfl⟩
  simp
set_option maxHeartbeats 8000000 in
set_option maxRecDepth 10000 in
theorem willArms_law (x0 x1 x2 x3 : AV) (h0 : AT ts 31 x0) (h1 : AT ts 9 x1) (h2 : AT ts 26 x2) (h3 : AT ts 3 x3) : ACallP Try.prog 4 [x0, x1, x2, x3] (bo true) := by
  obtain ⟨l, rfl, hp, hl⟩ := at_D h0
  obtain ⟨q, rfl, _⟩ := at_str h1
  obtain ⟨w, rfl, hw⟩ := at_W h2
  obtain ⟨now, rfl, hn1, hn2⟩ := at_int h3
  have kc := refCheckW_calls w (by have := hw.1; omega)
  by_cases hv : l.length ≤ 60 ∧ VW l
  · have v1 := valid_t hv
    have hdel := fun h => checkW_delay (w := w) h
    generalize checkW w = e at *
    by_cases hn : 0 ≤ now ∧ now ≤ 1099511627776
    · have i1 := instant_t hn
      by_cases hc : e = 0
      · have hdel := hdel hc
        have k1 := arm_calls l q w now (by omega) (fun d hd => (hp d hd).2) hw.2 hv.2.ord (by omega)
        have k2 := refArm_calls l q w now (by omega) (by omega)
        have hG := vw_arm hv.2 (q := q) (w := w) hn.1 hdel.1
        rw [arm_ref hv.2] at k1
        generalize refArmS l q w now = G at *
        have k3 := same_t G
        have k4 := vw_t hG
        subst hc
        refine ACalls.body tok Try.func4 rfl (by kernel_rfl) (by rw [Try.ntmps4]; simp) ?_
        simp only [Try.ntmps4, Try.results4, argT]
        repeat' (first|refine AL.do tok rfl rfl ?_|refine AL.nil ?_|refine AW.seq fun K hK => ?_|refine AW.region ?_|refine AL.no rfl rfl ?_|(refine hK _ ?_; clear hK)|(clear hK; refine hK _ ?_; clear hK)|(clear hK; clear hK; refine hK _ ?_; clear hK)|refine qa7 qv1 ?_|refine qa7 qv2 ?_|refine qa7 qv3 ?_|refine qa7 (qv4 tok) ?_|refine qa7 (qv5 tok) ?_|refine qa7 qv6 ?_|refine qa7 qv7 ?_|refine qa7 (qv8 tok) ?_|refine qa7 (qv9 tok) ?_|refine qa7 (qv10 tok) ?_|refine qa7 (qv11 tok) ?_|refine qa7 (qv12 tok) ?_|refine qa7 (qv13 tok) ?_|refine qa7 (qv14 tok) ?_|refine qa7 (qv15 tok) ?_|refine qa7 (qv16 tok) ?_|refine qa7 qv17 ?_|refine qa7 (qv18 tok) ?_|refine qa7 qv19 ?_|refine qa7 (qv20 tok) ?_|refine qa7 (qv21 tok) ?_|refine qa7 (qv22 tok) ?_|refine qa1 tok ?_|refine qa2 tok ?_|refine qa3 tok ?_|refine AL.loadR tok rfl rfl rfl rfl rfl rfl ?_|refine qa4 tok ?_|refine qa5 tok ?_|refine AW.block ?_|refine AW.exit ?_|refine AW.skip ?_|refine qc1 (v1 ..) ?_|refine qc2 (v1 ..) ?_|refine qc1 (kc ..) ?_|refine qc2 (kc ..) ?_|refine qc1 (i1 ..) ?_|refine qc2 (i1 ..) ?_|refine qc1 (k1 ..) ?_|refine qc2 (k1 ..) ?_|refine qc1 (k2 ..) ?_|refine qc2 (k2 ..) ?_|refine qc1 (k3 ..) ?_|refine qc2 (k3 ..) ?_|refine qc1 (k4 ..) ?_|refine qc2 (k4 ..) ?_|refine qc1 (awake_calls ..) ?_|refine qc2 (awake_calls ..) ?_|((fail_if_success (refine AL.guard (b := true) rfl rfl ?_ ?_)); (fail_if_success (refine AL.guard (b := false) rfl rfl ?_ ?_)); refine AL.guard rfl rfl (fun hg => ?_) (fun hg => ?_) <;> ((try simp only [DX] at hg) <;> (try first|(exfalso; omega)|exact absurd trivial hg|exact False.elim hg|exact absurd rfl hg)))|refine AW.condT rfl ?_|refine AW.condF rfl ?_|(refine AW.cond rfl (fun hg => ?_) (fun hg => ?_) <;> ((try simp only [DX] at hg) <;> (try first|(exfalso; omega)|exact absurd trivial hg|exact False.elim hg|exact absurd rfl hg)))|refine AW.ret ?_)
        all_goals (refine ⟨_, _, _, _, rfl, Out.pure rfl ⟨?_, rfl⟩ rfl⟩; rfl)
      · refine ACalls.body tok Try.func4 rfl (by kernel_rfl) (by rw [Try.ntmps4]; simp) ?_
        simp only [Try.ntmps4, Try.results4, argT]
        repeat' (first|refine AL.do tok rfl rfl ?_|refine AL.nil ?_|refine AW.seq fun K hK => ?_|refine AW.region ?_|refine AL.no rfl rfl ?_|(refine hK _ ?_; clear hK)|(clear hK; refine hK _ ?_; clear hK)|(clear hK; clear hK; refine hK _ ?_; clear hK)|refine qa7 qv1 ?_|refine qa7 qv2 ?_|refine qa7 qv3 ?_|refine qa7 (qv4 tok) ?_|refine qa7 (qv5 tok) ?_|refine qa7 qv6 ?_|refine qa7 qv7 ?_|refine qa7 (qv8 tok) ?_|refine qa7 (qv9 tok) ?_|refine qa7 (qv10 tok) ?_|refine qa7 (qv11 tok) ?_|refine qa7 (qv12 tok) ?_|refine qa7 (qv13 tok) ?_|refine qa7 (qv14 tok) ?_|refine qa7 (qv15 tok) ?_|refine qa7 (qv16 tok) ?_|refine qa7 qv17 ?_|refine qa7 (qv18 tok) ?_|refine qa7 qv19 ?_|refine qa7 (qv20 tok) ?_|refine qa7 (qv21 tok) ?_|refine qa7 (qv22 tok) ?_|refine qa1 tok ?_|refine qa2 tok ?_|refine qa3 tok ?_|refine AL.loadR tok rfl rfl rfl rfl rfl rfl ?_|refine qa4 tok ?_|refine qa5 tok ?_|refine AW.block ?_|refine AW.exit ?_|refine AW.skip ?_|refine qc1 (v1 ..) ?_|refine qc2 (v1 ..) ?_|refine qc1 (kc ..) ?_|refine qc2 (kc ..) ?_|refine qc1 (i1 ..) ?_|refine qc2 (i1 ..) ?_|refine qc1 (awake_calls ..) ?_|refine qc2 (awake_calls ..) ?_|((fail_if_success (refine AL.guard (b := true) rfl rfl ?_ ?_)); (fail_if_success (refine AL.guard (b := false) rfl rfl ?_ ?_)); refine AL.guard rfl rfl (fun hg => ?_) (fun hg => ?_) <;> ((try simp only [DX] at hg) <;> (try first|(exfalso; omega)|exact absurd trivial hg|exact False.elim hg|exact absurd rfl hg)))|refine AW.condT rfl ?_|refine AW.condF rfl ?_|(refine AW.cond rfl (fun hg => ?_) (fun hg => ?_) <;> ((try simp only [DX] at hg) <;> (try first|(exfalso; omega)|exact absurd trivial hg|exact False.elim hg|exact absurd rfl hg)))|refine AW.ret ?_)
        all_goals (refine ⟨_, _, _, _, rfl, Out.pure rfl ⟨?_, rfl⟩ rfl⟩; rfl)
    · have i1 := instant_f hn
      refine ACalls.body tok Try.func4 rfl (by kernel_rfl) (by rw [Try.ntmps4]; simp) ?_
      simp only [Try.ntmps4, Try.results4, argT]
      repeat' (first|refine AL.do tok rfl rfl ?_|refine AL.nil ?_|refine AW.seq fun K hK => ?_|refine AW.region ?_|refine AL.no rfl rfl ?_|(refine hK _ ?_; clear hK)|(clear hK; refine hK _ ?_; clear hK)|(clear hK; clear hK; refine hK _ ?_; clear hK)|refine qa7 qv1 ?_|refine qa7 qv2 ?_|refine qa7 qv3 ?_|refine qa7 (qv4 tok) ?_|refine qa7 (qv5 tok) ?_|refine qa7 qv6 ?_|refine qa7 qv7 ?_|refine qa7 (qv8 tok) ?_|refine qa7 (qv9 tok) ?_|refine qa7 (qv10 tok) ?_|refine qa7 (qv11 tok) ?_|refine qa7 (qv12 tok) ?_|refine qa7 (qv13 tok) ?_|refine qa7 (qv14 tok) ?_|refine qa7 (qv15 tok) ?_|refine qa7 (qv16 tok) ?_|refine qa7 qv17 ?_|refine qa7 (qv18 tok) ?_|refine qa7 qv19 ?_|refine qa7 (qv20 tok) ?_|refine qa7 (qv21 tok) ?_|refine qa7 (qv22 tok) ?_|refine qa1 tok ?_|refine qa2 tok ?_|refine qa3 tok ?_|refine AL.loadR tok rfl rfl rfl rfl rfl rfl ?_|refine qa4 tok ?_|refine qa5 tok ?_|refine AW.block ?_|refine AW.exit ?_|refine AW.skip ?_|refine qc1 (v1 ..) ?_|refine qc2 (v1 ..) ?_|refine qc1 (kc ..) ?_|refine qc2 (kc ..) ?_|refine qc1 (i1 ..) ?_|refine qc2 (i1 ..) ?_|refine qc1 (awake_calls ..) ?_|refine qc2 (awake_calls ..) ?_|((fail_if_success (refine AL.guard (b := true) rfl rfl ?_ ?_)); (fail_if_success (refine AL.guard (b := false) rfl rfl ?_ ?_)); refine AL.guard rfl rfl (fun hg => ?_) (fun hg => ?_) <;> ((try simp only [DX] at hg) <;> (try first|(exfalso; omega)|exact absurd trivial hg|exact False.elim hg|exact absurd rfl hg)))|refine AW.condT rfl ?_|refine AW.condF rfl ?_|(refine AW.cond rfl (fun hg => ?_) (fun hg => ?_) <;> ((try simp only [DX] at hg) <;> (try first|(exfalso; omega)|exact absurd trivial hg|exact False.elim hg|exact absurd rfl hg)))|refine AW.ret ?_)
      all_goals (refine ⟨_, _, _, _, rfl, Out.pure rfl ⟨?_, rfl⟩ rfl⟩; rfl)
  · have v1 := valid_f hv
    refine ACalls.body tok Try.func4 rfl (by kernel_rfl) (by rw [Try.ntmps4]; simp) ?_
    simp only [Try.ntmps4, Try.results4, argT]
    repeat' (first|refine AL.do tok rfl rfl ?_|refine AL.nil ?_|refine AW.seq fun K hK => ?_|refine AW.region ?_|refine AL.no rfl rfl ?_|(refine hK _ ?_; clear hK)|(clear hK; refine hK _ ?_; clear hK)|(clear hK; clear hK; refine hK _ ?_; clear hK)|refine qa7 qv1 ?_|refine qa7 qv2 ?_|refine qa7 qv3 ?_|refine qa7 (qv4 tok) ?_|refine qa7 (qv5 tok) ?_|refine qa7 qv6 ?_|refine qa7 qv7 ?_|refine qa7 (qv8 tok) ?_|refine qa7 (qv9 tok) ?_|refine qa7 (qv10 tok) ?_|refine qa7 (qv11 tok) ?_|refine qa7 (qv12 tok) ?_|refine qa7 (qv13 tok) ?_|refine qa7 (qv14 tok) ?_|refine qa7 (qv15 tok) ?_|refine qa7 (qv16 tok) ?_|refine qa7 qv17 ?_|refine qa7 (qv18 tok) ?_|refine qa7 qv19 ?_|refine qa7 (qv20 tok) ?_|refine qa7 (qv21 tok) ?_|refine qa7 (qv22 tok) ?_|refine qa1 tok ?_|refine qa2 tok ?_|refine qa3 tok ?_|refine AL.loadR tok rfl rfl rfl rfl rfl rfl ?_|refine qa4 tok ?_|refine qa5 tok ?_|refine AW.block ?_|refine AW.exit ?_|refine AW.skip ?_|refine qc1 (v1 ..) ?_|refine qc2 (v1 ..) ?_|refine qc1 (awake_calls ..) ?_|refine qc2 (awake_calls ..) ?_|((fail_if_success (refine AL.guard (b := true) rfl rfl ?_ ?_)); (fail_if_success (refine AL.guard (b := false) rfl rfl ?_ ?_)); refine AL.guard rfl rfl (fun hg => ?_) (fun hg => ?_) <;> ((try simp only [DX] at hg) <;> (try first|(exfalso; omega)|exact absurd trivial hg|exact False.elim hg|exact absurd rfl hg)))|refine AW.condT rfl ?_|refine AW.condF rfl ?_|(refine AW.cond rfl (fun hg => ?_) (fun hg => ?_) <;> ((try simp only [DX] at hg) <;> (try first|(exfalso; omega)|exact absurd trivial hg|exact False.elim hg|exact absurd rfl hg)))|refine AW.ret ?_)
    all_goals (refine ⟨_, _, _, _, rfl, Out.pure rfl ⟨?_, rfl⟩ rfl⟩; rfl)
set_option maxHeartbeats 8000000 in
set_option maxRecDepth 10000 in
theorem willCancels_law (x0 x1 : AV) (h0 : AT ts 31 x0) (h1 : AT ts 9 x1) : ACallP Try.prog 5 [x0, x1] (bo true) := by
  obtain ⟨l, rfl, hp, hl⟩ := at_D h0
  obtain ⟨q, rfl, _⟩ := at_str h1
  by_cases hv : l.length ≤ 60 ∧ VW l
  · have v1 := valid_t hv
    have k1 := cancel_calls l q (by omega) (fun d hd => (hp d hd).2)
    have k2 := refCancel_calls l q (by omega)
    rw [cancel_fil hv.2.2.2] at k1
    rw [← has_fil] at k2
    have hG : ∀ d ∈ filS l q, OkM d.msg := fun d hd => hp d (List.mem_filter.1 hd).1
    have hGl := filS_len l q
    have hout := fil_out l q
    have hVG := vw_fil hv.2 q
    generalize filS l q = G at *
    generalize hasS l q = b at *
    have k3 := cancel_calls G q (by omega) (fun d hd => (hG d hd).2)
    rw [cancel_fil hVG.2.2, has_fil, fil_none hout, decide_eq_false (Nat.lt_irrefl _)] at k3
    have k4 := same_t G
    refine ACalls.body tok Try.func5 rfl (by kernel_rfl) (by rw [Try.ntmps5]; simp) ?_
    simp only [Try.ntmps5, Try.results5, argT]
    repeat' (first|refine AL.do tok rfl rfl ?_|refine AL.nil ?_|refine AW.seq fun K hK => ?_|refine AW.region ?_|refine AL.no rfl rfl ?_|(refine hK _ ?_; clear hK)|(clear hK; refine hK _ ?_; clear hK)|(clear hK; clear hK; refine hK _ ?_; clear hK)|refine qa7 qv1 ?_|refine qa7 qv2 ?_|refine qa7 qv3 ?_|refine qa7 (qv4 tok) ?_|refine qa7 (qv5 tok) ?_|refine qa7 qv6 ?_|refine qa7 qv7 ?_|refine qa7 (qv8 tok) ?_|refine qa7 (qv9 tok) ?_|refine qa7 (qv10 tok) ?_|refine qa7 (qv11 tok) ?_|refine qa7 (qv12 tok) ?_|refine qa7 (qv13 tok) ?_|refine qa7 (qv14 tok) ?_|refine qa7 (qv15 tok) ?_|refine qa7 (qv16 tok) ?_|refine qa7 qv17 ?_|refine qa7 (qv18 tok) ?_|refine qa7 qv19 ?_|refine qa7 (qv20 tok) ?_|refine qa7 (qv21 tok) ?_|refine qa7 (qv22 tok) ?_|refine qa1 tok ?_|refine qa2 tok ?_|refine qa3 tok ?_|refine AL.loadR tok rfl rfl rfl rfl rfl rfl ?_|refine qa4 tok ?_|refine qa5 tok ?_|refine AW.block ?_|refine AW.exit ?_|refine AW.skip ?_|refine qc1 (v1 ..) ?_|refine qc2 (v1 ..) ?_|refine qc1 (k1 ..) ?_|refine qc2 (k1 ..) ?_|refine qc1 (k2 ..) ?_|refine qc2 (k2 ..) ?_|refine qc1 (k3 ..) ?_|refine qc2 (k3 ..) ?_|refine qc1 (k4 ..) ?_|refine qc2 (k4 ..) ?_|refine qc1 (awake_calls ..) ?_|refine qc2 (awake_calls ..) ?_|((fail_if_success (refine AL.guard (b := true) rfl rfl ?_ ?_)); (fail_if_success (refine AL.guard (b := false) rfl rfl ?_ ?_)); refine AL.guard rfl rfl (fun hg => ?_) (fun hg => ?_) <;> ((try simp only [DX] at hg) <;> (try first|(exfalso; omega)|exact absurd trivial hg|exact False.elim hg|exact absurd rfl hg)))|refine AW.condT rfl ?_|refine AW.condF rfl ?_|(refine AW.cond rfl (fun hg => ?_) (fun hg => ?_) <;> ((try simp only [DX] at hg) <;> (try first|(exfalso; omega)|exact absurd trivial hg|exact False.elim hg|exact absurd rfl hg)))|refine AW.ret ?_)
    all_goals (refine ⟨_, _, _, _, rfl, Out.pure rfl ⟨?_, rfl⟩ rfl⟩; simp)
  · have v1 := valid_f hv
    refine ACalls.body tok Try.func5 rfl (by kernel_rfl) (by rw [Try.ntmps5]; simp) ?_
    simp only [Try.ntmps5, Try.results5, argT]
    repeat' (first|refine AL.do tok rfl rfl ?_|refine AL.nil ?_|refine AW.seq fun K hK => ?_|refine AW.region ?_|refine AL.no rfl rfl ?_|(refine hK _ ?_; clear hK)|(clear hK; refine hK _ ?_; clear hK)|(clear hK; clear hK; refine hK _ ?_; clear hK)|refine qa7 qv1 ?_|refine qa7 qv2 ?_|refine qa7 qv3 ?_|refine qa7 (qv4 tok) ?_|refine qa7 (qv5 tok) ?_|refine qa7 qv6 ?_|refine qa7 qv7 ?_|refine qa7 (qv8 tok) ?_|refine qa7 (qv9 tok) ?_|refine qa7 (qv10 tok) ?_|refine qa7 (qv11 tok) ?_|refine qa7 (qv12 tok) ?_|refine qa7 (qv13 tok) ?_|refine qa7 (qv14 tok) ?_|refine qa7 (qv15 tok) ?_|refine qa7 (qv16 tok) ?_|refine qa7 qv17 ?_|refine qa7 (qv18 tok) ?_|refine qa7 qv19 ?_|refine qa7 (qv20 tok) ?_|refine qa7 (qv21 tok) ?_|refine qa7 (qv22 tok) ?_|refine qa1 tok ?_|refine qa2 tok ?_|refine qa3 tok ?_|refine AL.loadR tok rfl rfl rfl rfl rfl rfl ?_|refine qa4 tok ?_|refine qa5 tok ?_|refine AW.block ?_|refine AW.exit ?_|refine AW.skip ?_|refine qc1 (v1 ..) ?_|refine qc2 (v1 ..) ?_|refine qc1 (awake_calls ..) ?_|refine qc2 (awake_calls ..) ?_|((fail_if_success (refine AL.guard (b := true) rfl rfl ?_ ?_)); (fail_if_success (refine AL.guard (b := false) rfl rfl ?_ ?_)); refine AL.guard rfl rfl (fun hg => ?_) (fun hg => ?_) <;> ((try simp only [DX] at hg) <;> (try first|(exfalso; omega)|exact absurd trivial hg|exact False.elim hg|exact absurd rfl hg)))|refine AW.condT rfl ?_|refine AW.condF rfl ?_|(refine AW.cond rfl (fun hg => ?_) (fun hg => ?_) <;> ((try simp only [DX] at hg) <;> (try first|(exfalso; omega)|exact absurd trivial hg|exact False.elim hg|exact absurd rfl hg)))|refine AW.ret ?_)
    all_goals (refine ⟨_, _, _, _, rfl, Out.pure rfl ⟨?_, rfl⟩ rfl⟩; rfl)
set_option maxHeartbeats 8000000 in
set_option maxRecDepth 10000 in
theorem willTakes_law (x0 x1 : AV) (h0 : AT ts 31 x0) (h1 : AT ts 3 x1) : ACallP Try.prog 6 [x0, x1] (bo true) := by
  obtain ⟨l, rfl, hp, hl⟩ := at_D h0
  obtain ⟨now, rfl, hn1, hn2⟩ := at_int h1
  by_cases hv : l.length ≤ 60 ∧ VW l
  · have v1 := valid_t hv
    by_cases hn : 0 ≤ now ∧ now ≤ 1099511627776
    · have i1 := instant_t hn
      have k1 := take_calls l now (by omega) (fun d hd => (hp d hd).2)
      have k2 := refTake_calls l now
      have hhead : ∀ d r, l.drop (takeN l now) = d :: r → now < d.at_ := fun d r hd => by
        have hlt : takeN l now < l.length := by
          have := congrArg List.length hd
          rw [List.length_drop, List.length_cons] at this
          omega
        have h2 := tw_ge (p := fun d : Du => decide (d.at_ ≤ now)) (l := l) hlt
        rw [List.drop_eq_getElem_cons hlt] at hd
        injection hd with hd _
        rw [← hd]
        rw [decide_eq_false_iff_not] at h2
        have h3 : ¬ l[takeN l now].at_ ≤ now := h2
        omega
      generalize l.take (takeN l now) = A at *
      generalize l.drop (takeN l now) = B at *
      have k3 := same_t A
      have k4 := same_t B
      cases B with
      | nil =>
        have k5 := next_calls []
        refine ACalls.body tok Try.func6 rfl (by kernel_rfl) (by rw [Try.ntmps6]; simp) ?_
        simp only [Try.ntmps6, Try.results6, argT]
        repeat' (first|refine AL.do tok rfl rfl ?_|refine AL.nil ?_|refine AW.seq fun K hK => ?_|refine AW.region ?_|refine AL.no rfl rfl ?_|(refine hK _ ?_; clear hK)|(clear hK; refine hK _ ?_; clear hK)|(clear hK; clear hK; refine hK _ ?_; clear hK)|refine qa7 qv1 ?_|refine qa7 qv2 ?_|refine qa7 qv3 ?_|refine qa7 (qv4 tok) ?_|refine qa7 (qv5 tok) ?_|refine qa7 qv6 ?_|refine qa7 qv7 ?_|refine qa7 (qv8 tok) ?_|refine qa7 (qv9 tok) ?_|refine qa7 (qv10 tok) ?_|refine qa7 (qv11 tok) ?_|refine qa7 (qv12 tok) ?_|refine qa7 (qv13 tok) ?_|refine qa7 (qv14 tok) ?_|refine qa7 (qv15 tok) ?_|refine qa7 (qv16 tok) ?_|refine qa7 qv17 ?_|refine qa7 (qv18 tok) ?_|refine qa7 qv19 ?_|refine qa7 (qv20 tok) ?_|refine qa7 (qv21 tok) ?_|refine qa7 (qv22 tok) ?_|refine qa1 tok ?_|refine qa2 tok ?_|refine qa3 tok ?_|refine AL.loadR tok rfl rfl rfl rfl rfl rfl ?_|refine qa4 tok ?_|refine qa5 tok ?_|refine AW.block ?_|refine AW.exit ?_|refine AW.skip ?_|refine qc1 (v1 ..) ?_|refine qc2 (v1 ..) ?_|refine qc1 (i1 ..) ?_|refine qc2 (i1 ..) ?_|refine qc1 (k1 ..) ?_|refine qc2 (k1 ..) ?_|refine qc1 (k2 ..) ?_|refine qc2 (k2 ..) ?_|refine qc1 (k3 ..) ?_|refine qc2 (k3 ..) ?_|refine qc1 (k4 ..) ?_|refine qc2 (k4 ..) ?_|refine qc1 (k5 ..) ?_|refine qc2 (k5 ..) ?_|refine qc1 (awake_calls ..) ?_|refine qc2 (awake_calls ..) ?_|((fail_if_success (refine AL.guard (b := true) rfl rfl ?_ ?_)); (fail_if_success (refine AL.guard (b := false) rfl rfl ?_ ?_)); refine AL.guard rfl rfl (fun hg => ?_) (fun hg => ?_) <;> ((try simp only [DX] at hg) <;> (try first|(exfalso; omega)|exact absurd trivial hg|exact False.elim hg|exact absurd rfl hg)))|refine AW.condT rfl ?_|refine AW.condF rfl ?_|(refine AW.cond rfl (fun hg => ?_) (fun hg => ?_) <;> ((try simp only [DX] at hg) <;> (try first|(exfalso; omega)|exact absurd trivial hg|exact False.elim hg|exact absurd rfl hg)))|refine AW.ret ?_)
        all_goals (refine ⟨_, _, _, _, rfl, Out.pure rfl ⟨?_, rfl⟩ rfl⟩; rfl)
      | cons d r =>
        have k5 : ACallP Try.prog 23 [rowD (d :: r)] (.tup [i64 d.at_, bo true]) := by
          have := next_calls (d :: r)
          rw [decide_eq_true (by simp)] at this
          exact this
        have hlt := hhead d r rfl
        have hlm : ((d :: r).map encD).length = r.length + 1 := by simp
        refine ACalls.body tok Try.func6 rfl (by kernel_rfl) (by rw [Try.ntmps6]; simp) ?_
        simp only [Try.ntmps6, Try.results6, argT]
        repeat' (first|refine AL.do tok rfl rfl ?_|refine AL.nil ?_|refine AW.seq fun K hK => ?_|refine AW.region ?_|refine AL.no rfl rfl ?_|(refine hK _ ?_; clear hK)|(clear hK; refine hK _ ?_; clear hK)|(clear hK; clear hK; refine hK _ ?_; clear hK)|refine qa7 qv1 ?_|refine qa7 qv2 ?_|refine qa7 qv3 ?_|refine qa7 (qv4 tok) ?_|refine qa7 (qv5 tok) ?_|refine qa7 qv6 ?_|refine qa7 qv7 ?_|refine qa7 (qv8 tok) ?_|refine qa7 (qv9 tok) ?_|refine qa7 (qv10 tok) ?_|refine qa7 (qv11 tok) ?_|refine qa7 (qv12 tok) ?_|refine qa7 (qv13 tok) ?_|refine qa7 (qv14 tok) ?_|refine qa7 (qv15 tok) ?_|refine qa7 (qv16 tok) ?_|refine qa7 qv17 ?_|refine qa7 (qv18 tok) ?_|refine qa7 qv19 ?_|refine qa7 (qv20 tok) ?_|refine qa7 (qv21 tok) ?_|refine qa7 (qv22 tok) ?_|refine qa1 tok ?_|refine qa2 tok ?_|refine qa3 tok ?_|refine AL.loadR tok rfl rfl rfl rfl rfl rfl ?_|refine qa4 tok ?_|refine qa5 tok ?_|refine AW.block ?_|refine AW.exit ?_|refine AW.skip ?_|refine qc1 (v1 ..) ?_|refine qc2 (v1 ..) ?_|refine qc1 (i1 ..) ?_|refine qc2 (i1 ..) ?_|refine qc1 (k1 ..) ?_|refine qc2 (k1 ..) ?_|refine qc1 (k2 ..) ?_|refine qc2 (k2 ..) ?_|refine qc1 (k3 ..) ?_|refine qc2 (k3 ..) ?_|refine qc1 (k4 ..) ?_|refine qc2 (k4 ..) ?_|refine qc1 (k5 ..) ?_|refine qc2 (k5 ..) ?_|refine qc1 (awake_calls ..) ?_|refine qc2 (awake_calls ..) ?_|((fail_if_success (refine AL.guard (b := true) rfl rfl ?_ ?_)); (fail_if_success (refine AL.guard (b := false) rfl rfl ?_ ?_)); refine AL.guard rfl rfl (fun hg => ?_) (fun hg => ?_) <;> ((try simp only [DX] at hg) <;> (try first|(exfalso; omega)|exact absurd trivial hg|exact False.elim hg|exact absurd rfl hg)))|refine AW.condT rfl ?_|refine AW.condF rfl ?_|(refine AW.cond rfl (fun hg => ?_) (fun hg => ?_) <;> ((try simp only [DX] at hg) <;> (try first|(exfalso; omega)|exact absurd trivial hg|exact False.elim hg|exact absurd rfl hg)))|refine AW.ret ?_)
        all_goals (refine ⟨_, _, _, _, rfl, Out.pure rfl ⟨?_, rfl⟩ rfl⟩; first | rfl | (simp; done) | (exfalso; simp at hg; done) | (exfalso; refine hg ?_; rw [hlm]; simp; omega))
    · have i1 := instant_f hn
      refine ACalls.body tok Try.func6 rfl (by kernel_rfl) (by rw [Try.ntmps6]; simp) ?_
      simp only [Try.ntmps6, Try.results6, argT]
      repeat' (first|refine AL.do tok rfl rfl ?_|refine AL.nil ?_|refine AW.seq fun K hK => ?_|refine AW.region ?_|refine AL.no rfl rfl ?_|(refine hK _ ?_; clear hK)|(clear hK; refine hK _ ?_; clear hK)|(clear hK; clear hK; refine hK _ ?_; clear hK)|refine qa7 qv1 ?_|refine qa7 qv2 ?_|refine qa7 qv3 ?_|refine qa7 (qv4 tok) ?_|refine qa7 (qv5 tok) ?_|refine qa7 qv6 ?_|refine qa7 qv7 ?_|refine qa7 (qv8 tok) ?_|refine qa7 (qv9 tok) ?_|refine qa7 (qv10 tok) ?_|refine qa7 (qv11 tok) ?_|refine qa7 (qv12 tok) ?_|refine qa7 (qv13 tok) ?_|refine qa7 (qv14 tok) ?_|refine qa7 (qv15 tok) ?_|refine qa7 (qv16 tok) ?_|refine qa7 qv17 ?_|refine qa7 (qv18 tok) ?_|refine qa7 qv19 ?_|refine qa7 (qv20 tok) ?_|refine qa7 (qv21 tok) ?_|refine qa7 (qv22 tok) ?_|refine qa1 tok ?_|refine qa2 tok ?_|refine qa3 tok ?_|refine AL.loadR tok rfl rfl rfl rfl rfl rfl ?_|refine qa4 tok ?_|refine qa5 tok ?_|refine AW.block ?_|refine AW.exit ?_|refine AW.skip ?_|refine qc1 (v1 ..) ?_|refine qc2 (v1 ..) ?_|refine qc1 (i1 ..) ?_|refine qc2 (i1 ..) ?_|refine qc1 (awake_calls ..) ?_|refine qc2 (awake_calls ..) ?_|((fail_if_success (refine AL.guard (b := true) rfl rfl ?_ ?_)); (fail_if_success (refine AL.guard (b := false) rfl rfl ?_ ?_)); refine AL.guard rfl rfl (fun hg => ?_) (fun hg => ?_) <;> ((try simp only [DX] at hg) <;> (try first|(exfalso; omega)|exact absurd trivial hg|exact False.elim hg|exact absurd rfl hg)))|refine AW.condT rfl ?_|refine AW.condF rfl ?_|(refine AW.cond rfl (fun hg => ?_) (fun hg => ?_) <;> ((try simp only [DX] at hg) <;> (try first|(exfalso; omega)|exact absurd trivial hg|exact False.elim hg|exact absurd rfl hg)))|refine AW.ret ?_)
      all_goals (refine ⟨_, _, _, _, rfl, Out.pure rfl ⟨?_, rfl⟩ rfl⟩; rfl)
  · have v1 := valid_f hv
    refine ACalls.body tok Try.func6 rfl (by kernel_rfl) (by rw [Try.ntmps6]; simp) ?_
    simp only [Try.ntmps6, Try.results6, argT]
    repeat' (first|refine AL.do tok rfl rfl ?_|refine AL.nil ?_|refine AW.seq fun K hK => ?_|refine AW.region ?_|refine AL.no rfl rfl ?_|(refine hK _ ?_; clear hK)|(clear hK; refine hK _ ?_; clear hK)|(clear hK; clear hK; refine hK _ ?_; clear hK)|refine qa7 qv1 ?_|refine qa7 qv2 ?_|refine qa7 qv3 ?_|refine qa7 (qv4 tok) ?_|refine qa7 (qv5 tok) ?_|refine qa7 qv6 ?_|refine qa7 qv7 ?_|refine qa7 (qv8 tok) ?_|refine qa7 (qv9 tok) ?_|refine qa7 (qv10 tok) ?_|refine qa7 (qv11 tok) ?_|refine qa7 (qv12 tok) ?_|refine qa7 (qv13 tok) ?_|refine qa7 (qv14 tok) ?_|refine qa7 (qv15 tok) ?_|refine qa7 (qv16 tok) ?_|refine qa7 qv17 ?_|refine qa7 (qv18 tok) ?_|refine qa7 qv19 ?_|refine qa7 (qv20 tok) ?_|refine qa7 (qv21 tok) ?_|refine qa7 (qv22 tok) ?_|refine qa1 tok ?_|refine qa2 tok ?_|refine qa3 tok ?_|refine AL.loadR tok rfl rfl rfl rfl rfl rfl ?_|refine qa4 tok ?_|refine qa5 tok ?_|refine AW.block ?_|refine AW.exit ?_|refine AW.skip ?_|refine qc1 (v1 ..) ?_|refine qc2 (v1 ..) ?_|refine qc1 (awake_calls ..) ?_|refine qc2 (awake_calls ..) ?_|((fail_if_success (refine AL.guard (b := true) rfl rfl ?_ ?_)); (fail_if_success (refine AL.guard (b := false) rfl rfl ?_ ?_)); refine AL.guard rfl rfl (fun hg => ?_) (fun hg => ?_) <;> ((try simp only [DX] at hg) <;> (try first|(exfalso; omega)|exact absurd trivial hg|exact False.elim hg|exact absurd rfl hg)))|refine AW.condT rfl ?_|refine AW.condF rfl ?_|(refine AW.cond rfl (fun hg => ?_) (fun hg => ?_) <;> ((try simp only [DX] at hg) <;> (try first|(exfalso; omega)|exact absurd trivial hg|exact False.elim hg|exact absurd rfl hg)))|refine AW.ret ?_)
    all_goals (refine ⟨_, _, _, _, rfl, Out.pure rfl ⟨?_, rfl⟩ rfl⟩; rfl)
set_option maxHeartbeats 8000000 in
set_option maxRecDepth 10000 in
theorem willNext_law (x0 : AV) (h0 : AT ts 31 x0) : ACallP Try.prog 7 [x0] (bo true) := by
  obtain ⟨l, rfl, hp, hl⟩ := at_D h0
  by_cases hv : l.length ≤ 60 ∧ VW l
  · have v1 := valid_t hv
    have k1 := next_calls l
    have k2 := refNext_calls l
    generalize (match l with | [] => (0 : Int) | d :: _ => d.at_) = a at *
    generalize decide (0 < l.length) = b at *
    refine ACalls.body tok Try.func7 rfl (by kernel_rfl) (by rw [Try.ntmps7]; simp) ?_
    simp only [Try.ntmps7, Try.results7, argT]
    repeat' (first|refine AL.do tok rfl rfl ?_|refine AL.nil ?_|refine AW.seq fun K hK => ?_|refine AW.region ?_|refine AL.no rfl rfl ?_|(refine hK _ ?_; clear hK)|(clear hK; refine hK _ ?_; clear hK)|(clear hK; clear hK; refine hK _ ?_; clear hK)|refine qa7 qv1 ?_|refine qa7 qv2 ?_|refine qa7 qv3 ?_|refine qa7 (qv4 tok) ?_|refine qa7 (qv5 tok) ?_|refine qa7 qv6 ?_|refine qa7 qv7 ?_|refine qa7 (qv8 tok) ?_|refine qa7 (qv9 tok) ?_|refine qa7 (qv10 tok) ?_|refine qa7 (qv11 tok) ?_|refine qa7 (qv12 tok) ?_|refine qa7 (qv13 tok) ?_|refine qa7 (qv14 tok) ?_|refine qa7 (qv15 tok) ?_|refine qa7 (qv16 tok) ?_|refine qa7 qv17 ?_|refine qa7 (qv18 tok) ?_|refine qa7 qv19 ?_|refine qa7 (qv20 tok) ?_|refine qa7 (qv21 tok) ?_|refine qa7 (qv22 tok) ?_|refine qa1 tok ?_|refine qa2 tok ?_|refine qa3 tok ?_|refine AL.loadR tok rfl rfl rfl rfl rfl rfl ?_|refine qa4 tok ?_|refine qa5 tok ?_|refine AW.block ?_|refine AW.exit ?_|refine AW.skip ?_|refine qc1 (v1 ..) ?_|refine qc2 (v1 ..) ?_|refine qc1 (k1 ..) ?_|refine qc2 (k1 ..) ?_|refine qc1 (k2 ..) ?_|refine qc2 (k2 ..) ?_|refine qc1 (awake_calls ..) ?_|refine qc2 (awake_calls ..) ?_|((fail_if_success (refine AL.guard (b := true) rfl rfl ?_ ?_)); (fail_if_success (refine AL.guard (b := false) rfl rfl ?_ ?_)); refine AL.guard rfl rfl (fun hg => ?_) (fun hg => ?_) <;> ((try simp only [DX] at hg) <;> (try first|(exfalso; omega)|exact absurd trivial hg|exact False.elim hg|exact absurd rfl hg)))|refine AW.condT rfl ?_|refine AW.condF rfl ?_|(refine AW.cond rfl (fun hg => ?_) (fun hg => ?_) <;> ((try simp only [DX] at hg) <;> (try first|(exfalso; omega)|exact absurd trivial hg|exact False.elim hg|exact absurd rfl hg)))|refine AW.ret ?_)
    all_goals (refine ⟨_, _, _, _, rfl, Out.pure rfl ⟨?_, rfl⟩ rfl⟩; simp)
  · have v1 := valid_f hv
    refine ACalls.body tok Try.func7 rfl (by kernel_rfl) (by rw [Try.ntmps7]; simp) ?_
    simp only [Try.ntmps7, Try.results7, argT]
    repeat' (first|refine AL.do tok rfl rfl ?_|refine AL.nil ?_|refine AW.seq fun K hK => ?_|refine AW.region ?_|refine AL.no rfl rfl ?_|(refine hK _ ?_; clear hK)|(clear hK; refine hK _ ?_; clear hK)|(clear hK; clear hK; refine hK _ ?_; clear hK)|refine qa7 qv1 ?_|refine qa7 qv2 ?_|refine qa7 qv3 ?_|refine qa7 (qv4 tok) ?_|refine qa7 (qv5 tok) ?_|refine qa7 qv6 ?_|refine qa7 qv7 ?_|refine qa7 (qv8 tok) ?_|refine qa7 (qv9 tok) ?_|refine qa7 (qv10 tok) ?_|refine qa7 (qv11 tok) ?_|refine qa7 (qv12 tok) ?_|refine qa7 (qv13 tok) ?_|refine qa7 (qv14 tok) ?_|refine qa7 (qv15 tok) ?_|refine qa7 (qv16 tok) ?_|refine qa7 qv17 ?_|refine qa7 (qv18 tok) ?_|refine qa7 qv19 ?_|refine qa7 (qv20 tok) ?_|refine qa7 (qv21 tok) ?_|refine qa7 (qv22 tok) ?_|refine qa1 tok ?_|refine qa2 tok ?_|refine qa3 tok ?_|refine AL.loadR tok rfl rfl rfl rfl rfl rfl ?_|refine qa4 tok ?_|refine qa5 tok ?_|refine AW.block ?_|refine AW.exit ?_|refine AW.skip ?_|refine qc1 (v1 ..) ?_|refine qc2 (v1 ..) ?_|refine qc1 (awake_calls ..) ?_|refine qc2 (awake_calls ..) ?_|((fail_if_success (refine AL.guard (b := true) rfl rfl ?_ ?_)); (fail_if_success (refine AL.guard (b := false) rfl rfl ?_ ?_)); refine AL.guard rfl rfl (fun hg => ?_) (fun hg => ?_) <;> ((try simp only [DX] at hg) <;> (try first|(exfalso; omega)|exact absurd trivial hg|exact False.elim hg|exact absurd rfl hg)))|refine AW.condT rfl ?_|refine AW.condF rfl ?_|(refine AW.cond rfl (fun hg => ?_) (fun hg => ?_) <;> ((try simp only [DX] at hg) <;> (try first|(exfalso; omega)|exact absurd trivial hg|exact False.elim hg|exact absurd rfl hg)))|refine AW.ret ?_)
    all_goals (refine ⟨_, _, _, _, rfl, Out.pure rfl ⟨?_, rfl⟩ rfl⟩; rfl)
end Go.Proofs.Try
