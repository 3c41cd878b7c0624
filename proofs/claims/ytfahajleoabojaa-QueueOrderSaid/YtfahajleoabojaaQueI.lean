/- queue: the chapter's example; what arguments are; one call. -/
import Derived.Test.YtfahajleoabojaaQueH
import Derived.Test.YtfahajleoabojaaAMD
set_option linter.unusedSimpArgs false
set_option linter.unusedVariables false
namespace Go.Proofs.Try
open Go Go.AM

theorem dt_Pr {ds : List D} (h : DT ts 82 ds) : ∃ p, ds = encP p ∧ True := by
  obtain ⟨hl, hf⟩ := DT.strct_inv rfl h
  match ds, hl with
  | [a, b], _ =>
    obtain ⟨n0, e0, _⟩ := DT.str_inv rfl (hf 0 _ _ _ rfl rfl rfl)
    obtain ⟨n1, e1, _⟩ := DT.str_inv rfl (hf 1 _ _ _ rfl rfl rfl)
    simp at e0 e1
    exact ⟨⟨n0, n1⟩, by simp [encP, e0, e1], trivial⟩
theorem dt_M {ds : List D} (h : DT ts 39 ds) : ∃ m, ds = encM m ∧ OkM m := by
  obtain ⟨hl, hf⟩ := DT.strct_inv rfl h
  match ds, hl with
  | [a, b, c, d, e, f, g, i, j], _ =>
    obtain ⟨n0, e0, h0⟩ := DT.str_invB rfl (hf 0 _ _ _ rfl rfl rfl)
    obtain ⟨n1, e1, _⟩ := DT.str_inv rfl (hf 1 _ _ _ rfl rfl rfl)
    obtain ⟨n2, e2, _⟩ := DT.int_inv rfl (hf 2 _ _ _ rfl rfl rfl)
    obtain ⟨n3, e3⟩ := DT.bool_inv rfl (hf 3 _ _ _ rfl rfl rfl)
    obtain ⟨n4, e4, _⟩ := DT.int_inv rfl (hf 4 _ _ _ rfl rfl rfl)
    obtain ⟨n5, e5, _⟩ := DT.int_inv rfl (hf 5 _ _ _ rfl rfl rfl)
    obtain ⟨n6, e6, _⟩ := DT.str_inv rfl (hf 6 _ _ _ rfl rfl rfl)
    obtain ⟨n7, e7, _⟩ := DT.int_inv rfl (hf 7 _ _ _ rfl rfl rfl)
    obtain ⟨xs, e8, hx, hd⟩ := DT.slice_invB rfl rfl (hf 8 _ _ _ rfl rfl rfl)
    obtain ⟨l, rfl, _⟩ := list_decode xs (fun x hx' => dt_Pr (hd x hx'))
    simp at e0 e1 e2 e3 e4 e5 e6 e7 e8
    rw [List.length_map] at hx
    exact ⟨⟨n0, n1, n2, n3, n4, n5, n6, n7, l⟩, by simp [encM, e0, e1, e2, e3, e4, e5, e6, e7, e8], h0, (by have hx2 : l.length * 32 ≤ 140737488351232 := hx; show l.length ≤ 4398046510976; omega)⟩
theorem dt_E {ds : List D} (h : DT ts 41 ds) : ∃ e, ds = encE e ∧ OkM e.msg := by
  obtain ⟨hl, hf⟩ := DT.strct_inv rfl h
  match ds, hl with
  | [a, b, c, m0, m1, m2, m3, m4, m5, m6, m7, m8], _ =>
    obtain ⟨n0, e0, _⟩ := DT.int_inv rfl (hf 0 _ _ _ rfl rfl rfl)
    obtain ⟨n1, e1, _⟩ := DT.int_inv rfl (hf 1 _ _ _ rfl rfl rfl)
    obtain ⟨n2, e2, _⟩ := DT.int_inv rfl (hf 2 _ _ _ rfl rfl rfl)
    obtain ⟨m, e3, hm⟩ := dt_M (hf 3 _ _ _ rfl rfl rfl)
    simp [encM] at e0 e1 e2 e3
    exact ⟨⟨n0, n1, n2, m⟩, by simp [encE, e0, e1, e2, e3], hm⟩
theorem dt_S {ds : List D} (h : DT ts 23 ds) : ∃ s : Sp, ds = [.one (.string s.name), .one (.int .i64 s.max), .one (.int .i64 s.ttl), .one (.int .i64 s.att), .one (.string s.dead)] := by
  obtain ⟨hl, hf⟩ := DT.strct_inv rfl h
  match ds, hl with
  | [a, b, c, d, e], _ =>
    obtain ⟨n0, e0, _⟩ := DT.str_inv rfl (hf 0 _ _ _ rfl rfl rfl)
    obtain ⟨n1, e1, _⟩ := DT.int_inv rfl (hf 1 _ _ _ rfl rfl rfl)
    obtain ⟨n2, e2, _⟩ := DT.int_inv rfl (hf 2 _ _ _ rfl rfl rfl)
    obtain ⟨n3, e3, _⟩ := DT.int_inv rfl (hf 3 _ _ _ rfl rfl rfl)
    obtain ⟨n4, e4, _⟩ := DT.str_inv rfl (hf 4 _ _ _ rfl rfl rfl)
    simp at e0 e1 e2 e3 e4
    exact ⟨⟨n0, n1, n2, n3, n4⟩, by simp [e0, e1, e2, e3, e4]⟩
theorem at_S {x : AV} (h : AT ts 23 x) : ∃ s, x = aggS s := by
  obtain ⟨ds, rfl, hd⟩ := h
  obtain ⟨s, rfl⟩ := dt_S hd
  exact ⟨s, rfl⟩
theorem at_Q {x : AV} (h : AT ts 26 x) : ∃ q, x = aggQ q ∧ OkQ q := by
  obtain ⟨ds, rfl, hd⟩ := h
  obtain ⟨hl, hf⟩ := DT.strct_inv rfl hd
  match ds, hl with
  | [a, b, c, d, e, f, g], _ =>
    obtain ⟨s, e0⟩ := dt_S (hf 0 _ _ _ rfl rfl rfl)
    obtain ⟨n1, e1, _⟩ := DT.int_inv rfl (hf 1 _ _ _ rfl rfl rfl)
    obtain ⟨xs, e2, hx, hd⟩ := DT.slice_inv rfl (hf 2 _ _ _ rfl rfl rfl)
    obtain ⟨l, rfl, hp⟩ := list_decode xs (fun x hx' => dt_E (hd x hx'))
    simp at e0 e1 e2
    obtain ⟨g0, g1, g2, g3, g4⟩ := e0
    subst g0; subst g1; subst g2; subst g3; subst g4; subst e1; subst e2
    exact ⟨⟨s, n1, l⟩, rfl, hp⟩
theorem at_int {x : AV} (h : AT ts 3 x) : ∃ n, x = i64 n ∧ -9223372036854775808 ≤ n ∧ n ≤ 9223372036854775807 := by
  obtain ⟨y, rfl, hd⟩ := h
  obtain ⟨n, e, hn⟩ := DT.int_inv rfl hd
  cases e
  simp only [Lit.wf, Bool.and_eq_true, decide_eq_true_eq] at hn
  exact ⟨n, rfl, hn⟩
structure OpQ where
  kind : Int
  now : Int
  n : Int
  m : Ms
  e : En
def encO (o : OpQ) : List D := [.one (.int .i64 o.kind), .one (.int .i64 o.now), .one (.int .i64 o.n), .one (.string o.m.topic), .one (.string o.m.payload), .one (.int .i64 o.m.level), .one (.bool o.m.retain), .one (.int .i64 o.m.prio), .one (.int .i64 o.m.expires), .one (.string o.m.sender), .one (.int .i64 o.m.seq), .row (o.m.props.map encP), .one (.int .i64 o.e.num), .one (.int .i64 o.e.arr), .one (.int .i64 o.e.att), .one (.string o.e.msg.topic), .one (.string o.e.msg.payload), .one (.int .i64 o.e.msg.level), .one (.bool o.e.msg.retain), .one (.int .i64 o.e.msg.prio), .one (.int .i64 o.e.msg.expires), .one (.string o.e.msg.sender), .one (.int .i64 o.e.msg.seq), .row (o.e.msg.props.map encP)]
abbrev rowO (l : List OpQ) : AV := .d (.row (l.map encO))
abbrev cellsO (o : OpQ) : List AV := [i64 o.kind, i64 o.now, i64 o.n, st o.m.topic, st o.m.payload, i64 o.m.level, bo o.m.retain, i64 o.m.prio, i64 o.m.expires, st o.m.sender, i64 o.m.seq, rowP o.m.props, i64 o.e.num, i64 o.e.arr, i64 o.e.att, st o.e.msg.topic, st o.e.msg.payload, i64 o.e.msg.level, bo o.e.msg.retain, i64 o.e.msg.prio, i64 o.e.msg.expires, st o.e.msg.sender, i64 o.e.msg.seq, rowP o.e.msg.props]
abbrev aggO (o : OpQ) : AV := .agg (cellsO o)
def OkO (o : OpQ) : Prop := OkM o.m ∧ OkM o.e.msg
theorem dt_O {ds : List D} (h : DT ts 43 ds) : ∃ o, ds = encO o ∧ OkO o := by
  obtain ⟨hl, hf⟩ := DT.strct_inv rfl h
  match ds, hl with
  | [a, b, c, m0, m1, m2, m3, m4, m5, m6, m7, m8, x, y, z, n0, n1, n2, n3, n4, n5, n6, n7, n8], _ =>
    obtain ⟨k0, e0, _⟩ := DT.int_inv rfl (hf 0 _ _ _ rfl rfl rfl)
    obtain ⟨k1, e1, _⟩ := DT.int_inv rfl (hf 1 _ _ _ rfl rfl rfl)
    obtain ⟨k2, e2, _⟩ := DT.int_inv rfl (hf 2 _ _ _ rfl rfl rfl)
    obtain ⟨m, e3, hm⟩ := dt_M (hf 3 _ _ _ rfl rfl rfl)
    obtain ⟨e, e4, he⟩ := dt_E (hf 4 _ _ _ rfl rfl rfl)
    simp [encM, encE] at e0 e1 e2 e3 e4
    exact ⟨⟨k0, k1, k2, m, e⟩, by simp [encO, e0, e1, e2, e3, e4], hm, he⟩
theorem at_O1 {x : AV} (h : AT ts 43 x) : ∃ o, x = aggO o ∧ OkO o := by
  obtain ⟨ds, rfl, hd⟩ := h
  obtain ⟨o, rfl, ho⟩ := dt_O hd
  exact ⟨o, rfl, ho⟩
theorem at_O {x : AV} (h : AT ts 36 x) : ∃ l : List OpQ, x = rowO l ∧ (∀ o ∈ l, OkO o) ∧ l.length ≤ 9223372036854775807 := by
  obtain ⟨y, rfl, hd⟩ := h
  obtain ⟨xs, e, hl, hx⟩ := DT.slice_inv rfl hd
  cases e
  obtain ⟨l, rfl, hp⟩ := list_decode xs (fun x hx' => dt_O (hx x hx'))
  exact ⟨l, rfl, hp, by rw [List.length_map] at hl; exact hl⟩
def exM (p : Int) : Ms := ⟨⟨#[116]⟩, ⟨#[]⟩, 0, false, p, 0, ⟨#[]⟩, 0, []⟩
theorem okEx (p : Int) : OkM (exM p) := ⟨show (⟨#[116]⟩ : ByteArray).size ≤ 140737488351232 by decide, show ([] : List Pr).length ≤ 4398046510976 by decide⟩
set_option maxHeartbeats 4000000 in
set_option maxRecDepth 10000 in
theorem message_pr (p : Int) : ACallPR Try.prog 26 [i64 p] fun r' => nd3 r' = aggM (exM p) := by
  refine ACalls.body tok Try.func26 rfl (by kernel_rfl) (by rw [Try.ntmps26]; simp) ?_
  simp only [Try.ntmps26, Try.results26, argT]
  repeat' (first|refine AL.do tok rfl rfl ?_|refine AL.nil ?_|refine AW.seq fun K hK => ?_|refine AW.region ?_|refine AL.no rfl rfl ?_|(refine hK _ ?_; clear hK)|(clear hK; refine hK _ ?_; clear hK)|(clear hK; clear hK; refine hK _ ?_; clear hK)|refine qa7 qv1 ?_|refine qa7 qv2 ?_|refine qa7 qv3 ?_|refine qa7 (qv4 tok) ?_|refine qa7 (qv5 tok) ?_|refine qa7 qv6 ?_|refine qa7 qv7 ?_|refine qa7 (qv8 tok) ?_|refine qa7 (qv9 tok) ?_|refine qa7 (qv10 tok) ?_|refine qa7 (qv11 tok) ?_|refine qa7 (qv12 tok) ?_|refine qa7 (qv13 tok) ?_|refine qa7 (qv14 tok) ?_|refine qa7 (qv15 tok) ?_|refine qa7 (qv16 tok) ?_|refine qa7 qv17 ?_|refine qa7 (qv18 tok) ?_|refine qa7 qv19 ?_|refine qa7 (qv20 tok) ?_|refine qa7 (qv21 tok) ?_|refine qa7 (qv22 tok) ?_|refine qa7 (qv23 tok) ?_|refine qa7 (qv24 tok) ?_|refine qa7 qv26 ?_|refine qa7 qv27 ?_|refine qa7 (qv28 tok) ?_|refine qa7 (qv29 tok) ?_|refine qa1 tok ?_|refine qa2 tok ?_|refine qa3 tok ?_|refine AL.loadR tok rfl rfl rfl rfl rfl rfl ?_|refine qa4 tok ?_|refine qa5 tok ?_|refine AW.block ?_|refine AW.exit ?_|refine AW.skip ?_|((fail_if_success (refine AL.guard (b := true) rfl rfl ?_ ?_)); (fail_if_success (refine AL.guard (b := false) rfl rfl ?_ ?_)); refine AL.guard rfl rfl (fun hg => ?_) (fun hg => ?_) <;> ((try simp only [DX] at hg) <;> (try first|(exfalso; omega)|exact absurd trivial hg|exact False.elim hg|exact absurd rfl hg)))|refine AW.condT rfl ?_|refine AW.condF rfl ?_|(refine AW.cond rfl (fun hg => ?_) (fun hg => ?_) <;> ((try simp only [DX] at hg) <;> (try first|(exfalso; omega)|exact absurd trivial hg|exact False.elim hg|exact absurd rfl hg)))|refine AW.ret ?_)
  all_goals (refine ⟨_, _, _, _, rfl, Out.pure rfl ⟨?_, rfl⟩ rfl⟩; rfl)
theorem message_calls (p : Int) : ACallP Try.prog 26 [i64 p] (aggM (exM p)) := (message_pr p).nilR
def exS : Sp := ⟨⟨#[113]⟩, 2, 10, 0, ⟨#[]⟩⟩
def ex0 : Qu := ⟨exS, 1, []⟩
def ex1 : Qu := ⟨exS, 2, [⟨1, 5, 0, exM 0⟩]⟩
def ex2 : Qu := ⟨exS, 3, [⟨2, 5, 0, exM 4⟩, ⟨1, 5, 0, exM 0⟩]⟩
def ex3 : Qu := ⟨exS, 3, [⟨1, 5, 0, exM 0⟩]⟩
def ex4 : Qu := ⟨exS, 3, []⟩
set_option maxHeartbeats 16000000 in
set_option maxRecDepth 10000 in
theorem example_calls : ACallP Try.prog 15 [] (bo true) := by
  have g0 : GoodQ ex0 := goodQ_iff.1 (by decide +kernel)
  have g1 : GoodQ ex1 := goodQ_iff.1 (by decide +kernel)
  have g2 : GoodQ ex2 := goodQ_iff.1 (by decide +kernel)
  have g3 : GoodQ ex3 := goodQ_iff.1 (by decide +kernel)
  have o0 : OkQ ex0 := fun e he => by simp [ex0] at he
  have o1 : OkQ ex1 := fun e he => by simp only [ex1, List.mem_cons, List.not_mem_nil, or_false] at he; subst he; exact okEx 0
  have o3 : OkQ ex3 := fun e he => by simp only [ex3, List.mem_cons, List.not_mem_nil, or_false] at he; subst he; exact okEx 0
  have o2 : OkQ ex2 := fun e he => by
    simp only [ex2, List.mem_cons, List.not_mem_nil, or_false] at he
    rcases he with rfl | rfl
    · exact okEx 4
    · exact okEx 0
  have n1 : ACallP Try.prog 10 [aggS exS] (.tup [aggQ ex0, i64 0]) := by
    have h := new_calls exS
    rwa [show newQ exS = (ex0, 0) by decide +kernel] at h
  have p1 : ACallP Try.prog 20 [aggQ ex0, aggM (exM 0), i64 5] (.tup [aggQ ex1, i64 0]) := by
    have h := push_calls ex0 (exM 0) 5 (g0.inq o0) (okEx 0)
    rwa [show pushS ex0 (exM 0) 5 = (ex1, 0) by decide +kernel] at h
  have p2 : ACallP Try.prog 20 [aggQ ex1, aggM (exM 4), i64 5] (.tup [aggQ ex2, i64 0]) := by
    have h := push_calls ex1 (exM 4) 5 (g1.inq o1) (okEx 4)
    rwa [show pushS ex1 (exM 4) 5 = (ex2, 0) by decide +kernel] at h
  have p3 : ACallP Try.prog 20 [aggQ ex2, aggM (exM 9), i64 5] (.tup [aggQ zeroQ, i64 6]) := by
    have h := push_calls ex2 (exM 9) 5 (g2.inq o2) (okEx 9)
    rwa [show pushS ex2 (exM 9) 5 = (zeroQ, 6) by decide +kernel] at h
  have q1 : ACallP Try.prog 23 [aggQ ex2] (.tup [aggE ⟨2, 5, 0, exM 4⟩, aggQ ex3, bo true]) := pop_calls ex2 (by decide) o2
  have r1 : ACallP Try.prog 21 [aggQ ex3, aggE ⟨2, 5, 0, exM 4⟩] (.tup [aggQ ex2, i64 0]) := by
    have h := return_calls ex3 ⟨2, 5, 0, exM 4⟩ (g3.inq o3) (okEx 4)
    rwa [show retS ex3 ⟨2, 5, 0, exM 4⟩ = (ex2, 0) by decide +kernel] at h
  have r2 : ACallP Try.prog 21 [aggQ ex2, aggE ⟨2, 5, 0, exM 4⟩] (.tup [aggQ zeroQ, i64 7]) := by
    have h := return_calls ex2 ⟨2, 5, 0, exM 4⟩ (g2.inq o2) (okEx 4)
    rwa [show retS ex2 ⟨2, 5, 0, exM 4⟩ = (zeroQ, 7) by decide +kernel] at h
  have e1 : ACallP Try.prog 22 [aggQ ex2, i64 15] (.tup [rowE ex2.ready, aggQ ex4]) := by
    have h := expire_calls ex2 15 (g2.inq o2)
    rwa [show expireS ex2 15 = (ex2.ready, ex4) by decide +kernel] at h
  have e2 : ACallP Try.prog 22 [aggQ ex2, i64 14] (.tup [rowE [], aggQ ex2]) := by
    have h := expire_calls ex2 14 (g2.inq o2)
    rwa [show expireS ex2 14 = ([], ex2) by decide +kernel] at h
  have s1 := sameQ_t ex2
  have v1 : ACallP Try.prog 16 [aggQ ex2] (i64 0) := by
    have h := valid_calls ex2 o2
    rwa [goodQ_iff.2 g2] at h
  have m0 := message_calls 0
  have m4 := message_calls 4
  have m9 := message_calls 9
  refine ACalls.body tok Try.func15 rfl (by kernel_rfl) (by rw [Try.ntmps15]; simp) ?_
  simp only [Try.ntmps15, Try.results15, argT]
  repeat (first|refine AL.do tok rfl rfl ?_|refine AL.nil ?_|refine AW.seq fun K hK => ?_|refine AW.region ?_|refine AL.no rfl rfl ?_|(refine hK _ ?_; clear hK)|(clear hK; refine hK _ ?_; clear hK)|(clear hK; clear hK; refine hK _ ?_; clear hK)|refine qa7 qv1 ?_|refine qa7 qv2 ?_|refine qa7 qv3 ?_|refine qa7 (qv4 tok) ?_|refine qa7 (qv5 tok) ?_|refine qa7 qv6 ?_|refine qa7 qv7 ?_|refine qa7 (qv8 tok) ?_|refine qa7 (qv9 tok) ?_|refine qa7 (qv10 tok) ?_|refine qa7 (qv11 tok) ?_|refine qa7 (qv12 tok) ?_|refine qa7 (qv13 tok) ?_|refine qa7 (qv14 tok) ?_|refine qa7 (qv15 tok) ?_|refine qa7 (qv16 tok) ?_|refine qa7 qv17 ?_|refine qa7 (qv18 tok) ?_|refine qa7 qv19 ?_|refine qa7 (qv20 tok) ?_|refine qa7 (qv21 tok) ?_|refine qa7 (qv22 tok) ?_|refine qa7 (qv23 tok) ?_|refine qa7 (qv24 tok) ?_|refine qa7 qv26 ?_|refine qa7 qv27 ?_|refine qa7 (qv28 tok) ?_|refine qa7 (qv29 tok) ?_|refine qa1 tok ?_|refine qa2 tok ?_|refine qa3 tok ?_|refine AL.loadR tok rfl rfl rfl rfl rfl rfl ?_|refine qa4 tok ?_|refine qa5 tok ?_|refine AW.block ?_|refine AW.exit ?_|refine AW.skip ?_|refine qc1 (n1 ..) ?_|refine qc2 (n1 ..) ?_)
  refine AW.anyN mix [[], [], [0, 1], [0, 1, 2], [0, 1, 2, 3], [0, 1, 2, 3], [0, 1, 2, 3, 4], [0, 1, 2, 3, 4, 5, 6]] [[25], [24], [], [], [28], [27], [28], []] [[], [], [], [], [], [0], [], []] [(6, 0)] 1 9 rfl (by rfl) (by decide +kernel) rfl (by first|assumption|(intro b hb; cases hb)) ?_ <;> repeat' (first|refine AR.step rfl rfl (by first|exact OSp.do tok rfl rfl rfl|exact OSp.no rfl rfl|exact OSp.noN rfl|exact OSp.v rfl rfl qv1|exact OSp.v rfl rfl qv2|exact OSp.v rfl rfl qv3|exact OSp.v rfl rfl (qv4 tok)|exact OSp.v rfl rfl (qv5 tok)|exact OSp.v rfl rfl qv6|exact OSp.v rfl rfl qv7|exact OSp.v rfl rfl (qv8 tok)|exact OSp.v rfl rfl (qv9 tok)|exact OSp.v rfl rfl (qv10 tok)|exact OSp.v rfl rfl (qv11 tok)|exact OSp.v rfl rfl (qv12 tok)|exact OSp.v rfl rfl (qv13 tok)|exact OSp.v rfl rfl (qv14 tok)|exact OSp.v rfl rfl (qv15 tok)|exact OSp.v rfl rfl (qv16 tok)|exact OSp.v rfl rfl qv17|exact OSp.v rfl rfl (qv18 tok)|exact OSp.v rfl rfl qv19|exact OSp.v rfl rfl (qv20 tok)|exact OSp.v rfl rfl (qv21 tok)|exact OSp.v rfl rfl (qv22 tok)|exact OSp.v rfl rfl (qv23 tok)|exact OSp.v rfl rfl (qv24 tok)|exact OSp.v rfl rfl qv26|exact OSp.v rfl rfl qv27|exact OSp.v rfl rfl (qv28 tok)|exact OSp.v rfl rfl (qv29 tok)|exact OSp.copy tok rfl rfl rfl rfl rfl rfl rfl (by (first | (intro x hx; obtain ⟨_, _, rfl⟩ := List.mem_map.1 hx; rfl) | (intro x hx; replace hx := List.mem_of_mem_take (List.mem_of_mem_drop hx); obtain ⟨_, _, rfl⟩ := List.mem_map.1 hx; rfl) | (simp; done))) rfl rfl rfl rfl|exact OSp.buildSlice tok rfl rfl rfl rfl rfl rfl rfl rfl|exact OSp.append tok rfl rfl rfl rfl rfl rfl rfl rfl rfl rfl rfl (by first|(intro x hx; obtain ⟨_, _, rfl⟩ := List.mem_map.1 hx; rfl)|(simp; done)) (by simp; omega) (by simp; omega)|exact OSp.alloc tok rfl rfl rfl rfl|exact OSp.box tok rfl rfl rfl rfl rfl|exact OSp.boxC tok rfl rfl rfl rfl rfl|exact OSp.store tok rfl rfl rfl rfl rfl rfl rfl rfl|exact OSp.appIn tok rfl rfl rfl rfl rfl (by first|assumption|(intro e; have := congrArg List.length e; simp at this; omega)) rfl rfl (by (first | (intro x hx; obtain ⟨_, _, rfl⟩ := List.mem_map.1 hx; rfl) | (intro x hx; replace hx := List.mem_of_mem_take (List.mem_of_mem_drop hx); obtain ⟨_, _, rfl⟩ := List.mem_map.1 hx; rfl) | (simp; done))) rfl rfl rfl rfl (by first|omega|(simp; omega))|exact OSp.copyX tok rfl rfl rfl rfl rfl rfl rfl rfl (by first|omega|(simp; omega)) (by first|omega|(simp; omega)) (by first|omega|(simp; omega)) (by first|omega|(simp; omega)) (by first|omega|(simp; omega))|exact OSp.callS rfl rfl rfl rfl rfl rfl (m0 ..) rfl|exact OSp.callP rfl rfl rfl rfl rfl (m0 ..)|exact OSp.callO rfl rfl rfl rfl rfl (m0 ..)|exact OSp.callO rfl rfl rfl rfl rfl m0|exact OSp.callS rfl rfl rfl rfl rfl rfl (p1 ..) rfl|exact OSp.callP rfl rfl rfl rfl rfl (p1 ..)|exact OSp.callO rfl rfl rfl rfl rfl (p1 ..)|exact OSp.callO rfl rfl rfl rfl rfl p1|exact OSp.callG2 rfl rfl rfl rfl (m0 ..) rfl rfl rfl rfl rfl|exact OSp.callG2 rfl rfl rfl rfl (p1 ..) rfl rfl rfl rfl rfl) (by rfl) (by rfl) ?_|refine AR.done rfl rfl ?_|(refine AR.guard rfl rfl rfl rfl (fun hg => ?_) (fun hg => ?_) <;> ((try simp only [DX] at hg) <;> (try first|(exfalso; omega)|exact absurd trivial hg|exact False.elim hg|exact absurd rfl hg))))
  repeat (first|refine AL.do tok rfl rfl ?_|refine AL.nil ?_|refine AW.seq fun K hK => ?_|refine AW.region ?_|refine AL.no rfl rfl ?_|(refine hK _ ?_; clear hK)|(clear hK; refine hK _ ?_; clear hK)|(clear hK; clear hK; refine hK _ ?_; clear hK)|refine qa7 qv1 ?_|refine qa7 qv2 ?_|refine qa7 qv3 ?_|refine qa7 (qv4 tok) ?_|refine qa7 (qv5 tok) ?_|refine qa7 qv6 ?_|refine qa7 qv7 ?_|refine qa7 (qv8 tok) ?_|refine qa7 (qv9 tok) ?_|refine qa7 (qv10 tok) ?_|refine qa7 (qv11 tok) ?_|refine qa7 (qv12 tok) ?_|refine qa7 (qv13 tok) ?_|refine qa7 (qv14 tok) ?_|refine qa7 (qv15 tok) ?_|refine qa7 (qv16 tok) ?_|refine qa7 qv17 ?_|refine qa7 (qv18 tok) ?_|refine qa7 qv19 ?_|refine qa7 (qv20 tok) ?_|refine qa7 (qv21 tok) ?_|refine qa7 (qv22 tok) ?_|refine qa7 (qv23 tok) ?_|refine qa7 (qv24 tok) ?_|refine qa7 qv26 ?_|refine qa7 qv27 ?_|refine qa7 (qv28 tok) ?_|refine qa7 (qv29 tok) ?_|refine qa1 tok ?_|refine qa2 tok ?_|refine qa3 tok ?_|refine AL.loadR tok rfl rfl rfl rfl rfl rfl ?_|refine qa4 tok ?_|refine qa5 tok ?_|refine AW.block ?_|refine AW.exit ?_|refine AW.skip ?_)
  refine AW.anyN mix [[], [], [0, 1], [0, 1, 2], [0, 1, 2, 3], [0, 1, 2, 3], [0, 1, 2, 3, 4], [0, 1, 2, 3, 4, 5, 6]] [[31], [30], [], [], [34], [33], [34], []] [[], [], [], [], [], [0], [], []] [(6, 0)] 9 17 rfl (by rfl) (by decide +kernel) rfl (by first|assumption|(intro b hb; cases hb)) ?_ <;> repeat' (first|refine AR.step rfl rfl (by first|exact OSp.do tok rfl rfl rfl|exact OSp.no rfl rfl|exact OSp.noN rfl|exact OSp.v rfl rfl qv1|exact OSp.v rfl rfl qv2|exact OSp.v rfl rfl qv3|exact OSp.v rfl rfl (qv4 tok)|exact OSp.v rfl rfl (qv5 tok)|exact OSp.v rfl rfl qv6|exact OSp.v rfl rfl qv7|exact OSp.v rfl rfl (qv8 tok)|exact OSp.v rfl rfl (qv9 tok)|exact OSp.v rfl rfl (qv10 tok)|exact OSp.v rfl rfl (qv11 tok)|exact OSp.v rfl rfl (qv12 tok)|exact OSp.v rfl rfl (qv13 tok)|exact OSp.v rfl rfl (qv14 tok)|exact OSp.v rfl rfl (qv15 tok)|exact OSp.v rfl rfl (qv16 tok)|exact OSp.v rfl rfl qv17|exact OSp.v rfl rfl (qv18 tok)|exact OSp.v rfl rfl qv19|exact OSp.v rfl rfl (qv20 tok)|exact OSp.v rfl rfl (qv21 tok)|exact OSp.v rfl rfl (qv22 tok)|exact OSp.v rfl rfl (qv23 tok)|exact OSp.v rfl rfl (qv24 tok)|exact OSp.v rfl rfl qv26|exact OSp.v rfl rfl qv27|exact OSp.v rfl rfl (qv28 tok)|exact OSp.v rfl rfl (qv29 tok)|exact OSp.copy tok rfl rfl rfl rfl rfl rfl rfl (by (first | (intro x hx; obtain ⟨_, _, rfl⟩ := List.mem_map.1 hx; rfl) | (intro x hx; replace hx := List.mem_of_mem_take (List.mem_of_mem_drop hx); obtain ⟨_, _, rfl⟩ := List.mem_map.1 hx; rfl) | (simp; done))) rfl rfl rfl rfl|exact OSp.buildSlice tok rfl rfl rfl rfl rfl rfl rfl rfl|exact OSp.append tok rfl rfl rfl rfl rfl rfl rfl rfl rfl rfl rfl (by first|(intro x hx; obtain ⟨_, _, rfl⟩ := List.mem_map.1 hx; rfl)|(simp; done)) (by simp; omega) (by simp; omega)|exact OSp.alloc tok rfl rfl rfl rfl|exact OSp.box tok rfl rfl rfl rfl rfl|exact OSp.boxC tok rfl rfl rfl rfl rfl|exact OSp.store tok rfl rfl rfl rfl rfl rfl rfl rfl|exact OSp.appIn tok rfl rfl rfl rfl rfl (by first|assumption|(intro e; have := congrArg List.length e; simp at this; omega)) rfl rfl (by (first | (intro x hx; obtain ⟨_, _, rfl⟩ := List.mem_map.1 hx; rfl) | (intro x hx; replace hx := List.mem_of_mem_take (List.mem_of_mem_drop hx); obtain ⟨_, _, rfl⟩ := List.mem_map.1 hx; rfl) | (simp; done))) rfl rfl rfl rfl (by first|omega|(simp; omega))|exact OSp.copyX tok rfl rfl rfl rfl rfl rfl rfl rfl (by first|omega|(simp; omega)) (by first|omega|(simp; omega)) (by first|omega|(simp; omega)) (by first|omega|(simp; omega)) (by first|omega|(simp; omega))|exact OSp.callS rfl rfl rfl rfl rfl rfl (m4 ..) rfl|exact OSp.callP rfl rfl rfl rfl rfl (m4 ..)|exact OSp.callO rfl rfl rfl rfl rfl (m4 ..)|exact OSp.callO rfl rfl rfl rfl rfl m4|exact OSp.callS rfl rfl rfl rfl rfl rfl (p2 ..) rfl|exact OSp.callP rfl rfl rfl rfl rfl (p2 ..)|exact OSp.callO rfl rfl rfl rfl rfl (p2 ..)|exact OSp.callO rfl rfl rfl rfl rfl p2|exact OSp.callG2 rfl rfl rfl rfl (m4 ..) rfl rfl rfl rfl rfl|exact OSp.callG2 rfl rfl rfl rfl (p2 ..) rfl rfl rfl rfl rfl) (by rfl) (by rfl) ?_|refine AR.done rfl rfl ?_|(refine AR.guard rfl rfl rfl rfl (fun hg => ?_) (fun hg => ?_) <;> ((try simp only [DX] at hg) <;> (try first|(exfalso; omega)|exact absurd trivial hg|exact False.elim hg|exact absurd rfl hg))))
  repeat (first|refine AL.do tok rfl rfl ?_|refine AL.nil ?_|refine AW.seq fun K hK => ?_|refine AW.region ?_|refine AL.no rfl rfl ?_|(refine hK _ ?_; clear hK)|(clear hK; refine hK _ ?_; clear hK)|(clear hK; clear hK; refine hK _ ?_; clear hK)|refine qa7 qv1 ?_|refine qa7 qv2 ?_|refine qa7 qv3 ?_|refine qa7 (qv4 tok) ?_|refine qa7 (qv5 tok) ?_|refine qa7 qv6 ?_|refine qa7 qv7 ?_|refine qa7 (qv8 tok) ?_|refine qa7 (qv9 tok) ?_|refine qa7 (qv10 tok) ?_|refine qa7 (qv11 tok) ?_|refine qa7 (qv12 tok) ?_|refine qa7 (qv13 tok) ?_|refine qa7 (qv14 tok) ?_|refine qa7 (qv15 tok) ?_|refine qa7 (qv16 tok) ?_|refine qa7 qv17 ?_|refine qa7 (qv18 tok) ?_|refine qa7 qv19 ?_|refine qa7 (qv20 tok) ?_|refine qa7 (qv21 tok) ?_|refine qa7 (qv22 tok) ?_|refine qa7 (qv23 tok) ?_|refine qa7 (qv24 tok) ?_|refine qa7 qv26 ?_|refine qa7 qv27 ?_|refine qa7 (qv28 tok) ?_|refine qa7 (qv29 tok) ?_|refine qa1 tok ?_|refine qa2 tok ?_|refine qa3 tok ?_|refine AL.loadR tok rfl rfl rfl rfl rfl rfl ?_|refine qa4 tok ?_|refine qa5 tok ?_|refine AW.block ?_|refine AW.exit ?_|refine AW.skip ?_)
  refine AW.anyN mix [[], [], [0, 1], [0, 1, 2], [0, 1, 2, 3], [0, 1, 2, 3], [], [0, 1, 2, 3, 4, 6], [0, 1, 2, 3, 4, 5, 6, 7]] [[5, 37], [5, 36], [5], [5], [5, 40], [5, 39], [35, 36, 37, 38, 39, 40], [40], []] [[], [], [], [], [], [23], [], [], []] [(7, 23)] 17 26 rfl (by rfl) (by decide +kernel) rfl (by first|assumption|(intro b hb; cases hb)) ?_ <;> repeat' (first|refine AR.step rfl rfl (by first|exact OSp.do tok rfl rfl rfl|exact OSp.no rfl rfl|exact OSp.noN rfl|exact OSp.v rfl rfl qv1|exact OSp.v rfl rfl qv2|exact OSp.v rfl rfl qv3|exact OSp.v rfl rfl (qv4 tok)|exact OSp.v rfl rfl (qv5 tok)|exact OSp.v rfl rfl qv6|exact OSp.v rfl rfl qv7|exact OSp.v rfl rfl (qv8 tok)|exact OSp.v rfl rfl (qv9 tok)|exact OSp.v rfl rfl (qv10 tok)|exact OSp.v rfl rfl (qv11 tok)|exact OSp.v rfl rfl (qv12 tok)|exact OSp.v rfl rfl (qv13 tok)|exact OSp.v rfl rfl (qv14 tok)|exact OSp.v rfl rfl (qv15 tok)|exact OSp.v rfl rfl (qv16 tok)|exact OSp.v rfl rfl qv17|exact OSp.v rfl rfl (qv18 tok)|exact OSp.v rfl rfl qv19|exact OSp.v rfl rfl (qv20 tok)|exact OSp.v rfl rfl (qv21 tok)|exact OSp.v rfl rfl (qv22 tok)|exact OSp.v rfl rfl (qv23 tok)|exact OSp.v rfl rfl (qv24 tok)|exact OSp.v rfl rfl qv26|exact OSp.v rfl rfl qv27|exact OSp.v rfl rfl (qv28 tok)|exact OSp.v rfl rfl (qv29 tok)|exact OSp.copy tok rfl rfl rfl rfl rfl rfl rfl (by (first | (intro x hx; obtain ⟨_, _, rfl⟩ := List.mem_map.1 hx; rfl) | (intro x hx; replace hx := List.mem_of_mem_take (List.mem_of_mem_drop hx); obtain ⟨_, _, rfl⟩ := List.mem_map.1 hx; rfl) | (simp; done))) rfl rfl rfl rfl|exact OSp.buildSlice tok rfl rfl rfl rfl rfl rfl rfl rfl|exact OSp.append tok rfl rfl rfl rfl rfl rfl rfl rfl rfl rfl rfl (by first|(intro x hx; obtain ⟨_, _, rfl⟩ := List.mem_map.1 hx; rfl)|(simp; done)) (by simp; omega) (by simp; omega)|exact OSp.alloc tok rfl rfl rfl rfl|exact OSp.box tok rfl rfl rfl rfl rfl|exact OSp.boxC tok rfl rfl rfl rfl rfl|exact OSp.store tok rfl rfl rfl rfl rfl rfl rfl rfl|exact OSp.appIn tok rfl rfl rfl rfl rfl (by first|assumption|(intro e; have := congrArg List.length e; simp at this; omega)) rfl rfl (by (first | (intro x hx; obtain ⟨_, _, rfl⟩ := List.mem_map.1 hx; rfl) | (intro x hx; replace hx := List.mem_of_mem_take (List.mem_of_mem_drop hx); obtain ⟨_, _, rfl⟩ := List.mem_map.1 hx; rfl) | (simp; done))) rfl rfl rfl rfl (by first|omega|(simp; omega))|exact OSp.copyX tok rfl rfl rfl rfl rfl rfl rfl rfl (by first|omega|(simp; omega)) (by first|omega|(simp; omega)) (by first|omega|(simp; omega)) (by first|omega|(simp; omega)) (by first|omega|(simp; omega))|exact OSp.callS rfl rfl rfl rfl rfl rfl (m9 ..) rfl|exact OSp.callP rfl rfl rfl rfl rfl (m9 ..)|exact OSp.callO rfl rfl rfl rfl rfl (m9 ..)|exact OSp.callO rfl rfl rfl rfl rfl m9|exact OSp.callS rfl rfl rfl rfl rfl rfl (p3 ..) rfl|exact OSp.callP rfl rfl rfl rfl rfl (p3 ..)|exact OSp.callO rfl rfl rfl rfl rfl (p3 ..)|exact OSp.callO rfl rfl rfl rfl rfl p3|exact OSp.callG2 rfl rfl rfl rfl (m9 ..) rfl rfl rfl rfl rfl|exact OSp.callG2 rfl rfl rfl rfl (p3 ..) rfl rfl rfl rfl rfl) (by rfl) (by rfl) ?_|refine AR.done rfl rfl ?_|(refine AR.guard rfl rfl rfl rfl (fun hg => ?_) (fun hg => ?_) <;> ((try simp only [DX] at hg) <;> (try first|(exfalso; omega)|exact absurd trivial hg|exact False.elim hg|exact absurd rfl hg))))
  repeat' (first|refine AL.do tok rfl rfl ?_|refine AL.nil ?_|refine AW.seq fun K hK => ?_|refine AW.region ?_|refine AL.no rfl rfl ?_|(refine hK _ ?_; clear hK)|(clear hK; refine hK _ ?_; clear hK)|(clear hK; clear hK; refine hK _ ?_; clear hK)|refine qa7 qv1 ?_|refine qa7 qv2 ?_|refine qa7 qv3 ?_|refine qa7 (qv4 tok) ?_|refine qa7 (qv5 tok) ?_|refine qa7 qv6 ?_|refine qa7 qv7 ?_|refine qa7 (qv8 tok) ?_|refine qa7 (qv9 tok) ?_|refine qa7 (qv10 tok) ?_|refine qa7 (qv11 tok) ?_|refine qa7 (qv12 tok) ?_|refine qa7 (qv13 tok) ?_|refine qa7 (qv14 tok) ?_|refine qa7 (qv15 tok) ?_|refine qa7 (qv16 tok) ?_|refine qa7 qv17 ?_|refine qa7 (qv18 tok) ?_|refine qa7 qv19 ?_|refine qa7 (qv20 tok) ?_|refine qa7 (qv21 tok) ?_|refine qa7 (qv22 tok) ?_|refine qa7 (qv23 tok) ?_|refine qa7 (qv24 tok) ?_|refine qa7 qv26 ?_|refine qa7 qv27 ?_|refine qa7 (qv28 tok) ?_|refine qa7 (qv29 tok) ?_|refine qa1 tok ?_|refine qa2 tok ?_|refine qa3 tok ?_|refine AL.loadR tok rfl rfl rfl rfl rfl rfl ?_|refine qa4 tok ?_|refine qa5 tok ?_|refine AW.block ?_|refine AW.exit ?_|refine AW.skip ?_|refine qc1 (q1 ..) ?_|refine qc2 (q1 ..) ?_|refine qc1 (r1 ..) ?_|refine qc2 (r1 ..) ?_|refine qc1 (r2 ..) ?_|refine qc2 (r2 ..) ?_|refine qc1 (e1 ..) ?_|refine qc2 (e1 ..) ?_|refine qc1 (e2 ..) ?_|refine qc2 (e2 ..) ?_|refine qc1 (s1 ..) ?_|refine qc2 (s1 ..) ?_|refine qc1 (v1 ..) ?_|refine qc2 (v1 ..) ?_|((fail_if_success (refine AL.guard (b := true) rfl rfl ?_ ?_)); (fail_if_success (refine AL.guard (b := false) rfl rfl ?_ ?_)); refine AL.guard rfl rfl (fun hg => ?_) (fun hg => ?_) <;> ((try simp only [DX] at hg) <;> (try first|(exfalso; omega)|exact absurd trivial hg|exact False.elim hg|exact absurd rfl hg)))|refine AW.condT rfl ?_|refine AW.condF rfl ?_|(refine AW.cond rfl (fun hg => ?_) (fun hg => ?_) <;> ((try simp only [DX] at hg) <;> (try first|(exfalso; omega)|exact absurd trivial hg|exact False.elim hg|exact absurd rfl hg))))
  all_goals
    refine AW.ret ?_
    refine ⟨_, _, _, _, rfl, Out.pure rfl ⟨?_, rfl⟩ rfl⟩
    rfl
end Go.Proofs.Try
