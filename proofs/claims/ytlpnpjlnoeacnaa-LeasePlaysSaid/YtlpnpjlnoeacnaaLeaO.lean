/- lease: the law LeasePlays. -/
import Derived.Test.YtlpnpjlnoeacnaaLeaN
import Derived.Test.YtlpnpjlnoeacnaaWk
set_option linter.unusedSimpArgs false
set_option linter.unusedVariables false
namespace Go.Proofs.Try
open Go Go.AM

structure OpL where
  kind : Int
  tag : Int
  own : Int
  queue : ByteArray
  all : Bool
  e : En
def encOL (o : OpL) : List D := [.one (.int .i64 o.kind), .one (.int .i64 o.tag), .one (.int .i64 o.own), .one (.string o.queue), .one (.bool o.all), .one (.int .i64 o.e.num), .one (.int .i64 o.e.arr), .one (.int .i64 o.e.att), .one (.string o.e.msg.topic), .one (.string o.e.msg.payload), .one (.int .i64 o.e.msg.level), .one (.bool o.e.msg.retain), .one (.int .i64 o.e.msg.prio), .one (.int .i64 o.e.msg.expires), .one (.string o.e.msg.sender), .one (.int .i64 o.e.msg.seq), .row (o.e.msg.props.map encP)]
abbrev cellsOL (o : OpL) : List AV := [i64 o.kind, i64 o.tag, i64 o.own, st o.queue, bo o.all, i64 o.e.num, i64 o.e.arr, i64 o.e.att, st o.e.msg.topic, st o.e.msg.payload, i64 o.e.msg.level, bo o.e.msg.retain, i64 o.e.msg.prio, i64 o.e.msg.expires, st o.e.msg.sender, i64 o.e.msg.seq, rowP o.e.msg.props]
theorem dt_OL {ds : List D} (h : DT ts 45 ds) : ∃ o, ds = encOL o ∧ (OkM o.e.msg ∧ -9223372036854775808 ≤ o.tag ∧ o.tag ≤ 9223372036854775807) := by
  obtain ⟨hl, hf⟩ := DT.strct_inv rfl h
  match ds, hl with
  | [a, b, c, d, f, e0, e1, e2, m0, m1, m2, m3, m4, m5, m6, m7, m8], _ =>
    obtain ⟨n0, q0, _⟩ := DT.int_inv rfl (hf 0 _ _ _ rfl rfl rfl)
    obtain ⟨n1, q1, w0⟩ := DT.int_inv rfl (hf 1 _ _ _ rfl rfl rfl)
    obtain ⟨n2, q2, _⟩ := DT.int_inv rfl (hf 2 _ _ _ rfl rfl rfl)
    obtain ⟨n3, q3, _⟩ := DT.str_inv rfl (hf 3 _ _ _ rfl rfl rfl)
    obtain ⟨n4, q4⟩ := DT.bool_inv rfl (hf 4 _ _ _ rfl rfl rfl)
    obtain ⟨e, q5, hm⟩ := dt_E (hf 5 _ _ _ rfl rfl rfl)
    simp only [Lit.wf, Bool.and_eq_true, decide_eq_true_eq] at w0
    simp [encE] at q0 q1 q2 q3 q4 q5
    exact ⟨⟨n0, n1, n2, n3, n4, e⟩, by simp [encOL, q0, q1, q2, q3, q4, q5], hm, w0⟩
def OkOL (o : OpL) : Prop := OkM o.e.msg ∧ -9223372036854775808 ≤ o.tag ∧ o.tag ≤ 9223372036854775807
theorem at_OL1 {x : AV} (h : AT ts 45 x) : ∃ o, x = .agg (cellsOL o) ∧ OkOL o := by
  obtain ⟨ds, rfl, hd⟩ := h
  obtain ⟨o, rfl, ho⟩ := dt_OL hd
  exact ⟨o, rfl, ho⟩
theorem at_OL {x : AV} (h : AT ts 38 x) : ∃ l : List OpL, x = .d (.row (l.map encOL)) ∧ (∀ o ∈ l, OkOL o) ∧ l.length ≤ 9223372036854775807 := by
  obtain ⟨y, rfl, hd⟩ := h
  obtain ⟨xs, e, hl, hx⟩ := DT.slice_inv rfl hd
  cases e
  obtain ⟨l, rfl, hp⟩ := list_decode xs (fun x hx' => dt_OL (hx x hx'))
  exact ⟨l, rfl, hp, by rw [List.length_map] at hl; exact hl⟩
/-- What the lists hold, after each call. -/
structure HasL (l : List Le) (n : Nat) : Prop where
  ok : OkL l
  tg : TagL l
  len : l.length ≤ n
theorem HasL.fil {l : List Le} {n : Nat} (h : HasL l n) (p : Le → Bool) : HasL (l.filter p) (n + 1) :=
  ⟨fun x hx => h.ok x (List.mem_filter.1 hx).1, fun x hx => h.tg x (List.mem_filter.1 hx).1, Nat.le_trans (List.length_filter_le _ _) (by have := h.len; omega)⟩
theorem give_has {l : List Le} {n : Nat} {o : OpL} (h : HasL l n) (ho : OkOL o) (h0 : (giveS l o.tag o.own o.queue o.e).2.2 = 0) : HasL (giveS l o.tag o.own o.queue o.e).1 (n + 1) := by
  rcases give_cases l o.tag o.own o.queue o.e with ⟨e1, _⟩ | ⟨h1, _⟩
  · rw [e1]
    refine ⟨fun x hx => ?_, fun x hx => ?_, by simp; exact h.len⟩
    · rcases List.mem_append.1 hx with hx | hx
      · exact h.ok x hx
      · rw [List.mem_singleton.1 hx]; exact ho.1
    · rcases List.mem_append.1 hx with hx | hx
      · exact h.tg x hx
      · rw [List.mem_singleton.1 hx]; exact ho.2
  · exact absurd h0 h1
theorem settle_has {l : List Le} {n : Nat} {a b : Int} {all : Bool} (h : HasL l n) : HasL (settleS l a b all).1 (n + 1) := by
  unfold settleS
  split
  · exact ⟨fun x hx => (by simp at hx), fun x hx => (by simp at hx), Nat.zero_le _⟩
  · split
    · exact h.fil _
    · exact h.fil _
set_option maxHeartbeats 32000000 in
set_option maxRecDepth 10000 in
theorem leasePlays_law (x0 x1 : AV) (h0 : AT ts 22 x0) (h1 : AT ts 38 x1) : ACallP Try.prog 5 [x0, x1] (bo true) := by
  obtain ⟨l, rfl, ho, ht, hl⟩ := at_Ls h0
  obtain ⟨ops, rfl, hoo, hl2⟩ := at_OL h1
  have hlm : (l.map encL).length = l.length := List.length_map ..
  have hom : (ops.map encOL).length = ops.length := List.length_map ..
  have ke := example_calls
  have kc := refCheckL_calls l ho
  generalize checkLs l = cc at *
  by_cases hs : l.length ≤ 60 ∧ ops.length ≤ 60 ∧ cc = 0
  rotate_left
  · refine ACalls.body tok Try.func5 rfl (by kernel_rfl) (by rw [Try.ntmps5]; simp) ?_
    simp only [Try.ntmps5, Try.results5, argT]
    repeat' (first|refine AL.do tok rfl rfl ?_|refine AL.nil ?_|refine AW.seq fun K hK => ?_|refine AW.region ?_|refine AL.no rfl rfl ?_|(refine hK _ ?_; clear hK)|(clear hK; refine hK _ ?_; clear hK)|(clear hK; clear hK; refine hK _ ?_; clear hK)|refine qaW ?_|refine qa1 tok ?_|refine qa2 tok ?_|refine qa3 tok ?_|refine AL.loadR tok rfl rfl rfl rfl rfl rfl ?_|refine qa4 tok ?_|refine qa5 tok ?_|refine AW.block ?_|refine AW.exit ?_|refine AW.skip ?_|refine qc1 (kc ..) ?_|refine qc2 (kc ..) ?_|refine qc1 (ke ..) ?_|refine qc2 (ke ..) ?_|((fail_if_success (refine AL.guard (b := true) rfl rfl ?_ ?_)); (fail_if_success (refine AL.guard (b := false) rfl rfl ?_ ?_)); refine AL.guard rfl rfl (fun hg => ?_) (fun hg => ?_) <;> ((try simp only [DX] at hg) <;> (try first|(exfalso; omega)|exact absurd trivial hg|exact False.elim hg|exact absurd rfl hg)))|refine AW.condT rfl ?_|refine AW.condF rfl ?_|(refine AW.cond rfl (fun hg => ?_) (fun hg => ?_) <;> ((try simp only [DX] at hg) <;> (try first|(exfalso; omega)|exact absurd trivial hg|exact False.elim hg|exact absurd rfl hg))))
    all_goals (try simp only [DX] at *)
    all_goals try (exfalso; first | exact hg | exact hg rfl | omega)
    all_goals
      refine AW.ret ?_
      refine ⟨_, _, _, _, rfl, Out.pure rfl ⟨?_, rfl⟩ rfl⟩
      rfl
  obtain ⟨hs1, hs2, rfl⟩ := hs
  refine ACalls.body tok Try.func5 rfl (by kernel_rfl) (by rw [Try.ntmps5]; simp) ?_
  simp only [Try.ntmps5, Try.results5, argT]
  repeat' (first|refine AL.do tok rfl rfl ?_|refine AL.nil ?_|refine AW.seq fun K hK => ?_|refine AW.region ?_|refine AL.no rfl rfl ?_|(refine hK _ ?_; clear hK)|(clear hK; refine hK _ ?_; clear hK)|(clear hK; clear hK; refine hK _ ?_; clear hK)|refine qaW ?_|refine qa1 tok ?_|refine qa2 tok ?_|refine qa3 tok ?_|refine AL.loadR tok rfl rfl rfl rfl rfl rfl ?_|refine qa4 tok ?_|refine qa5 tok ?_|refine AW.block ?_|refine AW.exit ?_|refine AW.skip ?_|refine qc1 (kc ..) ?_|refine qc2 (kc ..) ?_|((fail_if_success (refine AL.guard (b := true) rfl rfl ?_ ?_)); (fail_if_success (refine AL.guard (b := false) rfl rfl ?_ ?_)); refine AL.guard rfl rfl (fun hg => ?_) (fun hg => ?_) <;> ((try simp only [DX] at hg) <;> (try first|(exfalso; omega)|exact absurd trivial hg|exact False.elim hg|exact absurd rfl hg)))|refine AW.condT rfl ?_|refine AW.condF rfl ?_|(refine AW.cond rfl (fun hg => ?_) (fun hg => ?_) <;> ((try simp only [DX] at hg) <;> (try first|(exfalso; omega)|exact absurd trivial hg|exact False.elim hg|exact absurd rfl hg))))
  all_goals (try simp only [DX] at *)
  all_goals try (exfalso; first | exact hg | exact hg rfl | omega)
  (try simp only [hom])
  refine AW.loop (ι := Nat × List Le) (fun p => ⟨164, [(39, i64 p.1), (38, i64 ops.length), (37, .d (.row (ops.map encOL))), (0, rowL p.2)], [], [], 0⟩)
    (fun p => p.1 ≤ ops.length ∧ HasL p.2 (60 + p.1)) (fun p => ops.length - p.1) (0, l) ⟨Nat.zero_le _, ho, ht, hs1⟩ ?_ ?_
  · (refine Imp.weak id (fun _ _ _ _ h => h) (by first|assumption|(intro b hb; cases hb)) ?_ ?_ <;> (repeat' (first|exact trivial|exact Nat.lt_of_lt_of_le (Nat.lt_succ_self _) (Nat.le_of_ble_eq_true rfl)|exact rfl|exact Or.inl ⟨rfl, rfl⟩|exact Or.inr ⟨rfl, LF.fn _ _ ‹_›⟩|refine ⟨?_, ?_⟩)))
  rintro ⟨i, c⟩ ⟨hi, hc⟩ K1 hK1
  simp only at hi hc
  by_cases hlt : i < ops.length
  rotate_left
  · repeat' (first|refine AL.do tok rfl rfl ?_|refine AL.nil ?_|refine AW.seq fun K hK => ?_|refine AW.region ?_|refine AL.no rfl rfl ?_|(refine hK _ ?_; clear hK)|(clear hK; refine hK _ ?_; clear hK)|(clear hK; clear hK; refine hK _ ?_; clear hK)|refine qaW ?_|refine qa1 tok ?_|refine qa2 tok ?_|refine qa3 tok ?_|refine AL.loadR tok rfl rfl rfl rfl rfl rfl ?_|refine qa4 tok ?_|refine qa5 tok ?_|refine AW.block ?_|refine AW.exit ?_|refine AW.skip ?_|refine qc1 (ke ..) ?_|refine qc2 (ke ..) ?_|((fail_if_success (refine AL.guard (b := true) rfl rfl ?_ ?_)); (fail_if_success (refine AL.guard (b := false) rfl rfl ?_ ?_)); refine AL.guard rfl rfl (fun hg => ?_) (fun hg => ?_) <;> ((try simp only [DX] at hg) <;> (try first|(exfalso; omega)|exact absurd trivial hg|exact False.elim hg|exact absurd rfl hg)))|refine AW.condT rfl ?_|refine AW.condF rfl ?_|(refine AW.cond rfl (fun hg => ?_) (fun hg => ?_) <;> ((try simp only [DX] at hg) <;> (try first|(exfalso; omega)|exact absurd trivial hg|exact False.elim hg|exact absurd rfl hg))))
    all_goals (try simp only [DX] at *)
    all_goals try (exfalso; omega)
    all_goals
      refine AW.ret ?_
      refine ⟨_, _, _, _, rfl, Out.pure rfl ⟨?_, rfl⟩ rfl⟩
      rfl
  have hcl := hc.len
  have hoi := hoo _ (List.getElem_mem hlt)
  have g1 := give_calls c ops[i].tag ops[i].own ops[i].queue ops[i].e (by omega) hc.ok hoi.1
  have g2 := refGive_calls c ops[i].tag ops[i].own ops[i].queue ops[i].e (by omega) hc.ok hoi.1
  have s1 := settle_calls c ops[i].own ops[i].tag ops[i].all (by omega) hc.ok
  have s2 := refSettle_calls c ops[i].own ops[i].tag ops[i].all (by omega) hc.ok hc.tg
  have r1 := recall_calls c ops[i].own (by omega) hc.ok
  have r2 := refRecall_calls c ops[i].own (by omega) hc.ok hc.tg
  have gh := give_has hc hoi
  have sh := settle_has (a := ops[i].own) (b := ops[i].tag) (all := ops[i].all) hc
  have rh : HasL (recallS c ops[i].own).1 (60 + i + 1) := hc.fil _
  generalize giveS c ops[i].tag ops[i].own ops[i].queue ops[i].e = g at *
  generalize settleS c ops[i].own ops[i].tag ops[i].all = s at *
  generalize recallS c ops[i].own = r at *
  obtain ⟨ga, gb, gc⟩ := g
  obtain ⟨sa, sb, sc⟩ := s
  obtain ⟨ra, rb⟩ := r
  simp only at gh sh rh g1 g2 s1 s2 r1 r2
  have q1 := sameLs_t ga
  have q2 := sameL_t gb
  have q3 := sameLs_t sa
  have q4 := sameLs_t sb
  have q5 := sameLs_t ra
  have q6 := sameLs_t rb
  by_cases e0 : ops[i].kind = 0
  · repeat' (first|refine AL.do tok rfl rfl ?_|refine AL.nil ?_|refine AW.seq fun K hK => ?_|refine AW.region ?_|refine AL.no rfl rfl ?_|(refine hK _ ?_; clear hK)|(clear hK; refine hK _ ?_; clear hK)|(clear hK; clear hK; refine hK _ ?_; clear hK)|refine qaW ?_|refine qa1 tok ?_|refine qa2 tok ?_|refine qa3 tok ?_|refine AL.loadR tok rfl rfl rfl rfl rfl rfl ?_|refine qa4 tok ?_|refine qa5 tok ?_|refine AW.block ?_|refine AW.exit ?_|refine AW.skip ?_|refine qc1 (g1 ..) ?_|refine qc2 (g1 ..) ?_|refine qc1 (g2 ..) ?_|refine qc2 (g2 ..) ?_|refine qc1 (q1 ..) ?_|refine qc2 (q1 ..) ?_|refine qc1 (q2 ..) ?_|refine qc2 (q2 ..) ?_|((fail_if_success (refine AL.guard (b := true) rfl rfl ?_ ?_)); (fail_if_success (refine AL.guard (b := false) rfl rfl ?_ ?_)); refine AL.guard rfl rfl (fun hg => ?_) (fun hg => ?_) <;> ((try simp only [DX] at hg) <;> (try first|(exfalso; omega)|exact absurd trivial hg|exact False.elim hg|exact absurd rfl hg)))|refine AW.condT rfl ?_|refine AW.condF rfl ?_|(refine AW.cond rfl (fun hg => ?_) (fun hg => ?_) <;> ((try simp only [DX] at hg) <;> (try first|(exfalso; omega)|exact absurd trivial hg|exact False.elim hg|exact absurd rfl hg))))
    all_goals (try simp only [DX] at *)
    all_goals try (exfalso; first | exact hg | exact hg rfl | omega | contradiction)
    · refine hK1 _ (i + 1, ga) ⟨by simp only; omega, gh (by first | assumption | omega)⟩ (by simp only; omega) ?_
      (refine Imp.weak id (fun _ _ _ _ h => h) (by first|assumption|(intro b hb; cases hb)) ?_ ?_ <;> (repeat' (first|exact trivial|exact Nat.lt_of_lt_of_le (Nat.lt_succ_self _) (Nat.le_of_ble_eq_true rfl)|exact rfl|exact Or.inl ⟨rfl, rfl⟩|exact Or.inr ⟨rfl, LF.fn _ _ ‹_›⟩|refine ⟨?_, ?_⟩)))
    · refine hK1 _ (i + 1, c) ⟨by simp only; omega, hc.ok, hc.tg, by simp only; omega⟩ (by simp only; omega) ?_
      (refine Imp.weak id (fun _ _ _ _ h => h) (by first|assumption|(intro b hb; cases hb)) ?_ ?_ <;> (repeat' (first|exact trivial|exact Nat.lt_of_lt_of_le (Nat.lt_succ_self _) (Nat.le_of_ble_eq_true rfl)|exact rfl|exact Or.inl ⟨rfl, rfl⟩|exact Or.inr ⟨rfl, LF.fn _ _ ‹_›⟩|refine ⟨?_, ?_⟩)))
  by_cases e1 : ops[i].kind = 1
  · repeat' (first|refine AL.do tok rfl rfl ?_|refine AL.nil ?_|refine AW.seq fun K hK => ?_|refine AW.region ?_|refine AL.no rfl rfl ?_|(refine hK _ ?_; clear hK)|(clear hK; refine hK _ ?_; clear hK)|(clear hK; clear hK; refine hK _ ?_; clear hK)|refine qaW ?_|refine qa1 tok ?_|refine qa2 tok ?_|refine qa3 tok ?_|refine AL.loadR tok rfl rfl rfl rfl rfl rfl ?_|refine qa4 tok ?_|refine qa5 tok ?_|refine AW.block ?_|refine AW.exit ?_|refine AW.skip ?_|refine qc1 (s1 ..) ?_|refine qc2 (s1 ..) ?_|refine qc1 (s2 ..) ?_|refine qc2 (s2 ..) ?_|refine qc1 (q3 ..) ?_|refine qc2 (q3 ..) ?_|refine qc1 (q4 ..) ?_|refine qc2 (q4 ..) ?_|((fail_if_success (refine AL.guard (b := true) rfl rfl ?_ ?_)); (fail_if_success (refine AL.guard (b := false) rfl rfl ?_ ?_)); refine AL.guard rfl rfl (fun hg => ?_) (fun hg => ?_) <;> ((try simp only [DX] at hg) <;> (try first|(exfalso; omega)|exact absurd trivial hg|exact False.elim hg|exact absurd rfl hg)))|refine AW.condT rfl ?_|refine AW.condF rfl ?_|(refine AW.cond rfl (fun hg => ?_) (fun hg => ?_) <;> ((try simp only [DX] at hg) <;> (try first|(exfalso; omega)|exact absurd trivial hg|exact False.elim hg|exact absurd rfl hg))))
    all_goals (try simp only [DX] at *)
    all_goals try (exfalso; first | exact hg | exact hg rfl | omega | contradiction)
    · refine hK1 _ (i + 1, sa) ⟨by simp only; omega, sh⟩ (by simp only; omega) ?_
      (refine Imp.weak id (fun _ _ _ _ h => h) (by first|assumption|(intro b hb; cases hb)) ?_ ?_ <;> (repeat' (first|exact trivial|exact Nat.lt_of_lt_of_le (Nat.lt_succ_self _) (Nat.le_of_ble_eq_true rfl)|exact rfl|exact Or.inl ⟨rfl, rfl⟩|exact Or.inr ⟨rfl, LF.fn _ _ ‹_›⟩|refine ⟨?_, ?_⟩)))
    · refine hK1 _ (i + 1, c) ⟨by simp only; omega, hc.ok, hc.tg, by simp only; omega⟩ (by simp only; omega) ?_
      (refine Imp.weak id (fun _ _ _ _ h => h) (by first|assumption|(intro b hb; cases hb)) ?_ ?_ <;> (repeat' (first|exact trivial|exact Nat.lt_of_lt_of_le (Nat.lt_succ_self _) (Nat.le_of_ble_eq_true rfl)|exact rfl|exact Or.inl ⟨rfl, rfl⟩|exact Or.inr ⟨rfl, LF.fn _ _ ‹_›⟩|refine ⟨?_, ?_⟩)))
  · repeat' (first|refine AL.do tok rfl rfl ?_|refine AL.nil ?_|refine AW.seq fun K hK => ?_|refine AW.region ?_|refine AL.no rfl rfl ?_|(refine hK _ ?_; clear hK)|(clear hK; refine hK _ ?_; clear hK)|(clear hK; clear hK; refine hK _ ?_; clear hK)|refine qaW ?_|refine qa1 tok ?_|refine qa2 tok ?_|refine qa3 tok ?_|refine AL.loadR tok rfl rfl rfl rfl rfl rfl ?_|refine qa4 tok ?_|refine qa5 tok ?_|refine AW.block ?_|refine AW.exit ?_|refine AW.skip ?_|refine qc1 (r1 ..) ?_|refine qc2 (r1 ..) ?_|refine qc1 (r2 ..) ?_|refine qc2 (r2 ..) ?_|refine qc1 (q5 ..) ?_|refine qc2 (q5 ..) ?_|refine qc1 (q6 ..) ?_|refine qc2 (q6 ..) ?_|((fail_if_success (refine AL.guard (b := true) rfl rfl ?_ ?_)); (fail_if_success (refine AL.guard (b := false) rfl rfl ?_ ?_)); refine AL.guard rfl rfl (fun hg => ?_) (fun hg => ?_) <;> ((try simp only [DX] at hg) <;> (try first|(exfalso; omega)|exact absurd trivial hg|exact False.elim hg|exact absurd rfl hg)))|refine AW.condT rfl ?_|refine AW.condF rfl ?_|(refine AW.cond rfl (fun hg => ?_) (fun hg => ?_) <;> ((try simp only [DX] at hg) <;> (try first|(exfalso; omega)|exact absurd trivial hg|exact False.elim hg|exact absurd rfl hg))))
    all_goals (try simp only [DX] at *)
    all_goals try (exfalso; first | exact hg | exact hg rfl | omega | contradiction)
    · refine hK1 _ (i + 1, ra) ⟨by simp only; omega, rh⟩ (by simp only; omega) ?_
      (refine Imp.weak id (fun _ _ _ _ h => h) (by first|assumption|(intro b hb; cases hb)) ?_ ?_ <;> (repeat' (first|exact trivial|exact Nat.lt_of_lt_of_le (Nat.lt_succ_self _) (Nat.le_of_ble_eq_true rfl)|exact rfl|exact Or.inl ⟨rfl, rfl⟩|exact Or.inr ⟨rfl, LF.fn _ _ ‹_›⟩|refine ⟨?_, ?_⟩)))
end Go.Proofs.Try
