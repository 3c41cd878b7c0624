/- inflight: what acknowledgements keep; the packet of an operation; the chapter's example. -/
import Derived.Test.YtkpodhdjifnigaaInflN
import Derived.Test.YtkpodhdjifnigaaAM49
set_option linter.unusedSimpArgs false
set_option linter.unusedVariables false
namespace Go.Proofs.Try
open Go Go.AM

theorem start_good {w : Wi} {m : Ms} (hw : GoodW w) (h0 : (startS w m).2.2 = 0) : GoodW (startS w m).1 := by
  unfold startS at h0 ⊢
  split at h0
  · exact absurd h0 (by decide)
  rename_i h1
  split at h0
  · exact absurd h0 (by decide)
  rename_i h2
  split at h0
  · rename_i h3
    rw [if_neg h1, if_neg h2, if_pos h3]
    exact hw.started h2 h3 h1
  · rename_i h3; exact absurd h0 h3
theorem start_ok {w : Wi} {m : Ms} (ho : OkW w) (hm : OkM m) : OkW (startS w m).1 := by
  unfold startS
  intro f hf
  split at hf
  · simp [zeroW] at hf
  split at hf
  · simp [zeroW] at hf
  split at hf
  · have hf' : f ∈ w.items ++ [⟨(takeS w.pool).1, 1, m⟩] := hf
    rcases List.mem_append.1 hf' with h | h
    · exact ho f h
    · simp only [List.mem_singleton] at h
      subst h
      exact hm
  · simp [zeroW] at hf
theorem start_len {w : Wi} {m : Ms} (hw : GoodW w) : (startS w m).1.items.length ≤ 1000000 := by
  have := hw.len
  unfold startS
  split
  · simp [zeroW]
  split
  · simp [zeroW]
  split
  · simp [startedS]; omega
  · simp [zeroW]
theorem erase_ids {l : List Fl} (hn : (l.map (·.id)).Nodup) {i : Nat} (hi : i < l.length) {f : Fl} (hf : f ∈ l.eraseIdx i) : ¬ f.id = l[i].id := by
  intro e
  obtain ⟨j, hj, hjf⟩ := List.mem_eraseIdx_iff_getElem.1 hf
  obtain ⟨hji, hj2⟩ := hjf
  have hn := List.pairwise_iff_getElem.1 hn
  rcases Nat.lt_or_gt_of_ne hji with h3 | h3
  · have := hn j i (by simp; omega) (by simp; omega) h3
    simp only [List.getElem_map] at this
    exact this (by rw [hj2, e])
  · have := hn i j (by simp; omega) (by simp; omega) h3
    simp only [List.getElem_map] at this
    exact this (by rw [hj2, e])
/-- What an accepted acknowledgement does. -/
theorem handle_three {w : Wi} {k q : Int} (hw : GoodW w) (h0 : (handleS w k q).2.2 = 0) :
    (atS w.items q = -1 ∧ handleS w k q = (w, if k = 5 then [pubrelS q] else [], 0)) ∨
    (∃ i, ∃ hi : i < w.items.length, atS w.items q = (i : Nat) ∧ w.items[i].id = q ∧ (k = 4 ∧ w.items[i].msg.level = 1 ∨ k = 7 ∧ w.items[i].state = 2) ∧ handleS w k q = (removeS w i w.items[i].id, [], 0)) ∨
    (∃ i, ∃ hi : i < w.items.length, atS w.items q = (i : Nat) ∧ w.items[i].id = q ∧ k = 5 ∧ w.items[i].msg.level = 2 ∧ handleS w k q = (releaseS w i w.items[i], [pubrelS q], 0)) := by
  by_cases hk : k = 4 ∨ k = 5 ∨ k = 7
  · rcases at_cases w.items q with ha | ⟨i, hi, ha, hid⟩
    · exact .inl ⟨ha, handle_out hk ha⟩
    · have hh := handle_in hk hi ha
      rw [hh] at h0
      split at h0
      · rename_i h4
        split at h0
        · rename_i h5
          exact .inr (.inl ⟨i, hi, ha, hid, .inl ⟨h4, h5⟩, by rw [hh, if_pos h4, if_pos h5]⟩)
        · exact absurd h0 (by decide)
      · rename_i h4
        split at h0
        · rename_i h5
          split at h0
          · rename_i h6
            exact .inr (.inr ⟨i, hi, ha, hid, h5, h6, by rw [hh, if_neg h4, if_pos h5, if_pos h6]⟩)
          · exact absurd h0 (by decide)
        · rename_i h5
          split at h0
          · rename_i h6
            exact .inr (.inl ⟨i, hi, ha, hid, .inr ⟨by omega, h6⟩, by rw [hh, if_neg h4, if_neg h5, if_pos h6]⟩)
          · exact absurd h0 (by decide)
  · rw [handle_kind hk] at h0
    exact absurd h0 (by decide)
theorem handle_err {w : Wi} {k q : Int} (h0 : ¬ (handleS w k q).2.2 = 0) : (handleS w k q).1 = zeroW := by
  by_cases hk : k = 4 ∨ k = 5 ∨ k = 7
  · rcases at_cases w.items q with ha | ⟨i, hi, ha, hid⟩
    · rw [handle_out hk ha] at h0
      exact absurd rfl h0
    · have hh := handle_in hk hi ha
      rw [hh] at h0 ⊢
      repeat' split
      all_goals first | rfl | (exfalso; simp_all; done)
  · rw [handle_kind hk]
theorem handle_good {w : Wi} {k q : Int} (hw : GoodW w) (h0 : (handleS w k q).2.2 = 0) : GoodW (handleS w k q).1 := by
  rcases handle_three hw h0 with ⟨_, e⟩ | ⟨i, hi, _, _, _, e⟩ | ⟨i, hi, _, _, _, hv, e⟩
  · rw [e]; exact hw
  · rw [e]; exact hw.remove hi
  · rw [e]; exact hw.release hi hv
theorem remove_ok {w : Wi} (ho : OkW w) {i : Nat} {x : Int} : OkW (removeS w i x) := fun f hf => ho f ((List.eraseIdx_sublist _ _).subset hf)
theorem release_ok {w : Wi} (ho : OkW w) {i : Nat} (hi : i < w.items.length) : OkW (releaseS w i w.items[i]) := by
  intro f hf
  have hf' : f ∈ w.items.take i ++ [relF w.items[i]] ++ w.items.drop (i + 1) := hf
  rcases List.mem_append.1 hf' with hf' | hf'
  · rcases List.mem_append.1 hf' with hf' | hf'
    · exact ho f (List.mem_of_mem_take hf')
    · simp only [List.mem_singleton] at hf'
      subst hf'
      show OkM w.items[i].msg
      exact ho _ (List.getElem_mem hi)
  · exact ho f (List.mem_of_mem_drop hf')
theorem handle_ok {w : Wi} {k q : Int} (hw : GoodW w) (ho : OkW w) : OkW (handleS w k q).1 := by
  by_cases h0 : (handleS w k q).2.2 = 0
  · rcases handle_three hw h0 with ⟨_, e⟩ | ⟨i, hi, _, _, _, e⟩ | ⟨i, hi, _, _, _, hv, e⟩
    · rw [e]; exact ho
    · rw [e]; exact remove_ok ho
    · rw [e]; exact release_ok ho hi
  · rw [handle_err h0]
    intro f hf
    simp [zeroW] at hf
theorem handle_len {w : Wi} {k q : Int} (hw : GoodW w) : (handleS w k q).1.items.length ≤ 1000000 := by
  by_cases h0 : (handleS w k q).2.2 = 0
  · have := (handle_good hw h0).len
    omega
  · rw [handle_err h0]
    simp [zeroW]
theorem release_items {w : Wi} {i : Nat} (hi : i < w.items.length) (f : Fl) : (releaseS w i f).items = w.items.set i (relF f) := by
  rw [List.set_eq_take_append_cons_drop, if_pos hi]
  simp [releaseS]
theorem at_congr {l l' : List Fl} (h : l.map (·.id) = l'.map (·.id)) (q : Int) : atS l q = atS l' q := by
  have aux : ∀ (l l' : List Fl) (k : Nat), l.map (·.id) = l'.map (·.id) → idxS (fun f => decide (f.id = q)) l k = idxS (fun f => decide (f.id = q)) l' k := by
    intro l
    induction l with
    | nil =>
      intro l' k h
      cases l' with
      | nil => rfl
      | cons a l' => simp at h
    | cons a l ih =>
      intro l' k h
      cases l' with
      | nil => simp at h
      | cons b l' =>
        simp only [List.map_cons, List.cons.injEq] at h
        rw [idxS, idxS, h.1, ih l' (k + 1) h.2]
  exact aux l l' 0 h
theorem handle_again {w : Wi} {k q : Int} (hw : GoodW w) (h0 : (handleS w k q).2.2 = 0) : handleS (handleS w k q).1 k q = handleS w k q := by
  have hk : k = 4 ∨ k = 5 ∨ k = 7 := Decidable.byContradiction fun h => by
    rw [handle_kind h] at h0
    exact absurd h0 (by decide)
  rcases handle_three hw h0 with ⟨_, e⟩ | ⟨i, hi, ha, hid, hkk, e⟩ | ⟨i, hi, ha, hid, h5, hv, e⟩
  · have e1 : (handleS w k q).1 = w := by rw [e]
    rw [e1]
  · have e1 : (handleS w k q).1 = removeS w i w.items[i].id := by rw [e]
    have ho : atS (removeS w i w.items[i].id).items q = -1 := by
      rcases at_cases (removeS w i w.items[i].id).items q with h | ⟨j, hj, _, hj2⟩
      · exact h
      · have hm : (removeS w i w.items[i].id).items[j] ∈ w.items.eraseIdx i := List.getElem_mem hj
        exact absurd (hj2.trans hid.symm) (erase_ids hw.nodup hi hm)
    rw [e1, handle_out hk ho, if_neg (by omega), e]
  · have e1 : (handleS w k q).1 = releaseS w i w.items[i] := by rw [e]
    have hri := release_items hi w.items[i]
    have hlen : (releaseS w i w.items[i]).items.length = w.items.length := by rw [hri]; simp
    have hi2 : i < (releaseS w i w.items[i]).items.length := by omega
    have hg : (releaseS w i w.items[i]).items[i] = relF w.items[i] := by
      simp only [hri, List.getElem_set_self]
    have ha2 : atS (releaseS w i w.items[i]).items q = (i : Nat) := (at_congr (rel_ids hi) q).trans ha
    have hh := handle_in hk hi2 ha2
    rw [hg, if_neg (by omega), if_pos h5, if_pos (by exact hv)] at hh
    rw [e1, hh, e]
    have : releaseS (releaseS w i w.items[i]) i (relF w.items[i]) = releaseS w i w.items[i] := by
      have h2 : (releaseS (releaseS w i w.items[i]) i (relF w.items[i])).items = (releaseS w i w.items[i]).items := by
        rw [release_items hi2, hri, List.set_set]
        rfl
      have : ∀ a b : Wi, a.limit = b.limit → a.items = b.items → a.pool = b.pool → a = b := by
        intro a b h1 h2 h3
        cases a; cases b
        simp_all
      exact this _ _ rfl h2 rfl
    rw [this]
structure OpI where
  kind : Int
  id : Int
  msg : Ms
def encO (o : OpI) : List D := [.one (.int .i64 o.kind), .one (.int .i64 o.id), .one (.string o.msg.topic), .one (.string o.msg.payload), .one (.int .i64 o.msg.level), .one (.bool o.msg.retain), .one (.int .i64 o.msg.prio), .one (.int .i64 o.msg.expires), .one (.string o.msg.sender), .one (.int .i64 o.msg.seq), .row (o.msg.props.map encP)]
abbrev rowO (l : List OpI) : AV := .d (.row (l.map encO))
abbrev aggO (o : OpI) : AV := .agg [i64 o.kind, i64 o.id, st o.msg.topic, st o.msg.payload, i64 o.msg.level, bo o.msg.retain, i64 o.msg.prio, i64 o.msg.expires, st o.msg.sender, i64 o.msg.seq, rowP o.msg.props]
def pktId (w : Wi) (o : OpI) : Int := if o.id < 0 ∧ -1 - o.id < w.items.length then (match w.items[(-1 - o.id).toNat]? with | some f => f.id | none => 0) else o.id
set_option maxHeartbeats 16000000 in
set_option maxRecDepth 10000 in
theorem packet_pr (w : Wi) (o : OpI) (hl : w.items.length ≤ 1000000) (h0 : -9223372036854775808 ≤ o.id) : ACallPR Try.prog 32 [aggW w, aggO o] fun r' => nd3 r' = aggK ⟨o.kind, pktId w o, false, zeroM⟩ := by
  have hlm : (w.items.map encF).length = w.items.length := List.length_map ..
  by_cases hin : o.id < 0 ∧ -1 - o.id < w.items.length
  · have hp : pktId w o = (w.items[(-1 - o.id).toNat]'(by omega)).id := by rw [pktId, if_pos hin, List.getElem?_eq_getElem (by omega)]
    rw [hp]
    refine ACalls.body tok Try.func32 rfl (by kernel_rfl) (by rw [Try.ntmps32]; simp) ?_
    simp only [Try.ntmps32, Try.results32, argT]
    repeat' (first|refine AL.do tok rfl rfl ?_|refine AL.nil ?_|refine AW.seq fun K hK => ?_|refine AW.region ?_|refine AL.no rfl rfl ?_|(refine hK _ ?_; clear hK)|(clear hK; refine hK _ ?_; clear hK)|(clear hK; clear hK; refine hK _ ?_; clear hK)|refine qa7 qv1 ?_|refine qa7 qv2 ?_|refine qa7 qv3 ?_|refine qa7 (qv4 tok) ?_|refine qa7 (qv5 tok) ?_|refine qa7 qv6 ?_|refine qa7 qv7 ?_|refine qa7 (qv8 tok) ?_|refine qa7 (qv9 tok) ?_|refine qa7 (qv10 tok) ?_|refine qa7 (qv11 tok) ?_|refine qa7 (qv12 tok) ?_|refine qa7 (qv13 tok) ?_|refine qa7 (qv14 tok) ?_|refine qa7 (qv15 tok) ?_|refine qa7 (qv16 tok) ?_|refine qa7 qv17 ?_|refine qa7 (qv18 tok) ?_|refine qa7 qv19 ?_|refine qa7 (qv20 tok) ?_|refine qa7 (qv21 tok) ?_|refine qa7 (qv22 tok) ?_|refine qa7 (qv23 tok) ?_|refine qa7 (qv24 tok) ?_|refine qa7 qv26 ?_|refine qa7 qv27 ?_|refine qa7 (qv28 tok) ?_|refine qa1 tok ?_|refine qa2 tok ?_|refine qa3 tok ?_|refine AL.loadR tok rfl rfl rfl rfl rfl rfl ?_|refine qa4 tok ?_|refine qa5 tok ?_|refine AW.block ?_|refine AW.exit ?_|refine AW.skip ?_|((fail_if_success (refine AL.guard (b := true) rfl rfl ?_ ?_)); (fail_if_success (refine AL.guard (b := false) rfl rfl ?_ ?_)); refine AL.guard rfl rfl (fun hg => ?_) (fun hg => ?_) <;> ((try simp only [DX] at hg) <;> (try first|(exfalso; omega)|exact absurd trivial hg|exact False.elim hg|exact absurd rfl hg)))|refine AW.condT rfl ?_|refine AW.condF rfl ?_|(refine AW.cond rfl (fun hg => ?_) (fun hg => ?_) <;> ((try simp only [DX] at hg) <;> (try first|(exfalso; omega)|exact absurd trivial hg|exact False.elim hg|exact absurd rfl hg))))
    all_goals (try simp only [DX] at *)
    all_goals try (exfalso; omega)
    refine AW.anyN mix [[], [0], [], [2], [], [4], [4, 5], [2, 3, 4, 5, 6], [2, 3, 4, 5, 6, 7], [2, 3, 4, 5, 6, 7, 8], [0, 1, 2, 3, 4, 5, 6, 7, 8, 9], [0, 1, 2, 3, 4, 5, 6, 7, 8, 9, 10]] [[19, 20, 21, 22, 23, 24, 25, 26], [19, 20, 21, 22, 23, 24, 25, 26], [17, 18, 21, 22, 23], [17, 18, 21, 22, 23], [17, 18, 19, 20], [17, 18, 19, 20], [17, 18, 19, 20], [17, 18], [17, 18], [17, 18], [], []] [[], [], [], [], [], [], [], [], [], [], [], []] [(11, 2)] 3 15 rfl (by rfl) (by decide +kernel) rfl (by first|assumption|(intro b hb; cases hb)) ?_ <;> repeat' (first|refine AR.step rfl rfl (by first|exact OSp.do tok rfl rfl rfl|exact OSp.no rfl rfl|exact OSp.noN rfl|exact OSp.v rfl rfl qv1|exact OSp.v rfl rfl qv2|exact OSp.v rfl rfl qv3|exact OSp.v rfl rfl (qv4 tok)|exact OSp.v rfl rfl (qv5 tok)|exact OSp.v rfl rfl qv6|exact OSp.v rfl rfl qv7|exact OSp.v rfl rfl (qv8 tok)|exact OSp.v rfl rfl (qv9 tok)|exact OSp.v rfl rfl (qv10 tok)|exact OSp.v rfl rfl (qv11 tok)|exact OSp.v rfl rfl (qv12 tok)|exact OSp.v rfl rfl (qv13 tok)|exact OSp.v rfl rfl (qv14 tok)|exact OSp.v rfl rfl (qv15 tok)|exact OSp.v rfl rfl (qv16 tok)|exact OSp.v rfl rfl qv17|exact OSp.v rfl rfl (qv18 tok)|exact OSp.v rfl rfl qv19|exact OSp.v rfl rfl (qv20 tok)|exact OSp.v rfl rfl (qv21 tok)|exact OSp.v rfl rfl (qv22 tok)|exact OSp.v rfl rfl (qv23 tok)|exact OSp.v rfl rfl (qv24 tok)|exact OSp.v rfl rfl qv26|exact OSp.v rfl rfl qv27|exact OSp.v rfl rfl (qv28 tok)|exact OSp.copy tok rfl rfl rfl rfl rfl rfl rfl (by (first | (intro x hx; obtain ⟨_, _, rfl⟩ := List.mem_map.1 hx; rfl) | (intro x hx; replace hx := List.mem_of_mem_take (List.mem_of_mem_drop hx); obtain ⟨_, _, rfl⟩ := List.mem_map.1 hx; rfl) | (simp; done))) rfl rfl rfl rfl|exact OSp.buildSlice tok rfl rfl rfl rfl rfl rfl rfl rfl|exact OSp.append tok rfl rfl rfl rfl rfl rfl rfl rfl rfl rfl rfl (by first|(intro x hx; obtain ⟨_, _, rfl⟩ := List.mem_map.1 hx; rfl)|(simp; done)) (by simp; omega) (by simp; omega)|exact OSp.alloc tok rfl rfl rfl rfl|exact OSp.box tok rfl rfl rfl rfl rfl|exact OSp.boxC tok rfl rfl rfl rfl rfl|exact OSp.store tok rfl rfl rfl rfl rfl rfl rfl rfl|exact OSp.appIn tok rfl rfl rfl rfl rfl (by first|assumption|(intro e; have := congrArg List.length e; simp at this; omega)) rfl rfl (by (first | (intro x hx; obtain ⟨_, _, rfl⟩ := List.mem_map.1 hx; rfl) | (intro x hx; replace hx := List.mem_of_mem_take (List.mem_of_mem_drop hx); obtain ⟨_, _, rfl⟩ := List.mem_map.1 hx; rfl) | (simp; done))) rfl rfl rfl rfl (by first|omega|(simp; omega))|exact OSp.copyX tok rfl rfl rfl rfl rfl rfl rfl rfl (by first|omega|(simp; omega)) (by first|omega|(simp; omega)) (by first|omega|(simp; omega)) (by first|omega|(simp; omega)) (by first|omega|(simp; omega))) (by rfl) (by rfl) ?_|refine AR.done rfl rfl ?_|(refine AR.guard rfl rfl rfl rfl (fun hg => ?_) (fun hg => ?_) <;> ((try simp only [DX] at hg) <;> (try first|(exfalso; omega)|exact absurd trivial hg|exact False.elim hg|exact absurd rfl hg))))
    repeat (first|refine AL.do tok rfl rfl ?_|refine AL.nil ?_|refine AW.seq fun K hK => ?_|refine AW.region ?_|refine AL.no rfl rfl ?_|(refine hK _ ?_; clear hK)|(clear hK; refine hK _ ?_; clear hK)|(clear hK; clear hK; refine hK _ ?_; clear hK)|refine qa7 qv1 ?_|refine qa7 qv2 ?_|refine qa7 qv3 ?_|refine qa7 (qv4 tok) ?_|refine qa7 (qv5 tok) ?_|refine qa7 qv6 ?_|refine qa7 qv7 ?_|refine qa7 (qv8 tok) ?_|refine qa7 (qv9 tok) ?_|refine qa7 (qv10 tok) ?_|refine qa7 (qv11 tok) ?_|refine qa7 (qv12 tok) ?_|refine qa7 (qv13 tok) ?_|refine qa7 (qv14 tok) ?_|refine qa7 (qv15 tok) ?_|refine qa7 (qv16 tok) ?_|refine qa7 qv17 ?_|refine qa7 (qv18 tok) ?_|refine qa7 qv19 ?_|refine qa7 (qv20 tok) ?_|refine qa7 (qv21 tok) ?_|refine qa7 (qv22 tok) ?_|refine qa7 (qv23 tok) ?_|refine qa7 (qv24 tok) ?_|refine qa7 qv26 ?_|refine qa7 qv27 ?_|refine qa7 (qv28 tok) ?_|refine qa1 tok ?_|refine qa2 tok ?_|refine qa3 tok ?_|refine AL.loadR tok rfl rfl rfl rfl rfl rfl ?_|refine qa4 tok ?_|refine qa5 tok ?_|refine AW.block ?_|refine AW.exit ?_|refine AW.skip ?_)
    refine AW.ret ?_
    refine ⟨_, _, _, _, rfl, Out.pure rfl ⟨?_, rfl⟩ rfl⟩
    rfl
  · have hp : pktId w o = o.id := by rw [pktId, if_neg hin]
    rw [hp]
    refine ACalls.body tok Try.func32 rfl (by kernel_rfl) (by rw [Try.ntmps32]; simp) ?_
    simp only [Try.ntmps32, Try.results32, argT]
    repeat' (first|refine AL.do tok rfl rfl ?_|refine AL.nil ?_|refine AW.seq fun K hK => ?_|refine AW.region ?_|refine AL.no rfl rfl ?_|(refine hK _ ?_; clear hK)|(clear hK; refine hK _ ?_; clear hK)|(clear hK; clear hK; refine hK _ ?_; clear hK)|refine qa7 qv1 ?_|refine qa7 qv2 ?_|refine qa7 qv3 ?_|refine qa7 (qv4 tok) ?_|refine qa7 (qv5 tok) ?_|refine qa7 qv6 ?_|refine qa7 qv7 ?_|refine qa7 (qv8 tok) ?_|refine qa7 (qv9 tok) ?_|refine qa7 (qv10 tok) ?_|refine qa7 (qv11 tok) ?_|refine qa7 (qv12 tok) ?_|refine qa7 (qv13 tok) ?_|refine qa7 (qv14 tok) ?_|refine qa7 (qv15 tok) ?_|refine qa7 (qv16 tok) ?_|refine qa7 qv17 ?_|refine qa7 (qv18 tok) ?_|refine qa7 qv19 ?_|refine qa7 (qv20 tok) ?_|refine qa7 (qv21 tok) ?_|refine qa7 (qv22 tok) ?_|refine qa7 (qv23 tok) ?_|refine qa7 (qv24 tok) ?_|refine qa7 qv26 ?_|refine qa7 qv27 ?_|refine qa7 (qv28 tok) ?_|refine qa1 tok ?_|refine qa2 tok ?_|refine qa3 tok ?_|refine AL.loadR tok rfl rfl rfl rfl rfl rfl ?_|refine qa4 tok ?_|refine qa5 tok ?_|refine AW.block ?_|refine AW.exit ?_|refine AW.skip ?_|((fail_if_success (refine AL.guard (b := true) rfl rfl ?_ ?_)); (fail_if_success (refine AL.guard (b := false) rfl rfl ?_ ?_)); refine AL.guard rfl rfl (fun hg => ?_) (fun hg => ?_) <;> ((try simp only [DX] at hg) <;> (try first|(exfalso; omega)|exact absurd trivial hg|exact False.elim hg|exact absurd rfl hg)))|refine AW.condT rfl ?_|refine AW.condF rfl ?_|(refine AW.cond rfl (fun hg => ?_) (fun hg => ?_) <;> ((try simp only [DX] at hg) <;> (try first|(exfalso; omega)|exact absurd trivial hg|exact False.elim hg|exact absurd rfl hg))))
    all_goals (try simp only [DX] at *)
    all_goals try (exfalso; omega)
    all_goals
      refine AW.ret ?_
      refine ⟨_, _, _, _, rfl, Out.pure rfl ⟨?_, rfl⟩ rfl⟩
      rfl
theorem packet_calls (w : Wi) (o : OpI) (hl : w.items.length ≤ 1000000) (h0 : -9223372036854775808 ≤ o.id) : ACallP Try.prog 32 [aggW w, aggO o] (aggK ⟨o.kind, pktId w o, false, zeroM⟩) := (packet_pr w o hl h0).nilR
abbrev aggQ0 (k q : Int) : AV := .agg [i64 k, i64 q, bo false, st ⟨#[]⟩, st ⟨#[]⟩, i64 0, bo false, i64 0, i64 0, st ⟨#[]⟩, i64 0, .nilrow, st ⟨#[]⟩, st ⟨#[]⟩, bo false, i64 0, i64 0, i64 0, bo false, i64 0, st ⟨#[]⟩, st ⟨#[]⟩, i64 0, bo false, i64 0, i64 0, st ⟨#[]⟩, i64 0, .nilrow, bo false, i64 0, .nilrow, .nilrow, .nilrow]
theorem handle0_calls (w : Wi) (k q : Int) (hw : GoodW w) (ho : OkW w) : ACallP Try.prog 16 [aggW w, aggQ0 k q] (handleAV (handleS w k q)) :=
  (handle_calls w k q (restK ⟨k, q, false, zeroM⟩) hw ho).nilA rfl
theorem handleK_calls (w : Wi) (p : Pk) (hw : GoodW w) (ho : OkW w) : ACallP Try.prog 16 [aggW w, aggK p] (handleAV (handleS w p.kind p.id)) := handle_calls w p.kind p.id (restK p) hw ho
theorem refHandleK_calls (w : Wi) (p : Pk) (hw : GoodW w) : ACallP Try.prog 17 [aggW w, aggK p] (handleAV (handleS w p.kind p.id)) := refHandle_calls w p.kind p.id (restK p) hw
theorem new_calls (n : Int) : ACallP Try.prog 30 [i64 n] (aggW (newS n)) := (new_pr n).nilR
theorem refNew_calls (n : Int) : ACallP Try.prog 31 [i64 n] (aggW (newS n)) := (refNew_pr n).nilR
end Go.Proofs.Try
