/- queue: the laws QueueKeeps, QueuePlays. -/
import Derived.Test.YtfahajleoabojaaQueJ
import Derived.Test.YtfahajleoabojaaAM53
set_option linter.unusedSimpArgs false
set_option linter.unusedVariables false
namespace Go.Proofs.Try
open Go Go.AM

theorem step_good {q : Qu} {o : OpQ} (h : GoodQ q) : GoodQ (stepS q o).1 := by
  unfold stepS
  split
  · split
    · rename_i h0; exact push_good h h0
    · exact h
  · split
    · split
      · rename_i h0; exact pop_good h h0
      · exact h
    · split
      · split
        · rename_i h0; exact ret_good h h0
        · exact h
      · exact left_good h _
theorem step_ok {q : Qu} {o : OpQ} (h : OkQ q) (ho : OkO o) : OkQ (stepS q o).1 ∧ OkE (stepS q o).2 ∧ (stepS q o).2.length ≤ 1 := by
  have hn : OkE [] := fun e he => by simp at he
  unfold stepS
  split
  · split
    · exact ⟨push_ok h ho.1, hn, by simp⟩
    · exact ⟨h, hn, by simp⟩
  · split
    · split
      · refine ⟨(pop_ok h).1, fun e he => ?_, by simp⟩
        simp only [List.mem_singleton] at he
        subst he
        exact (pop_ok h).2
      · exact ⟨h, hn, by simp⟩
    · split
      · split
        · exact ⟨ret_ok h ho.2, hn, by simp⟩
        · exact ⟨h, hn, by simp⟩
      · exact ⟨left_ok h _, hn, by simp⟩
set_option maxHeartbeats 64000000 in
set_option maxRecDepth 10000 in
theorem queuePlays_law (x0 x1 : AV) (h0 : AT ts 26 x0) (h1 : AT ts 36 x1) : ACallP Try.prog 5 [x0, x1] (bo true) := by
  obtain ⟨q, rfl, ho⟩ := at_Q h0
  obtain ⟨ops, rfl, hops, hol⟩ := at_O h1
  have hlm : (ops.map encO).length = ops.length := List.length_map ..
  by_cases hs : q.ready.length ≤ 60 ∧ GoodQ q
  rotate_left
  · have s1 := small_f ho hs
    refine ACalls.body tok Try.func5 rfl (by kernel_rfl) (by rw [Try.ntmps5]; simp) ?_
    simp only [Try.ntmps5, Try.results5, argT]
    repeat' (first|refine AL.do tok rfl rfl ?_|refine AL.nil ?_|refine AW.seq fun K hK => ?_|refine AW.region ?_|refine AL.no rfl rfl ?_|(refine hK _ ?_; clear hK)|(clear hK; refine hK _ ?_; clear hK)|(clear hK; clear hK; refine hK _ ?_; clear hK)|refine qa7 qv1 ?_|refine qa7 qv2 ?_|refine qa7 qv3 ?_|refine qa7 (qv4 tok) ?_|refine qa7 (qv5 tok) ?_|refine qa7 qv6 ?_|refine qa7 qv7 ?_|refine qa7 (qv8 tok) ?_|refine qa7 (qv9 tok) ?_|refine qa7 (qv10 tok) ?_|refine qa7 (qv11 tok) ?_|refine qa7 (qv12 tok) ?_|refine qa7 (qv13 tok) ?_|refine qa7 (qv14 tok) ?_|refine qa7 (qv15 tok) ?_|refine qa7 (qv16 tok) ?_|refine qa7 qv17 ?_|refine qa7 (qv18 tok) ?_|refine qa7 qv19 ?_|refine qa7 (qv20 tok) ?_|refine qa7 (qv21 tok) ?_|refine qa7 (qv22 tok) ?_|refine qa7 (qv23 tok) ?_|refine qa7 (qv24 tok) ?_|refine qa7 qv26 ?_|refine qa7 qv27 ?_|refine qa7 (qv28 tok) ?_|refine qa7 (qv29 tok) ?_|refine qa1 tok ?_|refine qa2 tok ?_|refine qa3 tok ?_|refine AL.loadR tok rfl rfl rfl rfl rfl rfl ?_|refine qa4 tok ?_|refine qa5 tok ?_|refine AW.block ?_|refine AW.exit ?_|refine AW.skip ?_|refine qc1 (s1 ..) ?_|refine qc2 (s1 ..) ?_|refine qc1 (example_calls ..) ?_|refine qc2 (example_calls ..) ?_|((fail_if_success (refine AL.guard (b := true) rfl rfl ?_ ?_)); (fail_if_success (refine AL.guard (b := false) rfl rfl ?_ ?_)); refine AL.guard rfl rfl (fun hg => ?_) (fun hg => ?_) <;> ((try simp only [DX] at hg) <;> (try first|(exfalso; omega)|exact absurd trivial hg|exact False.elim hg|exact absurd rfl hg)))|refine AW.condT rfl ?_|refine AW.condF rfl ?_|(refine AW.cond rfl (fun hg => ?_) (fun hg => ?_) <;> ((try simp only [DX] at hg) <;> (try first|(exfalso; omega)|exact absurd trivial hg|exact False.elim hg|exact absurd rfl hg))))
    all_goals (try simp only [DX] at *)
    all_goals try (exfalso; first | exact hg | exact hg rfl)
    all_goals
      refine AW.ret ?_
      refine ⟨_, _, _, _, rfl, Out.pure rfl ⟨?_, rfl⟩ rfl⟩
      rfl
  have s1 := small_t ho hs
  by_cases hl : ops.length ≤ 60
  rotate_left
  · refine ACalls.body tok Try.func5 rfl (by kernel_rfl) (by rw [Try.ntmps5]; simp) ?_
    simp only [Try.ntmps5, Try.results5, argT]
    repeat' (first|refine AL.do tok rfl rfl ?_|refine AL.nil ?_|refine AW.seq fun K hK => ?_|refine AW.region ?_|refine AL.no rfl rfl ?_|(refine hK _ ?_; clear hK)|(clear hK; refine hK _ ?_; clear hK)|(clear hK; clear hK; refine hK _ ?_; clear hK)|refine qa7 qv1 ?_|refine qa7 qv2 ?_|refine qa7 qv3 ?_|refine qa7 (qv4 tok) ?_|refine qa7 (qv5 tok) ?_|refine qa7 qv6 ?_|refine qa7 qv7 ?_|refine qa7 (qv8 tok) ?_|refine qa7 (qv9 tok) ?_|refine qa7 (qv10 tok) ?_|refine qa7 (qv11 tok) ?_|refine qa7 (qv12 tok) ?_|refine qa7 (qv13 tok) ?_|refine qa7 (qv14 tok) ?_|refine qa7 (qv15 tok) ?_|refine qa7 (qv16 tok) ?_|refine qa7 qv17 ?_|refine qa7 (qv18 tok) ?_|refine qa7 qv19 ?_|refine qa7 (qv20 tok) ?_|refine qa7 (qv21 tok) ?_|refine qa7 (qv22 tok) ?_|refine qa7 (qv23 tok) ?_|refine qa7 (qv24 tok) ?_|refine qa7 qv26 ?_|refine qa7 qv27 ?_|refine qa7 (qv28 tok) ?_|refine qa7 (qv29 tok) ?_|refine qa1 tok ?_|refine qa2 tok ?_|refine qa3 tok ?_|refine AL.loadR tok rfl rfl rfl rfl rfl rfl ?_|refine qa4 tok ?_|refine qa5 tok ?_|refine AW.block ?_|refine AW.exit ?_|refine AW.skip ?_|refine qc1 (s1 ..) ?_|refine qc2 (s1 ..) ?_|refine qc1 (example_calls ..) ?_|refine qc2 (example_calls ..) ?_|((fail_if_success (refine AL.guard (b := true) rfl rfl ?_ ?_)); (fail_if_success (refine AL.guard (b := false) rfl rfl ?_ ?_)); refine AL.guard rfl rfl (fun hg => ?_) (fun hg => ?_) <;> ((try simp only [DX] at hg) <;> (try first|(exfalso; omega)|exact absurd trivial hg|exact False.elim hg|exact absurd rfl hg)))|refine AW.condT rfl ?_|refine AW.condF rfl ?_|(refine AW.cond rfl (fun hg => ?_) (fun hg => ?_) <;> ((try simp only [DX] at hg) <;> (try first|(exfalso; omega)|exact absurd trivial hg|exact False.elim hg|exact absurd rfl hg))))
    all_goals (try simp only [DX] at *)
    all_goals try (exfalso; first | exact hg | exact hg rfl | omega)
    all_goals
      refine AW.ret ?_
      refine ⟨_, _, _, _, rfl, Out.pure rfl ⟨?_, rfl⟩ rfl⟩
      rfl
  refine ACalls.body tok Try.func5 rfl (by kernel_rfl) (by rw [Try.ntmps5]; simp) ?_
  simp only [Try.ntmps5, Try.results5, argT]
  repeat' (first|refine AL.do tok rfl rfl ?_|refine AL.nil ?_|refine AW.seq fun K hK => ?_|refine AW.region ?_|refine AL.no rfl rfl ?_|(refine hK _ ?_; clear hK)|(clear hK; refine hK _ ?_; clear hK)|(clear hK; clear hK; refine hK _ ?_; clear hK)|refine qa7 qv1 ?_|refine qa7 qv2 ?_|refine qa7 qv3 ?_|refine qa7 (qv4 tok) ?_|refine qa7 (qv5 tok) ?_|refine qa7 qv6 ?_|refine qa7 qv7 ?_|refine qa7 (qv8 tok) ?_|refine qa7 (qv9 tok) ?_|refine qa7 (qv10 tok) ?_|refine qa7 (qv11 tok) ?_|refine qa7 (qv12 tok) ?_|refine qa7 (qv13 tok) ?_|refine qa7 (qv14 tok) ?_|refine qa7 (qv15 tok) ?_|refine qa7 (qv16 tok) ?_|refine qa7 qv17 ?_|refine qa7 (qv18 tok) ?_|refine qa7 qv19 ?_|refine qa7 (qv20 tok) ?_|refine qa7 (qv21 tok) ?_|refine qa7 (qv22 tok) ?_|refine qa7 (qv23 tok) ?_|refine qa7 (qv24 tok) ?_|refine qa7 qv26 ?_|refine qa7 qv27 ?_|refine qa7 (qv28 tok) ?_|refine qa7 (qv29 tok) ?_|refine qa1 tok ?_|refine qa2 tok ?_|refine qa3 tok ?_|refine AL.loadR tok rfl rfl rfl rfl rfl rfl ?_|refine qa4 tok ?_|refine qa5 tok ?_|refine AW.block ?_|refine AW.exit ?_|refine AW.skip ?_|refine qc1 (s1 ..) ?_|refine qc2 (s1 ..) ?_|refine qc1 (example_calls ..) ?_|refine qc2 (example_calls ..) ?_|((fail_if_success (refine AL.guard (b := true) rfl rfl ?_ ?_)); (fail_if_success (refine AL.guard (b := false) rfl rfl ?_ ?_)); refine AL.guard rfl rfl (fun hg => ?_) (fun hg => ?_) <;> ((try simp only [DX] at hg) <;> (try first|(exfalso; omega)|exact absurd trivial hg|exact False.elim hg|exact absurd rfl hg)))|refine AW.condT rfl ?_|refine AW.condF rfl ?_|(refine AW.cond rfl (fun hg => ?_) (fun hg => ?_) <;> ((try simp only [DX] at hg) <;> (try first|(exfalso; omega)|exact absurd trivial hg|exact False.elim hg|exact absurd rfl hg))))
  all_goals (try simp only [DX] at *)
  all_goals try (exfalso; first | exact hg | exact hg rfl | omega)
  refine AW.nilOwn 5 41 12 rfl ?_
  (try simp only [hlm])
  refine AW.loop (ι := Nat × Qu × List En) (fun x => ⟨67, [(23, i64 x.1), (22, i64 ops.length), (21, rowO ops), (5, .own (.loc 1)), (2, .ptr (.loc 0) 0), (4, bo false)], [(1, some (.row 41 12 (x.2.2.map encE))), (0, some (.box 26 [st x.2.1.spec.name, i64 x.2.1.spec.max, i64 x.2.1.spec.ttl, i64 x.2.1.spec.att, st x.2.1.spec.dead, i64 x.2.1.next, rowE x.2.1.ready]))], [], 2⟩)
    (fun x => x.1 ≤ ops.length ∧ GoodQ x.2.1 ∧ OkQ x.2.1 ∧ OkE x.2.2 ∧ x.2.2.length ≤ x.1) (fun x => ops.length - x.1) (0, q, []) ⟨Nat.zero_le _, hs.2, ho, fun e he => by simp at he, by simp⟩ ?_ ?_
  · (refine Imp.weak id (fun _ _ _ _ h => h) (by first|assumption|(intro b hb; cases hb)) ?_ ?_ <;> (repeat' (first|exact trivial|exact Nat.lt_of_lt_of_le (Nat.lt_succ_self _) (Nat.le_of_ble_eq_true rfl)|exact rfl|exact Or.inl ⟨rfl, rfl⟩|exact Or.inr ⟨rfl, LF.fn _ _ ‹_›⟩|refine ⟨?_, ?_⟩)))
  clear s1 hs ho
  rintro ⟨i, q, out⟩ ⟨hi, hq, hok, hout, hol2⟩ K1 hK1
  simp only at hi hq hok hout hol2
  dsimp only
  have hom : (out.map encE).length = out.length := List.length_map ..
  by_cases hlt : i < ops.length
  · have hoo := hops ops[i] (List.getElem_mem _)
    by_cases hk : ops[i].kind = 4
    · by_cases hn : ops[i].n < 0 ∨ (out.length : Int) ≤ ops[i].n
      · repeat' (first|refine AL.do tok rfl rfl ?_|refine AL.nil ?_|refine AW.seq fun K hK => ?_|refine AW.region ?_|refine AL.no rfl rfl ?_|(refine hK _ ?_; clear hK)|(clear hK; refine hK _ ?_; clear hK)|(clear hK; clear hK; refine hK _ ?_; clear hK)|refine qa7 qv1 ?_|refine qa7 qv2 ?_|refine qa7 qv3 ?_|refine qa7 (qv4 tok) ?_|refine qa7 (qv5 tok) ?_|refine qa7 qv6 ?_|refine qa7 qv7 ?_|refine qa7 (qv8 tok) ?_|refine qa7 (qv9 tok) ?_|refine qa7 (qv10 tok) ?_|refine qa7 (qv11 tok) ?_|refine qa7 (qv12 tok) ?_|refine qa7 (qv13 tok) ?_|refine qa7 (qv14 tok) ?_|refine qa7 (qv15 tok) ?_|refine qa7 (qv16 tok) ?_|refine qa7 qv17 ?_|refine qa7 (qv18 tok) ?_|refine qa7 qv19 ?_|refine qa7 (qv20 tok) ?_|refine qa7 (qv21 tok) ?_|refine qa7 (qv22 tok) ?_|refine qa7 (qv23 tok) ?_|refine qa7 (qv24 tok) ?_|refine qa7 qv26 ?_|refine qa7 qv27 ?_|refine qa7 (qv28 tok) ?_|refine qa7 (qv29 tok) ?_|refine qa1 tok ?_|refine qa2 tok ?_|refine qa3 tok ?_|refine AL.loadR tok rfl rfl rfl rfl rfl rfl ?_|refine qa4 tok ?_|refine qa5 tok ?_|refine AW.block ?_|refine AW.exit ?_|refine AW.skip ?_|((fail_if_success (refine AL.guard (b := true) rfl rfl ?_ ?_)); (fail_if_success (refine AL.guard (b := false) rfl rfl ?_ ?_)); refine AL.guard rfl rfl (fun hg => ?_) (fun hg => ?_) <;> ((try simp only [DX] at hg) <;> (try first|(exfalso; omega)|exact absurd trivial hg|exact False.elim hg|exact absurd rfl hg)))|refine AW.condT rfl ?_|refine AW.condF rfl ?_|(refine AW.cond rfl (fun hg => ?_) (fun hg => ?_) <;> ((try simp only [DX] at hg) <;> (try first|(exfalso; omega)|exact absurd trivial hg|exact False.elim hg|exact absurd rfl hg))))
        all_goals (try simp only [DX] at *)
        all_goals try (exfalso; omega)
        all_goals
          refine hK1 _ (i + 1, q, out) ⟨by simp only; omega, hq, hok, hout, by simp only; omega⟩ (by simp only; omega) ?_
          (refine Imp.weak id (fun _ _ _ _ h => h) (by first|assumption|(intro b hb; cases hb)) ?_ ?_ <;> (repeat' (first|exact trivial|exact Nat.lt_of_lt_of_le (Nat.lt_succ_self _) (Nat.le_of_ble_eq_true rfl)|exact rfl|exact Or.inl ⟨rfl, rfl⟩|exact Or.inr ⟨rfl, LF.fn _ _ ‹_›⟩|refine ⟨?_, ?_⟩)))
      · obtain ⟨k, hk1, hk2⟩ : ∃ k : Nat, ((out.length : Int) - 1 - ops[i].n) = (k : Nat) ∧ k < out.length := ⟨((out.length : Int) - 1 - ops[i].n).toNat, by omega, by omega⟩
        have hoo2 : OkO ⟨2, ops[i].now, ops[i].n, ops[i].m, out[k]⟩ := ⟨hoo.1, hout _ (List.getElem_mem _)⟩
        have st1 := step_calls q ⟨2, ops[i].now, ops[i].n, ops[i].m, out[k]⟩ hq hok hoo2
        have hg2 := step_good (o := ⟨2, ops[i].now, ops[i].n, ops[i].m, out[k]⟩) hq
        have ho2 := step_ok (o := ⟨2, ops[i].now, ops[i].n, ops[i].m, out[k]⟩) hok hoo2
        generalize stepS q ⟨2, ops[i].now, ops[i].n, ops[i].m, out[k]⟩ = r at *
        obtain ⟨v, es⟩ := r
        replace st1 : ACallP Try.prog 19 [aggQ q, aggO ⟨2, ops[i].now, ops[i].n, ops[i].m, out[k]⟩] (.tup [aggQ v, rowE es, bo true]) := st1
        simp only at hg2 ho2
        have hesm : (es.map encE).length = es.length := List.length_map ..
        repeat' (first|refine AL.do tok rfl rfl ?_|refine AL.nil ?_|refine AW.seq fun K hK => ?_|refine AW.region ?_|refine AL.no rfl rfl ?_|(refine hK _ ?_; clear hK)|(clear hK; refine hK _ ?_; clear hK)|(clear hK; clear hK; refine hK _ ?_; clear hK)|refine qa7 qv1 ?_|refine qa7 qv2 ?_|refine qa7 qv3 ?_|refine qa7 (qv4 tok) ?_|refine qa7 (qv5 tok) ?_|refine qa7 qv6 ?_|refine qa7 qv7 ?_|refine qa7 (qv8 tok) ?_|refine qa7 (qv9 tok) ?_|refine qa7 (qv10 tok) ?_|refine qa7 (qv11 tok) ?_|refine qa7 (qv12 tok) ?_|refine qa7 (qv13 tok) ?_|refine qa7 (qv14 tok) ?_|refine qa7 (qv15 tok) ?_|refine qa7 (qv16 tok) ?_|refine qa7 qv17 ?_|refine qa7 (qv18 tok) ?_|refine qa7 qv19 ?_|refine qa7 (qv20 tok) ?_|refine qa7 (qv21 tok) ?_|refine qa7 (qv22 tok) ?_|refine qa7 (qv23 tok) ?_|refine qa7 (qv24 tok) ?_|refine qa7 qv26 ?_|refine qa7 qv27 ?_|refine qa7 (qv28 tok) ?_|refine qa7 (qv29 tok) ?_|refine qa1 tok ?_|refine qa2 tok ?_|refine qa3 tok ?_|refine AL.loadR tok rfl rfl rfl rfl rfl rfl ?_|refine qa4 tok ?_|refine qa5 tok ?_|refine AW.block ?_|refine AW.exit ?_|refine AW.skip ?_|((fail_if_success (refine AL.guard (b := true) rfl rfl ?_ ?_)); (fail_if_success (refine AL.guard (b := false) rfl rfl ?_ ?_)); refine AL.guard rfl rfl (fun hg => ?_) (fun hg => ?_) <;> ((try simp only [DX] at hg) <;> (try first|(exfalso; omega)|exact absurd trivial hg|exact False.elim hg|exact absurd rfl hg)))|refine AW.condT rfl ?_|refine AW.condF rfl ?_|(refine AW.cond rfl (fun hg => ?_) (fun hg => ?_) <;> ((try simp only [DX] at hg) <;> (try first|(exfalso; omega)|exact absurd trivial hg|exact False.elim hg|exact absurd rfl hg))))
        all_goals (try simp only [DX] at *)
        all_goals try (exfalso; omega)
        (try simp only [hom, hk1])
        refine AW.anyN mix [[], [], [0, 1], [0, 1, 2], [], [4], [0, 1, 2, 3, 4, 5], [0, 1, 2, 3, 4, 5, 6]] [[47, 50], [46, 50], [50], [50], [46, 47, 48, 49], [46, 47, 48, 49], [], []] [[2], [2], [2], [2], [], [], [], []] [(5, 2), (7, 2)] 3 11 rfl (by rfl) (by decide +kernel) rfl (by first|assumption|(intro b hb; cases hb)) ?_ <;> repeat' (first|refine AR.step rfl rfl (by first|exact OSp.do tok rfl rfl rfl|exact OSp.no rfl rfl|exact OSp.noN rfl|exact OSp.v rfl rfl qv1|exact OSp.v rfl rfl qv2|exact OSp.v rfl rfl qv3|exact OSp.v rfl rfl (qv4 tok)|exact OSp.v rfl rfl (qv5 tok)|exact OSp.v rfl rfl qv6|exact OSp.v rfl rfl qv7|exact OSp.v rfl rfl (qv8 tok)|exact OSp.v rfl rfl (qv9 tok)|exact OSp.v rfl rfl (qv10 tok)|exact OSp.v rfl rfl (qv11 tok)|exact OSp.v rfl rfl (qv12 tok)|exact OSp.v rfl rfl (qv13 tok)|exact OSp.v rfl rfl (qv14 tok)|exact OSp.v rfl rfl (qv15 tok)|exact OSp.v rfl rfl (qv16 tok)|exact OSp.v rfl rfl qv17|exact OSp.v rfl rfl (qv18 tok)|exact OSp.v rfl rfl qv19|exact OSp.v rfl rfl (qv20 tok)|exact OSp.v rfl rfl (qv21 tok)|exact OSp.v rfl rfl (qv22 tok)|exact OSp.v rfl rfl (qv23 tok)|exact OSp.v rfl rfl (qv24 tok)|exact OSp.v rfl rfl qv26|exact OSp.v rfl rfl qv27|exact OSp.v rfl rfl (qv28 tok)|exact OSp.v rfl rfl (qv29 tok)|exact OSp.copy tok rfl rfl rfl rfl rfl rfl rfl (by (first | (intro x hx; obtain ⟨_, _, rfl⟩ := List.mem_map.1 hx; rfl) | (intro x hx; replace hx := List.mem_of_mem_take (List.mem_of_mem_drop hx); obtain ⟨_, _, rfl⟩ := List.mem_map.1 hx; rfl) | (simp; done))) rfl rfl rfl rfl|exact OSp.buildSlice tok rfl rfl rfl rfl rfl rfl rfl rfl|exact OSp.append tok rfl rfl rfl rfl rfl rfl rfl rfl rfl rfl rfl (by first|(intro x hx; obtain ⟨_, _, rfl⟩ := List.mem_map.1 hx; rfl)|(simp; done)) (by simp; omega) (by simp; omega)|exact OSp.alloc tok rfl rfl rfl rfl|exact OSp.box tok rfl rfl rfl rfl rfl|exact OSp.boxC tok rfl rfl rfl rfl rfl|exact OSp.store tok rfl rfl rfl rfl rfl rfl rfl rfl|exact OSp.appIn tok rfl rfl rfl rfl rfl (by first|assumption|(intro e; have := congrArg List.length e; simp at this; omega)) rfl rfl (by (first | (intro x hx; obtain ⟨_, _, rfl⟩ := List.mem_map.1 hx; rfl) | (intro x hx; replace hx := List.mem_of_mem_take (List.mem_of_mem_drop hx); obtain ⟨_, _, rfl⟩ := List.mem_map.1 hx; rfl) | (simp; done))) rfl rfl rfl rfl (by first|omega|(simp; omega))|exact OSp.copyX tok rfl rfl rfl rfl rfl rfl rfl rfl (by first|omega|(simp; omega)) (by first|omega|(simp; omega)) (by first|omega|(simp; omega)) (by first|omega|(simp; omega)) (by first|omega|(simp; omega))|exact OSp.idxO tok rfl rfl rfl rfl rfl rfl rfl rfl (by first|omega|(simp; omega))|exact OSp.loadR tok rfl rfl rfl rfl (by first|omega|(simp; omega)) rfl) (by rfl) (by rfl) ?_|refine AR.done rfl rfl ?_|(refine AR.guard rfl rfl rfl rfl (fun hg => ?_) (fun hg => ?_) <;> ((try simp only [DX] at hg) <;> (try first|(exfalso; omega)|exact absurd trivial hg|exact False.elim hg|exact absurd rfl hg))))
        repeat' (first|refine AL.do tok rfl rfl ?_|refine AL.nil ?_|refine AW.seq fun K hK => ?_|refine AW.region ?_|refine AL.no rfl rfl ?_|(refine hK _ ?_; clear hK)|(clear hK; refine hK _ ?_; clear hK)|(clear hK; clear hK; refine hK _ ?_; clear hK)|refine qa7 qv1 ?_|refine qa7 qv2 ?_|refine qa7 qv3 ?_|refine qa7 (qv4 tok) ?_|refine qa7 (qv5 tok) ?_|refine qa7 qv6 ?_|refine qa7 qv7 ?_|refine qa7 (qv8 tok) ?_|refine qa7 (qv9 tok) ?_|refine qa7 (qv10 tok) ?_|refine qa7 (qv11 tok) ?_|refine qa7 (qv12 tok) ?_|refine qa7 (qv13 tok) ?_|refine qa7 (qv14 tok) ?_|refine qa7 (qv15 tok) ?_|refine qa7 (qv16 tok) ?_|refine qa7 qv17 ?_|refine qa7 (qv18 tok) ?_|refine qa7 qv19 ?_|refine qa7 (qv20 tok) ?_|refine qa7 (qv21 tok) ?_|refine qa7 (qv22 tok) ?_|refine qa7 (qv23 tok) ?_|refine qa7 (qv24 tok) ?_|refine qa7 qv26 ?_|refine qa7 qv27 ?_|refine qa7 (qv28 tok) ?_|refine qa7 (qv29 tok) ?_|refine qa1 tok ?_|refine qa2 tok ?_|refine qa3 tok ?_|refine AL.loadR tok rfl rfl rfl rfl rfl rfl ?_|refine qa4 tok ?_|refine qa5 tok ?_|refine AW.block ?_|refine AW.exit ?_|refine AW.skip ?_|refine qc1 (st1 ..) ?_|refine qc2 (st1 ..) ?_|((fail_if_success (refine AL.guard (b := true) rfl rfl ?_ ?_)); (fail_if_success (refine AL.guard (b := false) rfl rfl ?_ ?_)); refine AL.guard rfl rfl (fun hg => ?_) (fun hg => ?_) <;> ((try simp only [DX] at hg) <;> (try first|(exfalso; omega)|exact absurd trivial hg|exact False.elim hg|exact absurd rfl hg)))|refine AW.condT rfl ?_|refine AW.condF rfl ?_|(refine AW.cond rfl (fun hg => ?_) (fun hg => ?_) <;> ((try simp only [DX] at hg) <;> (try first|(exfalso; omega)|exact absurd trivial hg|exact False.elim hg|exact absurd rfl hg))))
        all_goals (try simp only [DX] at *)
        all_goals try (exfalso; first | exact hg | exact hg rfl | omega)
        refine qa6 tok ?_
        repeat (first|refine AL.do tok rfl rfl ?_|refine AL.nil ?_|refine AW.seq fun K hK => ?_|refine AW.region ?_|refine AL.no rfl rfl ?_|(refine hK _ ?_; clear hK)|(clear hK; refine hK _ ?_; clear hK)|(clear hK; clear hK; refine hK _ ?_; clear hK)|refine qa7 qv1 ?_|refine qa7 qv2 ?_|refine qa7 qv3 ?_|refine qa7 (qv4 tok) ?_|refine qa7 (qv5 tok) ?_|refine qa7 qv6 ?_|refine qa7 qv7 ?_|refine qa7 (qv8 tok) ?_|refine qa7 (qv9 tok) ?_|refine qa7 (qv10 tok) ?_|refine qa7 (qv11 tok) ?_|refine qa7 (qv12 tok) ?_|refine qa7 (qv13 tok) ?_|refine qa7 (qv14 tok) ?_|refine qa7 (qv15 tok) ?_|refine qa7 (qv16 tok) ?_|refine qa7 qv17 ?_|refine qa7 (qv18 tok) ?_|refine qa7 qv19 ?_|refine qa7 (qv20 tok) ?_|refine qa7 (qv21 tok) ?_|refine qa7 (qv22 tok) ?_|refine qa7 (qv23 tok) ?_|refine qa7 (qv24 tok) ?_|refine qa7 qv26 ?_|refine qa7 qv27 ?_|refine qa7 (qv28 tok) ?_|refine qa7 (qv29 tok) ?_|refine qa1 tok ?_|refine qa2 tok ?_|refine qa3 tok ?_|refine AL.loadR tok rfl rfl rfl rfl rfl rfl ?_|refine qa4 tok ?_|refine qa5 tok ?_|refine AW.block ?_|refine AW.exit ?_|refine AW.skip ?_)
        refine hK1 _ (i + 1, v, out ++ es) ⟨by simp only; omega, hg2, ho2.1, fun e he => (List.mem_append.1 he).elim (hout e) (ho2.2.1 e), by simp only [List.length_append]; omega⟩ (by simp only; omega) (rowE_impK 12 rfl (List.map_append ..).symm ?_)
        (refine Imp.weak (fun k => if k = 1 then 12 else k) (fun j k h1 h2 h => by by_cases e1 : j = 1 <;> by_cases e2 : k = 1 <;> simp [e1, e2] at h <;> omega) (by first|assumption|(intro b hb; cases hb)) ?_ ?_ <;> (repeat' (first|exact trivial|exact Nat.lt_of_lt_of_le (Nat.lt_succ_self _) (Nat.le_of_ble_eq_true rfl)|exact rfl|exact Or.inl ⟨rfl, rfl⟩|exact Or.inr ⟨rfl, LF.fn _ _ ‹_›⟩|refine ⟨?_, ?_⟩)))
    · have st1 := step_calls q ops[i] hq hok hoo
      have hg2 := step_good (o := ops[i]) hq
      have ho2 := step_ok (o := ops[i]) hok hoo
      generalize stepS q ops[i] = r at *
      obtain ⟨v, es⟩ := r
      replace st1 : ACallP Try.prog 19 [aggQ q, aggO ops[i]] (.tup [aggQ v, rowE es, bo true]) := st1
      simp only at hg2 ho2
      have hesm : (es.map encE).length = es.length := List.length_map ..
      repeat' (first|refine AL.do tok rfl rfl ?_|refine AL.nil ?_|refine AW.seq fun K hK => ?_|refine AW.region ?_|refine AL.no rfl rfl ?_|(refine hK _ ?_; clear hK)|(clear hK; refine hK _ ?_; clear hK)|(clear hK; clear hK; refine hK _ ?_; clear hK)|refine qa7 qv1 ?_|refine qa7 qv2 ?_|refine qa7 qv3 ?_|refine qa7 (qv4 tok) ?_|refine qa7 (qv5 tok) ?_|refine qa7 qv6 ?_|refine qa7 qv7 ?_|refine qa7 (qv8 tok) ?_|refine qa7 (qv9 tok) ?_|refine qa7 (qv10 tok) ?_|refine qa7 (qv11 tok) ?_|refine qa7 (qv12 tok) ?_|refine qa7 (qv13 tok) ?_|refine qa7 (qv14 tok) ?_|refine qa7 (qv15 tok) ?_|refine qa7 (qv16 tok) ?_|refine qa7 qv17 ?_|refine qa7 (qv18 tok) ?_|refine qa7 qv19 ?_|refine qa7 (qv20 tok) ?_|refine qa7 (qv21 tok) ?_|refine qa7 (qv22 tok) ?_|refine qa7 (qv23 tok) ?_|refine qa7 (qv24 tok) ?_|refine qa7 qv26 ?_|refine qa7 qv27 ?_|refine qa7 (qv28 tok) ?_|refine qa7 (qv29 tok) ?_|refine qa1 tok ?_|refine qa2 tok ?_|refine qa3 tok ?_|refine AL.loadR tok rfl rfl rfl rfl rfl rfl ?_|refine qa4 tok ?_|refine qa5 tok ?_|refine AW.block ?_|refine AW.exit ?_|refine AW.skip ?_|refine qc1 (st1 ..) ?_|refine qc2 (st1 ..) ?_|((fail_if_success (refine AL.guard (b := true) rfl rfl ?_ ?_)); (fail_if_success (refine AL.guard (b := false) rfl rfl ?_ ?_)); refine AL.guard rfl rfl (fun hg => ?_) (fun hg => ?_) <;> ((try simp only [DX] at hg) <;> (try first|(exfalso; omega)|exact absurd trivial hg|exact False.elim hg|exact absurd rfl hg)))|refine AW.condT rfl ?_|refine AW.condF rfl ?_|(refine AW.cond rfl (fun hg => ?_) (fun hg => ?_) <;> ((try simp only [DX] at hg) <;> (try first|(exfalso; omega)|exact absurd trivial hg|exact False.elim hg|exact absurd rfl hg))))
      all_goals (try simp only [DX] at *)
      all_goals try (exfalso; first | exact hg | exact hg rfl | omega)
      refine qa6 tok ?_
      repeat (first|refine AL.do tok rfl rfl ?_|refine AL.nil ?_|refine AW.seq fun K hK => ?_|refine AW.region ?_|refine AL.no rfl rfl ?_|(refine hK _ ?_; clear hK)|(clear hK; refine hK _ ?_; clear hK)|(clear hK; clear hK; refine hK _ ?_; clear hK)|refine qa7 qv1 ?_|refine qa7 qv2 ?_|refine qa7 qv3 ?_|refine qa7 (qv4 tok) ?_|refine qa7 (qv5 tok) ?_|refine qa7 qv6 ?_|refine qa7 qv7 ?_|refine qa7 (qv8 tok) ?_|refine qa7 (qv9 tok) ?_|refine qa7 (qv10 tok) ?_|refine qa7 (qv11 tok) ?_|refine qa7 (qv12 tok) ?_|refine qa7 (qv13 tok) ?_|refine qa7 (qv14 tok) ?_|refine qa7 (qv15 tok) ?_|refine qa7 (qv16 tok) ?_|refine qa7 qv17 ?_|refine qa7 (qv18 tok) ?_|refine qa7 qv19 ?_|refine qa7 (qv20 tok) ?_|refine qa7 (qv21 tok) ?_|refine qa7 (qv22 tok) ?_|refine qa7 (qv23 tok) ?_|refine qa7 (qv24 tok) ?_|refine qa7 qv26 ?_|refine qa7 qv27 ?_|refine qa7 (qv28 tok) ?_|refine qa7 (qv29 tok) ?_|refine qa1 tok ?_|refine qa2 tok ?_|refine qa3 tok ?_|refine AL.loadR tok rfl rfl rfl rfl rfl rfl ?_|refine qa4 tok ?_|refine qa5 tok ?_|refine AW.block ?_|refine AW.exit ?_|refine AW.skip ?_)
      refine hK1 _ (i + 1, v, out ++ es) ⟨by simp only; omega, hg2, ho2.1, fun e he => (List.mem_append.1 he).elim (hout e) (ho2.2.1 e), by simp only [List.length_append]; omega⟩ (by simp only; omega) (rowE_impK 4 rfl (List.map_append ..).symm ?_)
      (refine Imp.weak (fun k => if k = 1 then 4 else k) (fun j k h1 h2 h => by by_cases e1 : j = 1 <;> by_cases e2 : k = 1 <;> simp [e1, e2] at h <;> omega) (by first|assumption|(intro b hb; cases hb)) ?_ ?_ <;> (repeat' (first|exact trivial|exact Nat.lt_of_lt_of_le (Nat.lt_succ_self _) (Nat.le_of_ble_eq_true rfl)|exact rfl|exact Or.inl ⟨rfl, rfl⟩|exact Or.inr ⟨rfl, LF.fn _ _ ‹_›⟩|refine ⟨?_, ?_⟩)))
  · repeat (first|refine AL.do tok rfl rfl ?_|refine AL.nil ?_|refine AW.seq fun K hK => ?_|refine AW.region ?_|refine AL.no rfl rfl ?_|(refine hK _ ?_; clear hK)|(clear hK; refine hK _ ?_; clear hK)|(clear hK; clear hK; refine hK _ ?_; clear hK)|refine qa7 qv1 ?_|refine qa7 qv2 ?_|refine qa7 qv3 ?_|refine qa7 (qv4 tok) ?_|refine qa7 (qv5 tok) ?_|refine qa7 qv6 ?_|refine qa7 qv7 ?_|refine qa7 (qv8 tok) ?_|refine qa7 (qv9 tok) ?_|refine qa7 (qv10 tok) ?_|refine qa7 (qv11 tok) ?_|refine qa7 (qv12 tok) ?_|refine qa7 (qv13 tok) ?_|refine qa7 (qv14 tok) ?_|refine qa7 (qv15 tok) ?_|refine qa7 (qv16 tok) ?_|refine qa7 qv17 ?_|refine qa7 (qv18 tok) ?_|refine qa7 qv19 ?_|refine qa7 (qv20 tok) ?_|refine qa7 (qv21 tok) ?_|refine qa7 (qv22 tok) ?_|refine qa7 (qv23 tok) ?_|refine qa7 (qv24 tok) ?_|refine qa7 qv26 ?_|refine qa7 qv27 ?_|refine qa7 (qv28 tok) ?_|refine qa7 (qv29 tok) ?_|refine qa1 tok ?_|refine qa2 tok ?_|refine qa3 tok ?_|refine AL.loadR tok rfl rfl rfl rfl rfl rfl ?_|refine qa4 tok ?_|refine qa5 tok ?_|refine AW.block ?_|refine AW.exit ?_|refine AW.skip ?_)
    refine AW.cond rfl (fun hg => by simp at hg; omega) (fun hg => ?_)
    repeat (first|refine AL.do tok rfl rfl ?_|refine AL.nil ?_|refine AW.seq fun K hK => ?_|refine AW.region ?_|refine AL.no rfl rfl ?_|(refine hK _ ?_; clear hK)|(clear hK; refine hK _ ?_; clear hK)|(clear hK; clear hK; refine hK _ ?_; clear hK)|refine qa7 qv1 ?_|refine qa7 qv2 ?_|refine qa7 qv3 ?_|refine qa7 (qv4 tok) ?_|refine qa7 (qv5 tok) ?_|refine qa7 qv6 ?_|refine qa7 qv7 ?_|refine qa7 (qv8 tok) ?_|refine qa7 (qv9 tok) ?_|refine qa7 (qv10 tok) ?_|refine qa7 (qv11 tok) ?_|refine qa7 (qv12 tok) ?_|refine qa7 (qv13 tok) ?_|refine qa7 (qv14 tok) ?_|refine qa7 (qv15 tok) ?_|refine qa7 (qv16 tok) ?_|refine qa7 qv17 ?_|refine qa7 (qv18 tok) ?_|refine qa7 qv19 ?_|refine qa7 (qv20 tok) ?_|refine qa7 (qv21 tok) ?_|refine qa7 (qv22 tok) ?_|refine qa7 (qv23 tok) ?_|refine qa7 (qv24 tok) ?_|refine qa7 qv26 ?_|refine qa7 qv27 ?_|refine qa7 (qv28 tok) ?_|refine qa7 (qv29 tok) ?_|refine qa1 tok ?_|refine qa2 tok ?_|refine qa3 tok ?_|refine AL.loadR tok rfl rfl rfl rfl rfl rfl ?_|refine qa4 tok ?_|refine qa5 tok ?_|refine AW.block ?_|refine AW.exit ?_|refine AW.skip ?_|refine qc1 (example_calls ..) ?_|refine qc2 (example_calls ..) ?_)
    refine AW.ret ?_
    refine ⟨_, _, _, _, rfl, Out.pure rfl ⟨?_, rfl⟩ rfl⟩
    rfl
end Go.Proofs.Try
