/- Requests: the error of a request. -/
import Derived.Test.YtagdffkagpeomaaTxC
import Derived.Test.YtagdffkagpeomaaTxE
import Derived.Test.YtagdffkagpeomaaWk
set_option linter.unusedSimpArgs false
set_option linter.unusedVariables false
namespace Go.Proofs.Try
open Go Go.AM

/-- The error of the fields that a request uses. -/
def fieldsE (r : Rq) : Int :=
  if r.kind = 1 then exE r.x else if r.kind = 2 then spE r.spec else if r.kind = 3 ∨ r.kind = 4 then biE r.b else
  if r.kind = 5 then (if optS r.name then if keyE r.key = 0 then checkM r.msg else keyE r.key else 11) else
  if r.kind = 6 ∨ 13 ≤ r.kind then (if nameS r.name then 0 else 11) else 0
set_option maxHeartbeats 32000000 in
set_option maxRecDepth 10000 in
theorem fields_calls (r : Rq) (h : 1 ≤ r.kind ∧ r.kind < 16) (ho : OkR r) : ACallP Try.prog 38 [aggR r] (i64 (fieldsE r)) := by
  obtain ⟨k, conn, serial, tag, limit, flag, name, key, x, spec, b, msg⟩ := r
  simp only at h
  have ht : msg.topic.size ≤ 9223372036854775807 := Nat.le_trans ho.2.2.2.1 (by decide)
  have k5 := checkM_calls msg ht
  rcases kind15 h with rfl | rfl | rfl | rfl | rfl | rfl | rfl | rfl | rfl | rfl | rfl | rfl | rfl | rfl | rfl
  all_goals
    simp only [fieldsE]
    refine ACalls.body tok Try.func38 rfl (by kernel_rfl) (by rw [Try.ntmps38]; simp) ?_
    simp only [Try.ntmps38, Try.results38, argT]
    repeat' (first|refine AL.do tok rfl rfl ?_|refine AL.nil ?_|refine AW.seq fun K hK => ?_|refine AW.region ?_|refine AL.no rfl rfl ?_|(refine hK _ ?_; clear hK)|(clear hK; refine hK _ ?_; clear hK)|(clear hK; clear hK; refine hK _ ?_; clear hK)|refine qaW ?_|refine qa1 tok ?_|refine qa2 tok ?_|refine qa3 tok ?_|refine AL.loadR tok rfl rfl rfl rfl rfl rfl ?_|refine qa4 tok ?_|refine qa5 tok ?_|refine AW.block ?_|refine AW.exit ?_|refine AW.skip ?_|refine qc1 (lex_calls ..) ?_|refine qc2 (lex_calls ..) ?_|refine qc1 (lsp_calls ..) ?_|refine qc2 (lsp_calls ..) ?_|refine qc1 (name_calls ..) ?_|refine qc2 (name_calls ..) ?_|refine qc1 (lkey_calls ..) ?_|refine qc2 (lkey_calls ..) ?_|refine qc1 (props_calls ..) ?_|refine qc2 (props_calls ..) ?_|refine qc1 (opt_calls ..) ?_|refine qc2 (opt_calls ..) ?_|refine qc1 (k5 ..) ?_|refine qc2 (k5 ..) ?_|((fail_if_success (refine AL.guard (b := true) rfl rfl ?_ ?_)); (fail_if_success (refine AL.guard (b := false) rfl rfl ?_ ?_)); refine AL.guard rfl rfl (fun hg => ?_) (fun hg => ?_) <;> ((try simp only [DX] at hg) <;> (try first|(exfalso; omega)|exact absurd trivial hg|exact False.elim hg|exact absurd rfl hg)))|refine AW.condT rfl ?_|refine AW.condF rfl ?_|(refine AW.cond rfl (fun hg => ?_) (fun hg => ?_) <;> ((try simp only [DX] at hg) <;> (try first|(exfalso; omega)|exact absurd trivial hg|exact False.elim hg|exact absurd rfl hg)))|refine AW.ret ?_)
    all_goals (refine ⟨_, _, _, _, rfl, Out.pure rfl ⟨?_, rfl⟩ rfl⟩; (try simp only [DX] at *); first | rfl | (simp [biE, *]; done))
set_option maxHeartbeats 32000000 in
set_option maxRecDepth 10000 in
theorem inner_calls (r : Rq) (h : 1 ≤ r.kind ∧ r.kind < 16) (ho : OkR r) : ACallP Try.prog 34 [aggR r] (i64 (fieldsE r)) := by
  obtain ⟨k, conn, serial, tag, limit, flag, name, key, x, spec, b, msg⟩ := r
  simp only at h
  have ht : msg.topic.size ≤ 9223372036854775807 := Nat.le_trans ho.2.2.2.1 (by decide)
  have k5 := refCheckM_calls msg ht
  have k3 := refBi_calls b (Nat.le_trans ho.2.1 (by decide))
  have k4 := refLkey_calls key (Nat.le_trans ho.1 (by decide))
  have hx := xwS_emp x.kind
  rcases kind15 h with rfl | rfl | rfl | rfl | rfl | rfl | rfl | rfl | rfl | rfl | rfl | rfl | rfl | rfl | rfl
  all_goals
    simp only [fieldsE]
    refine ACalls.body tok Try.func34 rfl (by kernel_rfl) (by rw [Try.ntmps34]; simp) ?_
    simp only [Try.ntmps34, Try.results34, argT]
    repeat' (first|refine AL.do tok rfl rfl ?_|refine AL.nil ?_|refine AW.seq fun K hK => ?_|refine AW.region ?_|refine AL.no rfl rfl ?_|(refine hK _ ?_; clear hK)|(clear hK; refine hK _ ?_; clear hK)|(clear hK; clear hK; refine hK _ ?_; clear hK)|refine qaW ?_|refine qa1 tok ?_|refine qa2 tok ?_|refine qa3 tok ?_|refine AL.loadR tok rfl rfl rfl rfl rfl rfl ?_|refine qa4 tok ?_|refine qa5 tok ?_|refine AW.block ?_|refine AW.exit ?_|refine AW.skip ?_|refine qc1 (refName_calls ..) ?_|refine qc2 (refName_calls ..) ?_|refine qc1 (refXw_calls ..) ?_|refine qc2 (refXw_calls ..) ?_|refine qc1 (refOpt_calls ..) ?_|refine qc2 (refOpt_calls ..) ?_|refine qc1 (refLsp_calls ..) ?_|refine qc2 (refLsp_calls ..) ?_|refine qc1 (k3 ..) ?_|refine qc2 (k3 ..) ?_|refine qc1 (k4 ..) ?_|refine qc2 (k4 ..) ?_|refine qc1 (k5 ..) ?_|refine qc2 (k5 ..) ?_|((fail_if_success (refine AL.guard (b := true) rfl rfl ?_ ?_)); (fail_if_success (refine AL.guard (b := false) rfl rfl ?_ ?_)); refine AL.guard rfl rfl (fun hg => ?_) (fun hg => ?_) <;> ((try simp only [DX] at hg) <;> (try first|(exfalso; omega)|exact absurd trivial hg|exact False.elim hg|exact absurd rfl hg)))|refine AW.condT rfl ?_|refine AW.condF rfl ?_|(refine AW.cond rfl (fun hg => ?_) (fun hg => ?_) <;> ((try simp only [DX] at hg) <;> (try first|(exfalso; omega)|exact absurd trivial hg|exact False.elim hg|exact absurd rfl hg)))|refine AW.ret ?_)
    all_goals (refine ⟨_, _, _, _, rfl, Out.pure rfl ⟨?_, rfl⟩ rfl⟩; (try simp only [DX] at *); first | rfl | (simp [exE, hx, *]; done) | (simp [exE, *]; done) | (rw [hx] at *; simp [exE, *]; done))
/-- The error of a request. -/
def checkR (r : Rq) : Int :=
  if 1 ≤ r.kind ∧ r.kind < 16 then
    if (0 ≤ r.conn ∧ r.conn ≤ 1099511627776) ∧ (0 ≤ r.serial ∧ r.serial ≤ 1099511627776) ∧ (0 ≤ r.tag ∧ r.tag ≤ 1099511627776) ∧ 0 ≤ r.limit ∧ r.limit ≤ 1099511627776 then
      if fieldsE r = 0 then if eqR r (usedS r) then 0 else 28 else fieldsE r
    else 1
  else 10
set_option maxHeartbeats 32000000 in
set_option maxRecDepth 10000 in
theorem refCheckR_calls (r : Rq) (ho : OkR r) : ACallP Try.prog 24 [aggR r] (i64 (checkR r)) := by
  have hw := wordS_emp r.kind
  by_cases h : 1 ≤ r.kind ∧ r.kind < 16
  · have k1 := inner_calls r h ho
    have k2 := (refUsed_pr r h).nilR
    have k3 := refSame8_calls r (usedS r)
    have hw2 : ¬ wordS r.kind = ⟨#[]⟩ := fun e => hw.1 e h
    have hc : checkR r = if (0 ≤ r.conn ∧ r.conn ≤ 1099511627776) ∧ (0 ≤ r.serial ∧ r.serial ≤ 1099511627776) ∧ (0 ≤ r.tag ∧ r.tag ≤ 1099511627776) ∧ 0 ≤ r.limit ∧ r.limit ≤ 1099511627776 then (if fieldsE r = 0 then if eqR r (usedS r) then 0 else 28 else fieldsE r) else 1 := if_pos h
    rw [hc]
    clear hw hc
    have k4 := refWord_calls r.kind
    generalize wordS r.kind = w at *
    generalize fieldsE r = E at *
    generalize usedS r = u at *
    generalize eqR r u = q at *
    refine ACalls.body tok Try.func24 rfl (by kernel_rfl) (by rw [Try.ntmps24]; simp) ?_
    simp only [Try.ntmps24, Try.results24, argT]
    repeat' (first|refine AL.do tok rfl rfl ?_|refine AL.nil ?_|refine AW.seq fun K hK => ?_|refine AW.region ?_|refine AL.no rfl rfl ?_|(refine hK _ ?_; clear hK)|(clear hK; refine hK _ ?_; clear hK)|(clear hK; clear hK; refine hK _ ?_; clear hK)|refine qaW ?_|refine qa1 tok ?_|refine qa2 tok ?_|refine qa3 tok ?_|refine AL.loadR tok rfl rfl rfl rfl rfl rfl ?_|refine qa4 tok ?_|refine qa5 tok ?_|refine AW.block ?_|refine AW.exit ?_|refine AW.skip ?_|refine qc1 (k4 ..) ?_|refine qc2 (k4 ..) ?_|refine qc1 (from_calls ..) ?_|refine qc2 (from_calls ..) ?_|refine qc1 (k1 ..) ?_|refine qc2 (k1 ..) ?_|((fail_if_success (refine AL.guard (b := true) rfl rfl ?_ ?_)); (fail_if_success (refine AL.guard (b := false) rfl rfl ?_ ?_)); refine AL.guard rfl rfl (fun hg => ?_) (fun hg => ?_) <;> ((try simp only [DX] at hg) <;> (try first|(exfalso; omega)|exact absurd trivial hg|exact False.elim hg|exact absurd rfl hg)))|refine AW.condT rfl ?_|refine AW.condF rfl ?_|(refine AW.cond rfl (fun hg => ?_) (fun hg => ?_) <;> ((try simp only [DX] at hg) <;> (try first|(exfalso; omega)|exact absurd trivial hg|exact False.elim hg|exact absurd rfl hg)))|refine AW.ret ?_)
    all_goals try (try simp only [DX] at *)
    all_goals first
      | (exfalso; exact hw2 (by assumption))
      | (refine ⟨_, _, _, _, rfl, Out.pure rfl ⟨?_, rfl⟩ rfl⟩; first | (rw [if_pos (by omega)]; simp [*]; done) | (rw [if_neg (by omega)]; done))
      | skip
    refine AW.any mix [[], [], [1], [0, 1, 2], [0, 1, 2, 3]] [[36, 37], [35], [35], [], []] [[], [], [], [], []] [] (by decide +kernel) rfl (by first|assumption|(intro b hb; cases hb)) ?_ <;> repeat' (first|refine AR.step rfl rfl (by first|exact OSp.do tok rfl rfl rfl|exact OSp.no rfl rfl|exact OSp.noN rfl|exact qoW|exact OSp.copy tok rfl rfl rfl rfl rfl rfl rfl (by (first | (intro x hx; obtain ⟨_, _, rfl⟩ := List.mem_map.1 hx; rfl) | (intro x hx; replace hx := List.mem_of_mem_take (List.mem_of_mem_drop hx); obtain ⟨_, _, rfl⟩ := List.mem_map.1 hx; rfl) | (simp; done))) rfl rfl rfl rfl|exact OSp.buildSlice tok rfl rfl rfl rfl rfl rfl rfl rfl|exact OSp.append tok rfl rfl rfl rfl rfl rfl rfl rfl rfl rfl rfl (by first|(intro x hx; obtain ⟨_, _, rfl⟩ := List.mem_map.1 hx; rfl)|(simp; done)) (by simp; omega) (by simp; omega)|exact OSp.alloc tok rfl rfl rfl rfl|exact OSp.box tok rfl rfl rfl rfl rfl|exact OSp.boxC tok rfl rfl rfl rfl rfl|exact OSp.store tok rfl rfl rfl rfl rfl rfl rfl rfl|exact OSp.callS rfl rfl rfl rfl rfl rfl (k2 ..) rfl|exact OSp.callP rfl rfl rfl rfl rfl (k2 ..)|exact OSp.callO rfl rfl rfl rfl rfl (k2 ..)|exact OSp.callO rfl rfl rfl rfl rfl k2|exact OSp.callS rfl rfl rfl rfl rfl rfl (k3 ..) rfl|exact OSp.callP rfl rfl rfl rfl rfl (k3 ..)|exact OSp.callO rfl rfl rfl rfl rfl (k3 ..)|exact OSp.callO rfl rfl rfl rfl rfl k3) (by rfl) (by rfl) ?_|refine AR.done rfl rfl ?_|(refine AR.guard rfl rfl rfl rfl (fun hg => ?_) (fun hg => ?_) <;> ((try simp only [DX] at hg) <;> (try first|(exfalso; omega)|exact absurd trivial hg|exact False.elim hg|exact absurd rfl hg))))
    repeat' (first|refine AL.do tok rfl rfl ?_|refine AL.nil ?_|refine AW.seq fun K hK => ?_|refine AW.region ?_|refine AL.no rfl rfl ?_|(refine hK _ ?_; clear hK)|(clear hK; refine hK _ ?_; clear hK)|(clear hK; clear hK; refine hK _ ?_; clear hK)|refine qaW ?_|refine qa1 tok ?_|refine qa2 tok ?_|refine qa3 tok ?_|refine AL.loadR tok rfl rfl rfl rfl rfl rfl ?_|refine qa4 tok ?_|refine qa5 tok ?_|refine AW.block ?_|refine AW.exit ?_|refine AW.skip ?_|((fail_if_success (refine AL.guard (b := true) rfl rfl ?_ ?_)); (fail_if_success (refine AL.guard (b := false) rfl rfl ?_ ?_)); refine AL.guard rfl rfl (fun hg => ?_) (fun hg => ?_) <;> ((try simp only [DX] at hg) <;> (try first|(exfalso; omega)|exact absurd trivial hg|exact False.elim hg|exact absurd rfl hg)))|refine AW.condT rfl ?_|refine AW.condF rfl ?_|(refine AW.cond rfl (fun hg => ?_) (fun hg => ?_) <;> ((try simp only [DX] at hg) <;> (try first|(exfalso; omega)|exact absurd trivial hg|exact False.elim hg|exact absurd rfl hg)))|refine AW.ret ?_)
    all_goals (refine ⟨_, _, _, _, rfl, Out.pure rfl ⟨?_, rfl⟩ rfl⟩; (try simp only [DX] at *); rw [if_pos (by omega)]; simp [*])
  · have hw2 : wordS r.kind = ⟨#[]⟩ := hw.2 h
    have hc : checkR r = 10 := if_neg h
    have k4 := refWord_calls r.kind
    rw [hw2] at k4
    rw [hc]
    refine ACalls.body tok Try.func24 rfl (by kernel_rfl) (by rw [Try.ntmps24]; simp) ?_
    simp only [Try.ntmps24, Try.results24, argT]
    repeat' (first|refine AL.do tok rfl rfl ?_|refine AL.nil ?_|refine AW.seq fun K hK => ?_|refine AW.region ?_|refine AL.no rfl rfl ?_|(refine hK _ ?_; clear hK)|(clear hK; refine hK _ ?_; clear hK)|(clear hK; clear hK; refine hK _ ?_; clear hK)|refine qaW ?_|refine qa1 tok ?_|refine qa2 tok ?_|refine qa3 tok ?_|refine AL.loadR tok rfl rfl rfl rfl rfl rfl ?_|refine qa4 tok ?_|refine qa5 tok ?_|refine AW.block ?_|refine AW.exit ?_|refine AW.skip ?_|refine qc1 (k4 ..) ?_|refine qc2 (k4 ..) ?_|((fail_if_success (refine AL.guard (b := true) rfl rfl ?_ ?_)); (fail_if_success (refine AL.guard (b := false) rfl rfl ?_ ?_)); refine AL.guard rfl rfl (fun hg => ?_) (fun hg => ?_) <;> ((try simp only [DX] at hg) <;> (try first|(exfalso; omega)|exact absurd trivial hg|exact False.elim hg|exact absurd rfl hg)))|refine AW.condT rfl ?_|refine AW.condF rfl ?_|(refine AW.cond rfl (fun hg => ?_) (fun hg => ?_) <;> ((try simp only [DX] at hg) <;> (try first|(exfalso; omega)|exact absurd trivial hg|exact False.elim hg|exact absurd rfl hg)))|refine AW.ret ?_)
    all_goals (refine ⟨_, _, _, _, rfl, Out.pure rfl ⟨?_, rfl⟩ rfl⟩; rfl)
def encI (n : Int) : List D := [.one (.int .i64 n)]
set_option maxHeartbeats 32000000 in
set_option maxRecDepth 10000 in
theorem checkR_calls (r : Rq) (ho : OkR r) : ACallP Try.prog 26 [aggR r] (i64 (checkR r)) := by
  by_cases h : 1 ≤ r.kind ∧ r.kind < 16
  rotate_left
  · have hc : checkR r = 10 := if_neg h
    rw [hc]
    refine ACalls.body tok Try.func26 rfl (by kernel_rfl) (by rw [Try.ntmps26]; simp) ?_
    simp only [Try.ntmps26, Try.results26, argT]
    repeat' (first|refine AL.do tok rfl rfl ?_|refine AL.nil ?_|refine AW.seq fun K hK => ?_|refine AW.region ?_|refine AL.no rfl rfl ?_|(refine hK _ ?_; clear hK)|(clear hK; refine hK _ ?_; clear hK)|(clear hK; clear hK; refine hK _ ?_; clear hK)|refine qaW ?_|refine qa1 tok ?_|refine qa2 tok ?_|refine qa3 tok ?_|refine AL.loadR tok rfl rfl rfl rfl rfl rfl ?_|refine qa4 tok ?_|refine qa5 tok ?_|refine AW.block ?_|refine AW.exit ?_|refine AW.skip ?_|refine qc1 (lis_calls ..) ?_|refine qc2 (lis_calls ..) ?_|((fail_if_success (refine AL.guard (b := true) rfl rfl ?_ ?_)); (fail_if_success (refine AL.guard (b := false) rfl rfl ?_ ?_)); refine AL.guard rfl rfl (fun hg => ?_) (fun hg => ?_) <;> ((try simp only [DX] at hg) <;> (try first|(exfalso; omega)|exact absurd trivial hg|exact False.elim hg|exact absurd rfl hg)))|refine AW.condT rfl ?_|refine AW.condF rfl ?_|(refine AW.cond rfl (fun hg => ?_) (fun hg => ?_) <;> ((try simp only [DX] at hg) <;> (try first|(exfalso; omega)|exact absurd trivial hg|exact False.elim hg|exact absurd rfl hg)))|refine AW.ret ?_)
    all_goals first
      | (refine ⟨_, _, _, _, rfl, Out.pure rfl ⟨?_, rfl⟩ rfl⟩; rfl)
      | ((try simp only [DX] at *); exfalso; omega)
  have k1 := fields_calls r h ho
  have k2 := (used_pr r h).nilR
  have k3 := lsame_calls r (usedS r)
  have hc : checkR r = if (0 ≤ r.conn ∧ r.conn ≤ 1099511627776) ∧ (0 ≤ r.serial ∧ r.serial ≤ 1099511627776) ∧ (0 ≤ r.tag ∧ r.tag ≤ 1099511627776) ∧ 0 ≤ r.limit ∧ r.limit ≤ 1099511627776 then (if fieldsE r = 0 then if eqR r (usedS r) then 0 else 28 else fieldsE r) else 1 := if_pos h
  rw [hc]
  clear hc
  generalize fieldsE r = E at *
  generalize usedS r = u at *
  generalize eqR r u = q at *
  refine ACalls.body tok Try.func26 rfl (by kernel_rfl) (by rw [Try.ntmps26]; simp) ?_
  simp only [Try.ntmps26, Try.results26, argT]
  repeat (first|refine AL.do tok rfl rfl ?_|refine AL.nil ?_|refine AW.seq fun K hK => ?_|refine AW.region ?_|refine AL.no rfl rfl ?_|(refine hK _ ?_; clear hK)|(clear hK; refine hK _ ?_; clear hK)|(clear hK; clear hK; refine hK _ ?_; clear hK)|refine qaW ?_|refine qa1 tok ?_|refine qa2 tok ?_|refine qa3 tok ?_|refine AL.loadR tok rfl rfl rfl rfl rfl rfl ?_|refine qa4 tok ?_|refine qa5 tok ?_|refine AW.block ?_|refine AW.exit ?_|refine AW.skip ?_|refine qc1 (lis_calls ..) ?_|refine qc2 (lis_calls ..) ?_)
  refine AW.cond rfl (fun hg => by simp only [DX] at hg; omega) (fun hg => ?_)
  repeat (first|refine AL.do tok rfl rfl ?_|refine AL.nil ?_|refine AW.seq fun K hK => ?_|refine AW.region ?_|refine AL.no rfl rfl ?_|(refine hK _ ?_; clear hK)|(clear hK; refine hK _ ?_; clear hK)|(clear hK; clear hK; refine hK _ ?_; clear hK)|refine qaW ?_|refine qa1 tok ?_|refine qa2 tok ?_|refine qa3 tok ?_|refine AL.loadR tok rfl rfl rfl rfl rfl rfl ?_|refine qa4 tok ?_|refine qa5 tok ?_|refine AW.block ?_|refine AW.exit ?_|refine AW.skip ?_)
  refine AW.loop (ι := Nat) (fun i => ⟨38, [(20, i64 i), (19, i64 4), (18, .own (.loc 1)), (1, .ptr (.loc 0) 0)], [(0, some (.box 41 (celR r))), (1, some (.row 3 1 ([r.conn, r.serial, r.tag, r.limit].map encI)))], [], 2⟩)
    (fun i => i ≤ 4 ∧ ∀ j (h : j < 4), j < i → 0 ≤ [r.conn, r.serial, r.tag, r.limit][j] ∧ [r.conn, r.serial, r.tag, r.limit][j] ≤ 1099511627776) (fun i => 4 - i) 0 ⟨Nat.zero_le _, fun j _ hj => absurd hj (Nat.not_lt_zero _)⟩ ?_ ?_
  · (refine Imp.weak id (fun _ _ _ _ h => h) (by first|assumption|(intro b hb; cases hb)) ?_ ?_ <;> (repeat' (first|exact trivial|exact Nat.lt_of_lt_of_le (Nat.lt_succ_self _) (Nat.le_of_ble_eq_true rfl)|exact rfl|exact Or.inl ⟨rfl, rfl⟩|exact Or.inr ⟨rfl, LF.fn _ _ ‹_›⟩|refine ⟨?_, ?_⟩)))
  rintro i ⟨hi, hb⟩ K1 hK1
  by_cases hlt : i < 4
  · repeat (first|refine AL.do tok rfl rfl ?_|refine AL.nil ?_|refine AW.seq fun K hK => ?_|refine AW.region ?_|refine AL.no rfl rfl ?_|(refine hK _ ?_; clear hK)|(clear hK; refine hK _ ?_; clear hK)|(clear hK; clear hK; refine hK _ ?_; clear hK)|refine qaW ?_|refine qa1 tok ?_|refine qa2 tok ?_|refine qa3 tok ?_|refine AL.loadR tok rfl rfl rfl rfl rfl rfl ?_|refine qa4 tok ?_|refine qa5 tok ?_|refine AW.block ?_|refine AW.exit ?_|refine AW.skip ?_)
    refine AW.cond rfl (fun hg => ?_) (fun hg => by simp at hg; omega)
    repeat (first|refine AL.do tok rfl rfl ?_|refine AL.nil ?_|refine AW.seq fun K hK => ?_|refine AW.region ?_|refine AL.no rfl rfl ?_|(refine hK _ ?_; clear hK)|(clear hK; refine hK _ ?_; clear hK)|(clear hK; clear hK; refine hK _ ?_; clear hK)|refine qaW ?_|refine qa1 tok ?_|refine qa2 tok ?_|refine qa3 tok ?_|refine AL.loadR tok rfl rfl rfl rfl rfl rfl ?_|refine qa4 tok ?_|refine qa5 tok ?_|refine AW.block ?_|refine AW.exit ?_|refine AW.skip ?_|refine qc1 (lis_calls ..) ?_|refine qc2 (lis_calls ..) ?_)
    refine AW.cond rfl (fun hg => ?_) (fun hg => ?_)
    · repeat (first|refine AL.do tok rfl rfl ?_|refine AL.nil ?_|refine AW.seq fun K hK => ?_|refine AW.region ?_|refine AL.no rfl rfl ?_|(refine hK _ ?_; clear hK)|(clear hK; refine hK _ ?_; clear hK)|(clear hK; clear hK; refine hK _ ?_; clear hK)|refine qaW ?_|refine qa1 tok ?_|refine qa2 tok ?_|refine qa3 tok ?_|refine AL.loadR tok rfl rfl rfl rfl rfl rfl ?_|refine qa4 tok ?_|refine qa5 tok ?_|refine AW.block ?_|refine AW.exit ?_|refine AW.skip ?_)
      refine AW.ret ?_
      refine ⟨_, _, _, _, rfl, Out.pure rfl ⟨?_, rfl⟩ rfl⟩
      rw [if_neg]
      rintro ⟨g1, g2, g3, g4⟩
      simp only [DX] at hg
      have : i = 0 ∨ i = 1 ∨ i = 2 ∨ i = 3 := by omega
      rcases this with rfl | rfl | rfl | rfl <;> simp at hg <;> omega
    · repeat (first|refine AL.do tok rfl rfl ?_|refine AL.nil ?_|refine AW.seq fun K hK => ?_|refine AW.region ?_|refine AL.no rfl rfl ?_|(refine hK _ ?_; clear hK)|(clear hK; refine hK _ ?_; clear hK)|(clear hK; clear hK; refine hK _ ?_; clear hK)|refine qaW ?_|refine qa1 tok ?_|refine qa2 tok ?_|refine qa3 tok ?_|refine AL.loadR tok rfl rfl rfl rfl rfl rfl ?_|refine qa4 tok ?_|refine qa5 tok ?_|refine AW.block ?_|refine AW.exit ?_|refine AW.skip ?_)
      refine hK1 _ (i + 1) ⟨by omega, fun j h1 h2 => ?_⟩ (by omega) ?_
      · by_cases e : j = i
        · subst e
          simpa only [DX, Classical.not_not] using hg
        · exact hb j h1 (by omega)
      · (refine Imp.weak id (fun _ _ _ _ h => h) (by first|assumption|(intro b hb; cases hb)) ?_ ?_ <;> (repeat' (first|exact trivial|exact Nat.lt_of_lt_of_le (Nat.lt_succ_self _) (Nat.le_of_ble_eq_true rfl)|exact rfl|exact Or.inl ⟨rfl, rfl⟩|exact Or.inr ⟨rfl, LF.fn _ _ ‹_›⟩|refine ⟨?_, ?_⟩)))
  · obtain rfl : i = 4 := by omega
    have g0 := hb 0 (by decide) (by decide)
    have g1 := hb 1 (by decide) (by decide)
    have g2 := hb 2 (by decide) (by decide)
    have g3 := hb 3 (by decide) (by decide)
    simp only [List.getElem_cons_zero, List.getElem_cons_succ] at g0 g1 g2 g3
    rw [if_pos ⟨g0, g1, g2, g3⟩]
    repeat (first|refine AL.do tok rfl rfl ?_|refine AL.nil ?_|refine AW.seq fun K hK => ?_|refine AW.region ?_|refine AL.no rfl rfl ?_|(refine hK _ ?_; clear hK)|(clear hK; refine hK _ ?_; clear hK)|(clear hK; clear hK; refine hK _ ?_; clear hK)|refine qaW ?_|refine qa1 tok ?_|refine qa2 tok ?_|refine qa3 tok ?_|refine AL.loadR tok rfl rfl rfl rfl rfl rfl ?_|refine qa4 tok ?_|refine qa5 tok ?_|refine AW.block ?_|refine AW.exit ?_|refine AW.skip ?_)
    refine AW.cond rfl (fun hg => by simp at hg) (fun hg => ?_)
    repeat (first|refine AL.do tok rfl rfl ?_|refine AL.nil ?_|refine AW.seq fun K hK => ?_|refine AW.region ?_|refine AL.no rfl rfl ?_|(refine hK _ ?_; clear hK)|(clear hK; refine hK _ ?_; clear hK)|(clear hK; clear hK; refine hK _ ?_; clear hK)|refine qaW ?_|refine qa1 tok ?_|refine qa2 tok ?_|refine qa3 tok ?_|refine AL.loadR tok rfl rfl rfl rfl rfl rfl ?_|refine qa4 tok ?_|refine qa5 tok ?_|refine AW.block ?_|refine AW.exit ?_|refine AW.skip ?_|refine qc1 (k1 ..) ?_|refine qc2 (k1 ..) ?_)
    refine AW.cond rfl (fun hg => ?_) (fun hg => ?_)
    · repeat' (first|refine AL.do tok rfl rfl ?_|refine AL.nil ?_|refine AW.seq fun K hK => ?_|refine AW.region ?_|refine AL.no rfl rfl ?_|(refine hK _ ?_; clear hK)|(clear hK; refine hK _ ?_; clear hK)|(clear hK; clear hK; refine hK _ ?_; clear hK)|refine qaW ?_|refine qa1 tok ?_|refine qa2 tok ?_|refine qa3 tok ?_|refine AL.loadR tok rfl rfl rfl rfl rfl rfl ?_|refine qa4 tok ?_|refine qa5 tok ?_|refine AW.block ?_|refine AW.exit ?_|refine AW.skip ?_|((fail_if_success (refine AL.guard (b := true) rfl rfl ?_ ?_)); (fail_if_success (refine AL.guard (b := false) rfl rfl ?_ ?_)); refine AL.guard rfl rfl (fun hg => ?_) (fun hg => ?_) <;> ((try simp only [DX] at hg) <;> (try first|(exfalso; omega)|exact absurd trivial hg|exact False.elim hg|exact absurd rfl hg)))|refine AW.condT rfl ?_|refine AW.condF rfl ?_|(refine AW.cond rfl (fun hg => ?_) (fun hg => ?_) <;> ((try simp only [DX] at hg) <;> (try first|(exfalso; omega)|exact absurd trivial hg|exact False.elim hg|exact absurd rfl hg)))|refine AW.ret ?_)
      refine ⟨_, _, _, _, rfl, Out.pure rfl ⟨?_, rfl⟩ rfl⟩
      (try simp only [DX] at *)
      rw [if_neg hg]
      first | done | rw [if_pos ⟨g0, g1, g2, g3⟩]
    · (try simp only [DX] at *)
      have hE : E = 0 := by first | exact hg | omega
      rw [if_pos hE]
      repeat (first|refine AL.do tok rfl rfl ?_|refine AL.nil ?_|refine AW.seq fun K hK => ?_|refine AW.region ?_|refine AL.no rfl rfl ?_|(refine hK _ ?_; clear hK)|(clear hK; refine hK _ ?_; clear hK)|(clear hK; clear hK; refine hK _ ?_; clear hK)|refine qaW ?_|refine qa1 tok ?_|refine qa2 tok ?_|refine qa3 tok ?_|refine AL.loadR tok rfl rfl rfl rfl rfl rfl ?_|refine qa4 tok ?_|refine qa5 tok ?_|refine AW.block ?_|refine AW.exit ?_|refine AW.skip ?_)
      refine AW.any mix [[], [], [1], [0, 1, 2], [0, 1, 2, 3]] [[34, 35], [33], [33], [], []] [[], [], [], [], []] [] (by decide +kernel) rfl (by first|assumption|(intro b hb; cases hb)) ?_ <;> repeat' (first|refine AR.step rfl rfl (by first|exact OSp.do tok rfl rfl rfl|exact OSp.no rfl rfl|exact OSp.noN rfl|exact qoW|exact OSp.copy tok rfl rfl rfl rfl rfl rfl rfl (by (first | (intro x hx; obtain ⟨_, _, rfl⟩ := List.mem_map.1 hx; rfl) | (intro x hx; replace hx := List.mem_of_mem_take (List.mem_of_mem_drop hx); obtain ⟨_, _, rfl⟩ := List.mem_map.1 hx; rfl) | (simp; done))) rfl rfl rfl rfl|exact OSp.buildSlice tok rfl rfl rfl rfl rfl rfl rfl rfl|exact OSp.append tok rfl rfl rfl rfl rfl rfl rfl rfl rfl rfl rfl (by first|(intro x hx; obtain ⟨_, _, rfl⟩ := List.mem_map.1 hx; rfl)|(simp; done)) (by simp; omega) (by simp; omega)|exact OSp.alloc tok rfl rfl rfl rfl|exact OSp.box tok rfl rfl rfl rfl rfl|exact OSp.boxC tok rfl rfl rfl rfl rfl|exact OSp.store tok rfl rfl rfl rfl rfl rfl rfl rfl|exact OSp.callS rfl rfl rfl rfl rfl rfl (k2 ..) rfl|exact OSp.callP rfl rfl rfl rfl rfl (k2 ..)|exact OSp.callO rfl rfl rfl rfl rfl (k2 ..)|exact OSp.callO rfl rfl rfl rfl rfl k2|exact OSp.callS rfl rfl rfl rfl rfl rfl (k3 ..) rfl|exact OSp.callP rfl rfl rfl rfl rfl (k3 ..)|exact OSp.callO rfl rfl rfl rfl rfl (k3 ..)|exact OSp.callO rfl rfl rfl rfl rfl k3) (by rfl) (by rfl) ?_|refine AR.done rfl rfl ?_|(refine AR.guard rfl rfl rfl rfl (fun hg => ?_) (fun hg => ?_) <;> ((try simp only [DX] at hg) <;> (try first|(exfalso; omega)|exact absurd trivial hg|exact False.elim hg|exact absurd rfl hg))))
      repeat' (first|refine AL.do tok rfl rfl ?_|refine AL.nil ?_|refine AW.seq fun K hK => ?_|refine AW.region ?_|refine AL.no rfl rfl ?_|(refine hK _ ?_; clear hK)|(clear hK; refine hK _ ?_; clear hK)|(clear hK; clear hK; refine hK _ ?_; clear hK)|refine qaW ?_|refine qa1 tok ?_|refine qa2 tok ?_|refine qa3 tok ?_|refine AL.loadR tok rfl rfl rfl rfl rfl rfl ?_|refine qa4 tok ?_|refine qa5 tok ?_|refine AW.block ?_|refine AW.exit ?_|refine AW.skip ?_|((fail_if_success (refine AL.guard (b := true) rfl rfl ?_ ?_)); (fail_if_success (refine AL.guard (b := false) rfl rfl ?_ ?_)); refine AL.guard rfl rfl (fun hg => ?_) (fun hg => ?_) <;> ((try simp only [DX] at hg) <;> (try first|(exfalso; omega)|exact absurd trivial hg|exact False.elim hg|exact absurd rfl hg)))|refine AW.condT rfl ?_|refine AW.condF rfl ?_|(refine AW.cond rfl (fun hg => ?_) (fun hg => ?_) <;> ((try simp only [DX] at hg) <;> (try first|(exfalso; omega)|exact absurd trivial hg|exact False.elim hg|exact absurd rfl hg)))|refine AW.ret ?_)
      all_goals (refine ⟨_, _, _, _, rfl, Out.pure rfl ⟨?_, rfl⟩ rfl⟩; (try simp only [DX] at *); simp [*])
end Go.Proofs.Try
