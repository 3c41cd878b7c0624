/- tx: Add. -/
import Derived.Test.YtagdffkagpeomaaTxD
import Derived.Test.YtagdffkagpeomaaTxG
import Derived.Test.YtagdffkagpeomaaAMD
import Derived.Test.YtagdffkagpeomaaWk
set_option linter.unusedSimpArgs false
set_option linter.unusedVariables false
namespace Go.Proofs.Try
open Go Go.AM

def addS (t : Tr) (r : Rq) : Tr × Int :=
  if t.op = true then if checkR r = 0 then if joinS r.kind = true then if 32 ≤ t.reqs.length then (zT, 6) else (⟨true, t.reqs ++ [r]⟩, 0) else (zT, 10) else (zT, checkR r) else (zT, 9)
theorem add_row (l : List Rq) (r : Rq) : (l ++ [r]).map encR = l.map encR ++ [encR r] := by simp
set_option maxHeartbeats 32000000 in
set_option maxRecDepth 10000 in
theorem add_pr (t : Tr) (r : Rq) (hl : t.reqs.length ≤ 1000000) (ho : OkRs t.reqs) (hr : OkR r) : ACallPR Try.prog 12 [aggT t, aggR r] fun r' => nd3 r' = trAV (addS t r) := by
  obtain ⟨o, l⟩ := t
  have k := in_calls ⟨o, l⟩ true
  have hc := (copies_calls l [r] hl (by simp) ho (fun x h => by rw [List.mem_singleton.1 h]; exact hr)).dr
  have k1 := checkR_calls r hr
  have k2 := joins_calls r.kind
  have hlm : (l.map encR).length = l.length := List.length_map ..
  have h1 : ¬ checkR r = 0 → addS ⟨true, l⟩ r = (zT, checkR r) := fun h => (if_pos rfl).trans (if_neg h)
  have h2 : checkR r = 0 → joinS r.kind = false → addS ⟨true, l⟩ r = (zT, 10) := fun h e => (if_pos rfl).trans ((if_pos h).trans (if_neg (by rw [e]; decide)))
  have h3 : checkR r = 0 → joinS r.kind = true → 32 ≤ l.length → addS ⟨true, l⟩ r = (zT, 6) := fun h e g => (if_pos rfl).trans ((if_pos h).trans ((if_pos e).trans (if_pos g)))
  have h4 : checkR r = 0 → joinS r.kind = true → ¬ 32 ≤ l.length → addS ⟨true, l⟩ r = (⟨true, l ++ [r]⟩, 0) := fun h e g => (if_pos rfl).trans ((if_pos h).trans ((if_pos e).trans (if_neg g)))
  have h5 : addS ⟨false, l⟩ r = (zT, 9) := rfl
  generalize checkR r = c at *
  generalize joinS r.kind = q at *
  cases o
  · refine ACalls.body tok Try.func12 rfl (by kernel_rfl) (by rw [Try.ntmps12]; simp) ?_
    simp only [Try.ntmps12, Try.results12, argT]
    rw [h5]
    repeat' (first|refine AL.do tok rfl rfl ?_|refine AL.nil ?_|refine AW.seq fun K hK => ?_|refine AW.region ?_|refine AL.no rfl rfl ?_|(refine hK _ ?_; clear hK)|(clear hK; refine hK _ ?_; clear hK)|(clear hK; clear hK; refine hK _ ?_; clear hK)|refine qaW ?_|refine qa1 tok ?_|refine qa2 tok ?_|refine qa3 tok ?_|refine AL.loadR tok rfl rfl rfl rfl rfl rfl ?_|refine qa4 tok ?_|refine qa5 tok ?_|refine AW.block ?_|refine AW.exit ?_|refine AW.skip ?_|refine qc1 (k ..) ?_|refine qc2 (k ..) ?_|((fail_if_success (refine AL.guard (b := true) rfl rfl ?_ ?_)); (fail_if_success (refine AL.guard (b := false) rfl rfl ?_ ?_)); refine AL.guard rfl rfl (fun hg => ?_) (fun hg => ?_) <;> ((try simp only [DX] at hg) <;> (try first|(exfalso; omega)|exact absurd trivial hg|exact False.elim hg|exact absurd rfl hg)))|refine AW.condT rfl ?_|refine AW.condF rfl ?_|(refine AW.cond rfl (fun hg => ?_) (fun hg => ?_) <;> ((try simp only [DX] at hg) <;> (try first|(exfalso; omega)|exact absurd trivial hg|exact False.elim hg|exact absurd rfl hg)))|refine AW.ret ?_)
    all_goals (refine ⟨_, _, _, _, rfl, Out.pure rfl ⟨?_, rfl⟩ rfl⟩; rfl)
  · generalize addS ⟨true, l⟩ r = A at *
    refine ACalls.body tok Try.func12 rfl (by kernel_rfl) (by rw [Try.ntmps12]; simp) ?_
    simp only [Try.ntmps12, Try.results12, argT]
    repeat' (first|refine AL.do tok rfl rfl ?_|refine AL.nil ?_|refine AW.seq fun K hK => ?_|refine AW.region ?_|refine AL.no rfl rfl ?_|(refine hK _ ?_; clear hK)|(clear hK; refine hK _ ?_; clear hK)|(clear hK; clear hK; refine hK _ ?_; clear hK)|refine qaW ?_|refine qa1 tok ?_|refine qa2 tok ?_|refine qa3 tok ?_|refine AL.loadR tok rfl rfl rfl rfl rfl rfl ?_|refine qa4 tok ?_|refine qa5 tok ?_|refine AW.block ?_|refine AW.exit ?_|refine AW.skip ?_|refine qc1 (k ..) ?_|refine qc2 (k ..) ?_|refine qc1 (k1 ..) ?_|refine qc2 (k1 ..) ?_|refine qc1 (k2 ..) ?_|refine qc2 (k2 ..) ?_|((fail_if_success (refine AL.guard (b := true) rfl rfl ?_ ?_)); (fail_if_success (refine AL.guard (b := false) rfl rfl ?_ ?_)); refine AL.guard rfl rfl (fun hg => ?_) (fun hg => ?_) <;> ((try simp only [DX] at hg) <;> (try first|(exfalso; omega)|exact absurd trivial hg|exact False.elim hg|exact absurd rfl hg)))|refine AW.condT rfl ?_|refine AW.condF rfl ?_|(refine AW.cond rfl (fun hg => ?_) (fun hg => ?_) <;> ((try simp only [DX] at hg) <;> (try first|(exfalso; omega)|exact absurd trivial hg|exact False.elim hg|exact absurd rfl hg)))|refine AW.ret ?_)
    all_goals (try (try simp only [DX] at *))
    all_goals first
      | (refine ⟨_, _, _, _, rfl, Out.pure rfl ⟨?_, rfl⟩ rfl⟩; (try simp only [hlm] at *); first | (rw [h1 (by assumption)]; rfl) | (rw [h2 (by assumption) (by assumption)]; rfl) | (rw [h3 (by assumption) (by assumption) (by omega)]; rfl))
      | skip
    refine AL.frz 3 rfl rfl rfl ?_
    repeat' (first|refine AL.do tok rfl rfl ?_|refine AL.nil ?_|refine AW.seq fun K hK => ?_|refine AW.region ?_|refine AL.no rfl rfl ?_|(refine hK _ ?_; clear hK)|(clear hK; refine hK _ ?_; clear hK)|(clear hK; clear hK; refine hK _ ?_; clear hK)|refine qaW ?_|refine qa1 tok ?_|refine qa2 tok ?_|refine qa3 tok ?_|refine AL.loadR tok rfl rfl rfl rfl rfl rfl ?_|refine qa4 tok ?_|refine qa5 tok ?_|refine AW.block ?_|refine AW.exit ?_|refine AW.skip ?_|refine qc1 (hc ..) ?_|refine qc2 (hc ..) ?_|((fail_if_success (refine AL.guard (b := true) rfl rfl ?_ ?_)); (fail_if_success (refine AL.guard (b := false) rfl rfl ?_ ?_)); refine AL.guard rfl rfl (fun hg => ?_) (fun hg => ?_) <;> ((try simp only [DX] at hg) <;> (try first|(exfalso; omega)|exact absurd trivial hg|exact False.elim hg|exact absurd rfl hg)))|refine AW.condT rfl ?_|refine AW.condF rfl ?_|(refine AW.cond rfl (fun hg => ?_) (fun hg => ?_) <;> ((try simp only [DX] at hg) <;> (try first|(exfalso; omega)|exact absurd trivial hg|exact False.elim hg|exact absurd rfl hg)))|refine AW.ret ?_)
    refine ⟨_, _, _, _, rfl, Out.pure rfl ⟨?_, rfl⟩ rfl⟩
    (try simp only [hlm] at *)
    rw [h4 (by assumption) (by assumption) (by omega)]
    rfl
theorem add_calls (t : Tr) (r : Rq) (hl : t.reqs.length ≤ 1000000) (ho : OkRs t.reqs) (hr : OkR r) : ACallP Try.prog 12 [aggT t, aggR r] (trAV (addS t r)) := (add_pr t r hl ho hr).nilR
set_option maxHeartbeats 32000000 in
set_option maxRecDepth 10000 in
theorem refAdd_pr (t : Tr) (r : Rq) (hl : t.reqs.length ≤ 1000000) (ho : OkRs t.reqs) (hr : OkR r) : ACallPR Try.prog 18 [aggT t, aggR r] fun r' => nd3 r' = trAV (addS t r) := by
  obtain ⟨o, l⟩ := t
  have hc := clones_calls l hl ho
  have hd := clone29_calls r hr
  have k1 := refCheckR_calls r hr
  have k2 := refJoins_calls r.kind
  have hlm : (l.map encR).length = l.length := List.length_map ..
  have h1 : ¬ checkR r = 0 → addS ⟨true, l⟩ r = (zT, checkR r) := fun h => (if_pos rfl).trans (if_neg h)
  have h2 : checkR r = 0 → joinS r.kind = false → addS ⟨true, l⟩ r = (zT, 10) := fun h e => (if_pos rfl).trans ((if_pos h).trans (if_neg (by rw [e]; decide)))
  have h3 : checkR r = 0 → joinS r.kind = true → 32 ≤ l.length → addS ⟨true, l⟩ r = (zT, 6) := fun h e g => (if_pos rfl).trans ((if_pos h).trans ((if_pos e).trans (if_pos g)))
  have h4 : checkR r = 0 → joinS r.kind = true → ¬ 32 ≤ l.length → addS ⟨true, l⟩ r = (⟨true, l ++ [r]⟩, 0) := fun h e g => (if_pos rfl).trans ((if_pos h).trans ((if_pos e).trans (if_neg g)))
  have h5 : addS ⟨false, l⟩ r = (zT, 9) := rfl
  generalize checkR r = c at *
  generalize joinS r.kind = q at *
  cases o
  · refine ACalls.body tok Try.func18 rfl (by kernel_rfl) (by rw [Try.ntmps18]; simp) ?_
    simp only [Try.ntmps18, Try.results18, argT]
    rw [h5]
    repeat' (first|refine AL.do tok rfl rfl ?_|refine AL.nil ?_|refine AW.seq fun K hK => ?_|refine AW.region ?_|refine AL.no rfl rfl ?_|(refine hK _ ?_; clear hK)|(clear hK; refine hK _ ?_; clear hK)|(clear hK; clear hK; refine hK _ ?_; clear hK)|refine qaW ?_|refine qa1 tok ?_|refine qa2 tok ?_|refine qa3 tok ?_|refine AL.loadR tok rfl rfl rfl rfl rfl rfl ?_|refine qa4 tok ?_|refine qa5 tok ?_|refine AW.block ?_|refine AW.exit ?_|refine AW.skip ?_|((fail_if_success (refine AL.guard (b := true) rfl rfl ?_ ?_)); (fail_if_success (refine AL.guard (b := false) rfl rfl ?_ ?_)); refine AL.guard rfl rfl (fun hg => ?_) (fun hg => ?_) <;> ((try simp only [DX] at hg) <;> (try first|(exfalso; omega)|exact absurd trivial hg|exact False.elim hg|exact absurd rfl hg)))|refine AW.condT rfl ?_|refine AW.condF rfl ?_|(refine AW.cond rfl (fun hg => ?_) (fun hg => ?_) <;> ((try simp only [DX] at hg) <;> (try first|(exfalso; omega)|exact absurd trivial hg|exact False.elim hg|exact absurd rfl hg)))|refine AW.ret ?_)
    all_goals (refine ⟨_, _, _, _, rfl, Out.pure rfl ⟨?_, rfl⟩ rfl⟩; rfl)
  · generalize addS ⟨true, l⟩ r = A at *
    refine ACalls.body tok Try.func18 rfl (by kernel_rfl) (by rw [Try.ntmps18]; simp) ?_
    simp only [Try.ntmps18, Try.results18, argT]
    repeat' (first|refine AL.do tok rfl rfl ?_|refine AL.nil ?_|refine AW.seq fun K hK => ?_|refine AW.region ?_|refine AL.no rfl rfl ?_|(refine hK _ ?_; clear hK)|(clear hK; refine hK _ ?_; clear hK)|(clear hK; clear hK; refine hK _ ?_; clear hK)|refine qaW ?_|refine qa1 tok ?_|refine qa2 tok ?_|refine qa3 tok ?_|refine AL.loadR tok rfl rfl rfl rfl rfl rfl ?_|refine qa4 tok ?_|refine qa5 tok ?_|refine AW.block ?_|refine AW.exit ?_|refine AW.skip ?_|refine qc1 (k1 ..) ?_|refine qc2 (k1 ..) ?_|refine qc1 (k2 ..) ?_|refine qc2 (k2 ..) ?_|((fail_if_success (refine AL.guard (b := true) rfl rfl ?_ ?_)); (fail_if_success (refine AL.guard (b := false) rfl rfl ?_ ?_)); refine AL.guard rfl rfl (fun hg => ?_) (fun hg => ?_) <;> ((try simp only [DX] at hg) <;> (try first|(exfalso; omega)|exact absurd trivial hg|exact False.elim hg|exact absurd rfl hg)))|refine AW.condT rfl ?_|refine AW.condF rfl ?_|(refine AW.cond rfl (fun hg => ?_) (fun hg => ?_) <;> ((try simp only [DX] at hg) <;> (try first|(exfalso; omega)|exact absurd trivial hg|exact False.elim hg|exact absurd rfl hg)))|refine AW.ret ?_)
    all_goals (try (try simp only [DX] at *))
    all_goals first
      | (refine ⟨_, _, _, _, rfl, Out.pure rfl ⟨?_, rfl⟩ rfl⟩; (try simp only [hlm] at *); first | (rw [h1 (by assumption)]; rfl) | (rw [h2 (by assumption) (by assumption)]; rfl) | (rw [h3 (by assumption) (by assumption) (by omega)]; rfl))
      | skip
    refine AW.anyN mix [[], [0], [0, 1], [], [0, 1, 2, 3], [0, 1, 2, 3, 4], [0, 1, 2, 3, 4, 5], [0, 1, 2, 3, 4, 5, 6], [0, 1, 2, 3, 4, 5, 6, 7], [0, 1, 2, 3, 4, 5, 6, 7, 8]] [[30], [30], [30], [27, 28, 29], [], [], [], [], [], []] [[], [], [], [], [], [], [], [], [], []] [(8, 2), (6, 5)] 3 13 rfl (by rfl) (by decide +kernel) rfl (by first|assumption|(intro b hb; cases hb)) ?_ <;> repeat' (first|refine AR.step rfl rfl (by first|exact OSp.do tok rfl rfl rfl|exact OSp.no rfl rfl|exact OSp.noN rfl|exact qoW|exact OSp.copy tok rfl rfl rfl rfl rfl rfl rfl (by (first | (intro x hx; obtain ⟨_, _, rfl⟩ := List.mem_map.1 hx; rfl) | (intro x hx; replace hx := List.mem_of_mem_take (List.mem_of_mem_drop hx); obtain ⟨_, _, rfl⟩ := List.mem_map.1 hx; rfl) | (simp; done))) rfl rfl rfl rfl|exact OSp.buildSlice tok rfl rfl rfl rfl rfl rfl rfl rfl|exact OSp.append tok rfl rfl rfl rfl rfl rfl rfl rfl rfl rfl rfl (by first|(intro x hx; obtain ⟨_, _, rfl⟩ := List.mem_map.1 hx; rfl)|(simp; done)) (by simp; omega) (by simp; omega)|exact OSp.alloc tok rfl rfl rfl rfl|exact OSp.box tok rfl rfl rfl rfl rfl|exact OSp.boxC tok rfl rfl rfl rfl rfl|exact OSp.store tok rfl rfl rfl rfl rfl rfl rfl rfl|exact OSp.appIn tok rfl rfl rfl rfl rfl (by first|assumption|(intro e; have := congrArg List.length e; simp at this; omega)) rfl rfl (by (first | (intro x hx; obtain ⟨_, _, rfl⟩ := List.mem_map.1 hx; rfl) | (intro x hx; replace hx := List.mem_of_mem_take (List.mem_of_mem_drop hx); obtain ⟨_, _, rfl⟩ := List.mem_map.1 hx; rfl) | (simp; done))) rfl rfl rfl rfl (by first|omega|(simp; omega))|exact OSp.copyX tok rfl rfl rfl rfl rfl rfl rfl rfl (by first|omega|(simp; omega)) (by first|omega|(simp; omega)) (by first|omega|(simp; omega)) (by first|omega|(simp; omega)) (by first|omega|(simp; omega))|exact OSp.idxO tok rfl rfl rfl rfl rfl rfl rfl rfl (by first|omega|(simp; omega))|exact OSp.loadR tok rfl rfl rfl rfl (by first|omega|(simp; omega)) rfl|exact OSp.callS rfl rfl rfl rfl rfl rfl (hc ..) rfl|exact OSp.callP rfl rfl rfl rfl rfl (hc ..)|exact OSp.callO rfl rfl rfl rfl rfl (hc ..)|exact OSp.callO rfl rfl rfl rfl rfl hc|exact OSp.callS rfl rfl rfl rfl rfl rfl (hd ..) rfl|exact OSp.callP rfl rfl rfl rfl rfl (hd ..)|exact OSp.callO rfl rfl rfl rfl rfl (hd ..)|exact OSp.callO rfl rfl rfl rfl rfl hd|exact OSp.callG2 rfl rfl rfl rfl (hc ..) rfl rfl rfl rfl rfl|exact OSp.callG2 rfl rfl rfl rfl (hd ..) rfl rfl rfl rfl rfl) (by rfl) (by rfl) ?_|refine AR.done rfl rfl ?_|(refine AR.guard rfl rfl rfl rfl (fun hg => ?_) (fun hg => ?_) <;> ((try simp only [DX] at hg) <;> (try first|(exfalso; omega)|exact absurd trivial hg|exact False.elim hg|exact absurd rfl hg))))
    repeat (first|refine AL.do tok rfl rfl ?_|refine AL.nil ?_|refine AW.seq fun K hK => ?_|refine AW.region ?_|refine AL.no rfl rfl ?_|(refine hK _ ?_; clear hK)|(clear hK; refine hK _ ?_; clear hK)|(clear hK; clear hK; refine hK _ ?_; clear hK)|refine qaW ?_|refine qa1 tok ?_|refine qa2 tok ?_|refine qa3 tok ?_|refine AL.loadR tok rfl rfl rfl rfl rfl rfl ?_|refine qa4 tok ?_|refine qa5 tok ?_|refine AW.block ?_|refine AW.exit ?_|refine AW.skip ?_)
    refine AW.frz 9 rfl rfl rfl ?_
    repeat (first|refine AL.do tok rfl rfl ?_|refine AL.nil ?_|refine AW.seq fun K hK => ?_|refine AW.region ?_|refine AL.no rfl rfl ?_|(refine hK _ ?_; clear hK)|(clear hK; refine hK _ ?_; clear hK)|(clear hK; clear hK; refine hK _ ?_; clear hK)|refine qaW ?_|refine qa1 tok ?_|refine qa2 tok ?_|refine qa3 tok ?_|refine AL.loadR tok rfl rfl rfl rfl rfl rfl ?_|refine qa4 tok ?_|refine qa5 tok ?_|refine AW.block ?_|refine AW.exit ?_|refine AW.skip ?_)
    refine AW.ret ?_
    refine ⟨_, _, _, _, rfl, Out.pure rfl ⟨?_, rfl⟩ rfl⟩
    (try simp only [hlm] at *)
    rw [h4 (by assumption) (by assumption) (by omega)]
    show _ = AV.tup [.agg [bo true, .d (.row ((l ++ [r]).map encR))], i64 0]
    rw [add_row]
    rfl
theorem refAdd_calls (t : Tr) (r : Rq) (hl : t.reqs.length ≤ 1000000) (ho : OkRs t.reqs) (hr : OkR r) : ACallP Try.prog 18 [aggT t, aggR r] (trAV (addS t r)) := (refAdd_pr t r hl ho hr).nilR
end Go.Proofs.Try
