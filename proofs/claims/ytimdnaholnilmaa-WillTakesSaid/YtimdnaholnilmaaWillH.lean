/- will: the chapter's example; the laws WillChecks, WillArms, WillCancels, WillTakes, WillNext: what they compute is true. -/
import Derived.Test.YtimdnaholnilmaaWillG
set_option linter.unusedSimpArgs false
set_option linter.unusedVariables false
namespace Go.Proofs.Try
open Go Go.AM

def exM : Ms := ⟨⟨#[116]⟩, ⟨#[]⟩, 0, false, 0, 0, ⟨#[]⟩, 0, []⟩
def exW : Wl := ⟨true, 5, exM⟩
def exA : List Du := [⟨⟨#[98]⟩, 15, exM⟩]
def exB : List Du := [⟨⟨#[97]⟩, 15, exM⟩, ⟨⟨#[98]⟩, 15, exM⟩]
set_option maxHeartbeats 16000000 in
set_option maxRecDepth 10000 in
theorem awake_calls : ACallP Try.prog 10 [] (bo true) := by
  have a1 : ACallP Try.prog 15 [.nilrow, st ⟨#[98]⟩, .agg [bo true, i64 5, st ⟨#[116]⟩, st ⟨#[]⟩, i64 0, bo false, i64 0, i64 0, st ⟨#[]⟩, i64 0, .nilrow], i64 10] (rowD exA) := by
    have h := arm_calls [] ⟨#[98]⟩ exW 10 (by simp) (by simp) (by simp [exW, exM]) List.Pairwise.nil (by decide)
    rw [show armS [] ⟨#[98]⟩ exW 10 = exA from by decide +kernel] at h
    exact h.nilA rfl
  have a2 : ACallP Try.prog 15 [rowD exA, st ⟨#[97]⟩, .agg [bo true, i64 5, st ⟨#[116]⟩, st ⟨#[]⟩, i64 0, bo false, i64 0, i64 0, st ⟨#[]⟩, i64 0, .nilrow], i64 10] (rowD exB) := by
    have h := arm_calls exA ⟨#[97]⟩ exW 10 (by decide) (by decide) (by decide) (by simp [Ord, exA]) (by decide)
    rw [show armS exA ⟨#[97]⟩ exW 10 = exB from by decide +kernel] at h
    exact h.nilA rfl
  have n1 : ACallP Try.prog 23 [rowD exB] (.tup [i64 15, bo true]) := next_calls exB
  have t1 : ACallP Try.prog 21 [rowD exB, i64 15] (.tup [rowD exB, rowD []]) := by
    have h := take_calls exB 15 (by decide) (by decide)
    rw [show takeN exB 15 = 2 from by decide +kernel] at h
    exact h
  have c1 : ACallP Try.prog 19 [rowD exB, st ⟨#[98]⟩] (.tup [rowD [⟨⟨#[97]⟩, 15, exM⟩], bo true]) := by
    have h := cancel_calls exB ⟨#[98]⟩ (by decide) (by decide)
    rw [show cancelS exB ⟨#[98]⟩ = [⟨⟨#[97]⟩, 15, exM⟩] from by decide +kernel, show hasS exB ⟨#[98]⟩ = true from by decide +kernel] at h
    exact h
  have k1 : ACallP Try.prog 11 [.agg [bo false, i64 1, st ⟨#[]⟩, st ⟨#[]⟩, i64 0, bo false, i64 0, i64 0, st ⟨#[]⟩, i64 0, .nilrow]] (i64 28) := by
    have h := checkW_calls ⟨false, 1, zeroMs⟩ (by decide)
    rw [show checkW ⟨false, 1, zeroMs⟩ = 28 from by decide +kernel] at h
    exact h.nilA rfl
  refine ACalls.body tok Try.func10 rfl (by kernel_rfl) (by rw [Try.ntmps10]; simp) ?_
  simp only [Try.ntmps10, Try.results10, argT]
  repeat (first|refine AL.do tok rfl rfl ?_|refine AL.nil ?_|refine AW.seq fun K hK => ?_|refine AW.region ?_|refine AL.no rfl rfl ?_|(refine hK _ ?_; clear hK)|(clear hK; refine hK _ ?_; clear hK)|(clear hK; clear hK; refine hK _ ?_; clear hK)|refine qa7 qv1 ?_|refine qa7 qv2 ?_|refine qa7 qv3 ?_|refine qa7 (qv4 tok) ?_|refine qa7 (qv5 tok) ?_|refine qa7 qv6 ?_|refine qa7 qv7 ?_|refine qa7 (qv8 tok) ?_|refine qa7 (qv9 tok) ?_|refine qa7 (qv10 tok) ?_|refine qa7 (qv11 tok) ?_|refine qa7 (qv12 tok) ?_|refine qa7 (qv13 tok) ?_|refine qa7 (qv14 tok) ?_|refine qa7 (qv15 tok) ?_|refine qa7 (qv16 tok) ?_|refine qa7 qv17 ?_|refine qa7 (qv18 tok) ?_|refine qa7 qv19 ?_|refine qa7 (qv20 tok) ?_|refine qa7 (qv21 tok) ?_|refine qa7 (qv22 tok) ?_|refine qa1 tok ?_|refine qa2 tok ?_|refine qa3 tok ?_|refine AL.loadR tok rfl rfl rfl rfl rfl rfl ?_|refine qa4 tok ?_|refine qa5 tok ?_|refine AW.block ?_|refine AW.exit ?_|refine AW.skip ?_)
  refine AW.any mix [[], [0], [], [0, 1, 2], [0, 1, 2, 3]] [[13], [13], [11, 12], [], []] [[], [], [], [], []] [] (by decide +kernel) rfl (by first|assumption|(intro b hb; cases hb)) ?_ <;> repeat' (first|refine AR.step rfl rfl (by first|exact OSp.do tok rfl rfl rfl|exact OSp.no rfl rfl|exact OSp.noN rfl|exact OSp.v rfl rfl qv1|exact OSp.v rfl rfl qv2|exact OSp.v rfl rfl qv3|exact OSp.v rfl rfl (qv4 tok)|exact OSp.v rfl rfl (qv5 tok)|exact OSp.v rfl rfl qv6|exact OSp.v rfl rfl qv7|exact OSp.v rfl rfl (qv8 tok)|exact OSp.v rfl rfl (qv9 tok)|exact OSp.v rfl rfl (qv10 tok)|exact OSp.v rfl rfl (qv11 tok)|exact OSp.v rfl rfl (qv12 tok)|exact OSp.v rfl rfl (qv13 tok)|exact OSp.v rfl rfl (qv14 tok)|exact OSp.v rfl rfl (qv15 tok)|exact OSp.v rfl rfl (qv16 tok)|exact OSp.v rfl rfl qv17|exact OSp.v rfl rfl (qv18 tok)|exact OSp.v rfl rfl qv19|exact OSp.v rfl rfl (qv20 tok)|exact OSp.v rfl rfl (qv21 tok)|exact OSp.v rfl rfl (qv22 tok)|exact OSp.copy tok rfl rfl rfl rfl rfl rfl rfl (by (first | (intro x hx; obtain ⟨_, _, rfl⟩ := List.mem_map.1 hx; rfl) | (intro x hx; replace hx := List.mem_of_mem_take (List.mem_of_mem_drop hx); obtain ⟨_, _, rfl⟩ := List.mem_map.1 hx; rfl) | (simp; done))) rfl rfl rfl rfl|exact OSp.buildSlice tok rfl rfl rfl rfl rfl rfl rfl rfl|exact OSp.append tok rfl rfl rfl rfl rfl rfl rfl rfl rfl rfl rfl (by first|(intro x hx; obtain ⟨_, _, rfl⟩ := List.mem_map.1 hx; rfl)|(simp; done)) (by simp; omega) (by simp; omega)|exact OSp.alloc tok rfl rfl rfl rfl|exact OSp.box tok rfl rfl rfl rfl rfl|exact OSp.boxC tok rfl rfl rfl rfl rfl|exact OSp.store tok rfl rfl rfl rfl rfl rfl rfl rfl|exact OSp.callS rfl rfl rfl rfl rfl rfl (a1 ..) rfl|exact OSp.callP rfl rfl rfl rfl rfl (a1 ..)|exact OSp.callO rfl rfl rfl rfl rfl (a1 ..)|exact OSp.callO rfl rfl rfl rfl rfl a1|exact OSp.callS rfl rfl rfl rfl rfl rfl (a2 ..) rfl|exact OSp.callP rfl rfl rfl rfl rfl (a2 ..)|exact OSp.callO rfl rfl rfl rfl rfl (a2 ..)|exact OSp.callO rfl rfl rfl rfl rfl a2) (by rfl) (by rfl) ?_|refine AR.done rfl rfl ?_|(refine AR.guard rfl rfl rfl rfl (fun hg => ?_) (fun hg => ?_) <;> ((try simp only [DX] at hg) <;> (try first|(exfalso; omega)|exact absurd trivial hg|exact False.elim hg|exact absurd rfl hg))))
  repeat' (first|refine AL.do tok rfl rfl ?_|refine AL.nil ?_|refine AW.seq fun K hK => ?_|refine AW.region ?_|refine AL.no rfl rfl ?_|(refine hK _ ?_; clear hK)|(clear hK; refine hK _ ?_; clear hK)|(clear hK; clear hK; refine hK _ ?_; clear hK)|refine qa7 qv1 ?_|refine qa7 qv2 ?_|refine qa7 qv3 ?_|refine qa7 (qv4 tok) ?_|refine qa7 (qv5 tok) ?_|refine qa7 qv6 ?_|refine qa7 qv7 ?_|refine qa7 (qv8 tok) ?_|refine qa7 (qv9 tok) ?_|refine qa7 (qv10 tok) ?_|refine qa7 (qv11 tok) ?_|refine qa7 (qv12 tok) ?_|refine qa7 (qv13 tok) ?_|refine qa7 (qv14 tok) ?_|refine qa7 (qv15 tok) ?_|refine qa7 (qv16 tok) ?_|refine qa7 qv17 ?_|refine qa7 (qv18 tok) ?_|refine qa7 qv19 ?_|refine qa7 (qv20 tok) ?_|refine qa7 (qv21 tok) ?_|refine qa7 (qv22 tok) ?_|refine qa1 tok ?_|refine qa2 tok ?_|refine qa3 tok ?_|refine AL.loadR tok rfl rfl rfl rfl rfl rfl ?_|refine qa4 tok ?_|refine qa5 tok ?_|refine AW.block ?_|refine AW.exit ?_|refine AW.skip ?_|refine qc1 (n1 ..) ?_|refine qc2 (n1 ..) ?_|refine qc1 (t1 ..) ?_|refine qc2 (t1 ..) ?_|refine qc1 (c1 ..) ?_|refine qc2 (c1 ..) ?_|refine qc1 (k1 ..) ?_|refine qc2 (k1 ..) ?_|((fail_if_success (refine AL.guard (b := true) rfl rfl ?_ ?_)); (fail_if_success (refine AL.guard (b := false) rfl rfl ?_ ?_)); refine AL.guard rfl rfl (fun hg => ?_) (fun hg => ?_) <;> ((try simp only [DX] at hg) <;> (try first|(exfalso; omega)|exact absurd trivial hg|exact False.elim hg|exact absurd rfl hg)))|refine AW.condT rfl ?_|refine AW.condF rfl ?_|(refine AW.cond rfl (fun hg => ?_) (fun hg => ?_) <;> ((try simp only [DX] at hg) <;> (try first|(exfalso; omega)|exact absurd trivial hg|exact False.elim hg|exact absurd rfl hg)))|refine AW.ret ?_)
  all_goals (refine ⟨_, _, _, _, rfl, Out.pure rfl ⟨?_, rfl⟩ rfl⟩; rfl)
end Go.Proofs.Try
