/- tx: Add of a request whose properties are a row of the caller's; Commit, whose request's properties are a fresh row. -/
import Derived.Test.YtagdffkagpeomaaTxM
import Derived.Test.YtagdffkagpeomaaWk
set_option linter.unusedSimpArgs false
set_option linter.unusedVariables false
namespace Go.Proofs.Try
open Go Go.AM

abbrev trZ (code : Int) : AV := .tup [.agg [bo false, .nilrow], i64 code]
set_option maxHeartbeats 32000000 in
set_option maxRecDepth 10000 in
theorem addB_calls (r : Rq) (hr : OkR r) : ACalls Try.prog 12 [aggT ⟨true, []⟩, .agg (celQ r (rowP r.b.mtc) (.own (.par 0)))] [rowPB r.msg.props] fun r' Hp' Hr => (((∃ code, code ≠ 0 ∧ r' = trZ code) ∨ r' = .tup [aggT ⟨true, [r]⟩, i64 0]) ∧ Hr = []) ∧ Hp' = [rowPB r.msg.props] := by
  have k := in_calls ⟨true, []⟩ true
  have k1 := checkR_calls r hr
  have k2 := joins_calls r.kind
  have hc := copyAdd_calls r hr
  generalize checkR r = c at *
  generalize joinS r.kind = q at *
  refine ACalls.body tok Try.func12 rfl (by kernel_rfl) (by rw [Try.ntmps12]; simp) ?_
  simp only [Try.ntmps12, Try.results12, argT]
  repeat (first|refine AL.do tok rfl rfl ?_|refine AL.nil ?_|refine AW.seq fun K hK => ?_|refine AW.region ?_|refine AL.no rfl rfl ?_|(refine hK _ ?_; clear hK)|(clear hK; refine hK _ ?_; clear hK)|(clear hK; clear hK; refine hK _ ?_; clear hK)|refine qaW ?_|refine qa1 tok ?_|refine qa2 tok ?_|refine qa3 tok ?_|refine AL.loadR tok rfl rfl rfl rfl rfl rfl ?_|refine qa4 tok ?_|refine qa5 tok ?_|refine AW.block ?_|refine AW.exit ?_|refine AW.skip ?_|refine qc1 (k ..) ?_|refine qc2 (k ..) ?_)
  refine AW.condF rfl ?_
  repeat (first|refine AL.do tok rfl rfl ?_|refine AL.nil ?_|refine AW.seq fun K hK => ?_|refine AW.region ?_|refine AL.no rfl rfl ?_|(refine hK _ ?_; clear hK)|(clear hK; refine hK _ ?_; clear hK)|(clear hK; clear hK; refine hK _ ?_; clear hK)|refine qaW ?_|refine qa1 tok ?_|refine qa2 tok ?_|refine qa3 tok ?_|refine AL.loadR tok rfl rfl rfl rfl rfl rfl ?_|refine qa4 tok ?_|refine qa5 tok ?_|refine AW.block ?_|refine AW.exit ?_|refine AW.skip ?_|refine qc1 (k1 ..) ?_|refine qc2 (k1 ..) ?_)
  refine AW.cond rfl (fun hg => ?_) (fun hg => ?_)
  · repeat (first|refine AL.do tok rfl rfl ?_|refine AL.nil ?_|refine AW.seq fun K hK => ?_|refine AW.region ?_|refine AL.no rfl rfl ?_|(refine hK _ ?_; clear hK)|(clear hK; refine hK _ ?_; clear hK)|(clear hK; clear hK; refine hK _ ?_; clear hK)|refine qaW ?_|refine qa1 tok ?_|refine qa2 tok ?_|refine qa3 tok ?_|refine AL.loadR tok rfl rfl rfl rfl rfl rfl ?_|refine qa4 tok ?_|refine qa5 tok ?_|refine AW.block ?_|refine AW.exit ?_|refine AW.skip ?_)
    refine AW.ret ?_
    refine ⟨_, _, _, _, rfl, Out.pure rfl ⟨⟨.inl ⟨c, by simpa using hg, rfl⟩, rfl⟩, rfl⟩ rfl⟩
  repeat (first|refine AL.do tok rfl rfl ?_|refine AL.nil ?_|refine AW.seq fun K hK => ?_|refine AW.region ?_|refine AL.no rfl rfl ?_|(refine hK _ ?_; clear hK)|(clear hK; refine hK _ ?_; clear hK)|(clear hK; clear hK; refine hK _ ?_; clear hK)|refine qaW ?_|refine qa1 tok ?_|refine qa2 tok ?_|refine qa3 tok ?_|refine AL.loadR tok rfl rfl rfl rfl rfl rfl ?_|refine qa4 tok ?_|refine qa5 tok ?_|refine AW.block ?_|refine AW.exit ?_|refine AW.skip ?_|refine qc1 (k2 ..) ?_|refine qc2 (k2 ..) ?_)
  cases q with
  | false =>
    refine AW.condT rfl ?_
    repeat (first|refine AL.do tok rfl rfl ?_|refine AL.nil ?_|refine AW.seq fun K hK => ?_|refine AW.region ?_|refine AL.no rfl rfl ?_|(refine hK _ ?_; clear hK)|(clear hK; refine hK _ ?_; clear hK)|(clear hK; clear hK; refine hK _ ?_; clear hK)|refine qaW ?_|refine qa1 tok ?_|refine qa2 tok ?_|refine qa3 tok ?_|refine AL.loadR tok rfl rfl rfl rfl rfl rfl ?_|refine qa4 tok ?_|refine qa5 tok ?_|refine AW.block ?_|refine AW.exit ?_|refine AW.skip ?_)
    refine AW.ret ?_
    refine ⟨_, _, _, _, rfl, Out.pure rfl ⟨⟨.inl ⟨10, by decide, rfl⟩, rfl⟩, rfl⟩ rfl⟩
  | true =>
    refine AW.condF rfl ?_
    repeat (first|refine AL.do tok rfl rfl ?_|refine AL.nil ?_|refine AW.seq fun K hK => ?_|refine AW.region ?_|refine AL.no rfl rfl ?_|(refine hK _ ?_; clear hK)|(clear hK; refine hK _ ?_; clear hK)|(clear hK; clear hK; refine hK _ ?_; clear hK)|refine qaW ?_|refine qa1 tok ?_|refine qa2 tok ?_|refine qa3 tok ?_|refine AL.loadR tok rfl rfl rfl rfl rfl rfl ?_|refine qa4 tok ?_|refine qa5 tok ?_|refine AW.block ?_|refine AW.exit ?_|refine AW.skip ?_)
    refine AW.condF rfl ?_
    repeat (first|refine AL.do tok rfl rfl ?_|refine AL.nil ?_|refine AW.seq fun K hK => ?_|refine AW.region ?_|refine AL.no rfl rfl ?_|(refine hK _ ?_; clear hK)|(clear hK; refine hK _ ?_; clear hK)|(clear hK; clear hK; refine hK _ ?_; clear hK)|refine qaW ?_|refine qa1 tok ?_|refine qa2 tok ?_|refine qa3 tok ?_|refine AL.loadR tok rfl rfl rfl rfl rfl rfl ?_|refine qa4 tok ?_|refine qa5 tok ?_|refine AW.block ?_|refine AW.exit ?_|refine AW.skip ?_)
    refine qbB tok ?_
    refine AL.callNO [.loc 3, .par 0] hc rfl rfl rfl rfl rfl rfl (by decide) rfl rfl ?_
    refine AL.frz 4 rfl rfl rfl ?_
    repeat (first|refine AL.do tok rfl rfl ?_|refine AL.nil ?_|refine AW.seq fun K hK => ?_|refine AW.region ?_|refine AL.no rfl rfl ?_|(refine hK _ ?_; clear hK)|(clear hK; refine hK _ ?_; clear hK)|(clear hK; clear hK; refine hK _ ?_; clear hK)|refine qaW ?_|refine qa1 tok ?_|refine qa2 tok ?_|refine qa3 tok ?_|refine AL.loadR tok rfl rfl rfl rfl rfl rfl ?_|refine qa4 tok ?_|refine qa5 tok ?_|refine AW.block ?_|refine AW.exit ?_|refine AW.skip ?_)
    refine AW.ret ?_
    refine ⟨_, _, _, _, rfl, Out.pure rfl ⟨⟨.inr rfl, rfl⟩, rfl⟩ rfl⟩
set_option maxHeartbeats 32000000 in
set_option maxRecDepth 10000 in
theorem comB_calls (r : Rq) (hr : OkR r) : ACallsV Try.prog 14 [aggT ⟨true, [r]⟩] [] [] fun r' Hp' Hr => r' = .tup [.agg [bo false, .nilrow], .bsl (.loc 0) 1, i64 0] ∧ Hp' = [] ∧ Hr = [.box 41 (celQ r (rowP r.b.mtc) (.own (.loc 1))), rowPB r.msg.props] := by
  have k := in_calls ⟨true, [r]⟩ true
  have hc := copyCom_calls r hr
  refine ACallsV.body tok Try.func14 rfl (by kernel_rfl) (by rw [Try.ntmps14]; simp) ?_
  simp only [Try.ntmps14, Try.results14, argT, blksH, List.length_cons, List.length_nil]
  repeat (first|refine AL.do tok rfl rfl ?_|refine AL.nil ?_|refine AW.seq fun K hK => ?_|refine AW.region ?_|refine AL.no rfl rfl ?_|(refine hK _ ?_; clear hK)|(clear hK; refine hK _ ?_; clear hK)|(clear hK; clear hK; refine hK _ ?_; clear hK)|refine qaW ?_|refine qa1 tok ?_|refine qa2 tok ?_|refine qa3 tok ?_|refine AL.loadR tok rfl rfl rfl rfl rfl rfl ?_|refine qa4 tok ?_|refine qa5 tok ?_|refine AW.block ?_|refine AW.exit ?_|refine AW.skip ?_|refine qc1 (k ..) ?_|refine qc2 (k ..) ?_)
  refine AW.condF rfl ?_
  repeat (first|refine AL.do tok rfl rfl ?_|refine AL.nil ?_|refine AW.seq fun K hK => ?_|refine AW.region ?_|refine AL.no rfl rfl ?_|(refine hK _ ?_; clear hK)|(clear hK; refine hK _ ?_; clear hK)|(clear hK; clear hK; refine hK _ ?_; clear hK)|refine qaW ?_|refine qa1 tok ?_|refine qa2 tok ?_|refine qa3 tok ?_|refine AL.loadR tok rfl rfl rfl rfl rfl rfl ?_|refine qa4 tok ?_|refine qa5 tok ?_|refine AW.block ?_|refine AW.exit ?_|refine AW.skip ?_)
  refine AL.callV [] [] hc rfl rfl rfl rfl rfl rfl rfl (by decide) (by decide) (by decide) rfl rfl (fun r' Hp' Hr hr' => ?_)
  obtain ⟨rfl, rfl, rfl⟩ := hr'
  refine ⟨rfl, rfl, rfl, rfl, _, _, rfl, rfl, ?_⟩
  repeat (first|refine AL.do tok rfl rfl ?_|refine AL.nil ?_|refine AW.seq fun K hK => ?_|refine AW.region ?_|refine AL.no rfl rfl ?_|(refine hK _ ?_; clear hK)|(clear hK; refine hK _ ?_; clear hK)|(clear hK; clear hK; refine hK _ ?_; clear hK)|refine qaW ?_|refine qa1 tok ?_|refine qa2 tok ?_|refine qa3 tok ?_|refine AL.loadR tok rfl rfl rfl rfl rfl rfl ?_|refine qa4 tok ?_|refine qa5 tok ?_|refine AW.block ?_|refine AW.exit ?_|refine AW.skip ?_)
  refine AW.ret ?_
  refine ⟨_, .tup [.agg [bo false, .nilrow], .bsl (.loc 0) 1, i64 0], [], [.box 41 (celQ r (rowP r.b.mtc) (.own (.loc 1))), rowPB r.msg.props], [2, 3], rfl, rfl, rfl, ⟨⟨rfl, rfl, rfl⟩, by decide, rfl, rfl, rfl, rfl⟩⟩
end Go.Proofs.Try
