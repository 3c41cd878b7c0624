/- Messages in bytes: the reference reads them. -/
import Derived.Test.YtbmfgippgfjliaaBytN
import Derived.Test.YtbmfgippgfjliaaBytO
set_option linter.unusedSimpArgs false
set_option linter.unusedVariables false
namespace Go.Proofs.Try
open Go Go.AM

def rdMs (b : List Nat) (s : Int × Int) : Ms × (Int × Int) :=
  let t := rTxt b 64 s
  let pl := rTxt b 256 t.2
  let lv := rNum b pl.2
  let rt := rBel b 2 lv.2
  let pr := rNum b rt.2
  let ex := rNum b pr.2
  let fr := rTxt b 16 ex.2
  let sq := rNum b fr.2
  let n := rCnt b 8 sq.2
  let ps := rdPs b n.1.toNat n.2
  (⟨t.1, pl.1, lv.1, decide (rt.1 = 1), pr.1, ex.1, fr.1, sq.1, ps.1⟩, ps.2)
theorem rCnt_in (b : List Nat) (s : Int × Int) : 0 ≤ (rCnt b 8 s).1 ∧ (rCnt b 8 s).1 ≤ 8 := by
  have h : ∀ p, 0 ≤ (cntR b p 8).1 ∧ (cntR b p 8).1 ≤ 8 := by
    intro p
    unfold cntR
    repeat' split
    all_goals simp
    omega
  unfold rCnt
  split
  · exact h _
  · simp
set_option maxHeartbeats 16000000 in
set_option maxRecDepth 10000 in
theorem refRMs_calls (b : List Nat) (s : Int × Int) (hb : OkU b) (hl : b.length ≤ 1000000) : ACallM Try.prog 49 [.ptr (.par 0) 0] (rrB b s) (aggM (rdMs b s).1) (rrB b (rdMs b s).2) := by
  unfold rdMs
  simp only
  have hlf0 := rrB_lf b s
  have c1 := refRTxt_calls b 64 s hb hl
  generalize rTxt b 64 s = t at *
  have c2 := refRTxt_calls b 256 t.2 hb hl
  generalize rTxt b 256 t.2 = pl at *
  have c3 := refRNum_calls b pl.2 hb hl
  generalize rNum b pl.2 = lv at *
  have c4 := refRBel_calls b 2 lv.2 hb hl
  generalize rBel b 2 lv.2 = rt at *
  have c6 := refRNum_calls b rt.2 hb hl
  generalize rNum b rt.2 = pr at *
  have c7 := refRNum_calls b pr.2 hb hl
  generalize rNum b pr.2 = ex at *
  have c8 := refRTxt_calls b 16 ex.2 hb hl
  generalize rTxt b 16 ex.2 = fr at *
  have c9 := refRNum_calls b fr.2 hb hl
  generalize rNum b fr.2 = sq at *
  have c10 := refRCnt_calls b 8 sq.2 hb hl
  have hn := rCnt_in b sq.2
  generalize rCnt b 8 sq.2 = n at *
  obtain ⟨n, s12⟩ := n
  have hlf1 := rrB_lf b s12
  simp only at c10 hn ⊢
  refine ACalls.body tok Try.func49 rfl (by kernel_rfl) (by rw [Try.ntmps49]; simp) ?_
  simp only [Try.ntmps49, Try.results49, argT]
  repeat (first|refine AL.do tok rfl rfl ?_|refine AL.nil ?_|refine AW.seq fun K hK => ?_|refine AW.region ?_|refine AL.no rfl rfl ?_|(refine hK _ ?_; clear hK)|(clear hK; refine hK _ ?_; clear hK)|(clear hK; clear hK; refine hK _ ?_; clear hK)|refine qa7 qv1 ?_|refine qa7 qv2 ?_|refine qa7 qv3 ?_|refine qa7 (qv4 tok) ?_|refine qa7 (qv5 tok) ?_|refine qa7 qv6 ?_|refine qa7 qv7 ?_|refine qa7 (qv8 tok) ?_|refine qa7 (qv9 tok) ?_|refine qa7 (qv10 tok) ?_|refine qa7 (qv11 tok) ?_|refine qa7 (qv12 tok) ?_|refine qa7 (qv13 tok) ?_|refine qa7 (qv14 tok) ?_|refine qa7 (qv15 tok) ?_|refine qa7 (qv16 tok) ?_|refine qa7 qv17 ?_|refine qa7 (qv18 tok) ?_|refine qa7 qv19 ?_|refine qa7 (qv20 tok) ?_|refine qa7 (qv21 tok) ?_|refine qa7 (qv22 tok) ?_|refine qa1 tok ?_|refine qa2 tok ?_|refine qa3 tok ?_|refine AL.loadR tok rfl rfl rfl rfl rfl rfl ?_|refine qa4 tok ?_|refine qa5 tok ?_|refine AW.block ?_|refine AW.exit ?_|refine AW.skip ?_)
  refine AL.callM rfl rfl rfl (.par 0) (c1) rfl rfl rfl rfl rfl rfl rfl rfl ?_
  repeat (first|refine AL.do tok rfl rfl ?_|refine AL.nil ?_|refine AW.seq fun K hK => ?_|refine AW.region ?_|refine AL.no rfl rfl ?_|(refine hK _ ?_; clear hK)|(clear hK; refine hK _ ?_; clear hK)|(clear hK; clear hK; refine hK _ ?_; clear hK)|refine qa7 qv1 ?_|refine qa7 qv2 ?_|refine qa7 qv3 ?_|refine qa7 (qv4 tok) ?_|refine qa7 (qv5 tok) ?_|refine qa7 qv6 ?_|refine qa7 qv7 ?_|refine qa7 (qv8 tok) ?_|refine qa7 (qv9 tok) ?_|refine qa7 (qv10 tok) ?_|refine qa7 (qv11 tok) ?_|refine qa7 (qv12 tok) ?_|refine qa7 (qv13 tok) ?_|refine qa7 (qv14 tok) ?_|refine qa7 (qv15 tok) ?_|refine qa7 (qv16 tok) ?_|refine qa7 qv17 ?_|refine qa7 (qv18 tok) ?_|refine qa7 qv19 ?_|refine qa7 (qv20 tok) ?_|refine qa7 (qv21 tok) ?_|refine qa7 (qv22 tok) ?_|refine qa1 tok ?_|refine qa2 tok ?_|refine qa3 tok ?_|refine AL.loadR tok rfl rfl rfl rfl rfl rfl ?_|refine qa4 tok ?_|refine qa5 tok ?_|refine AW.block ?_|refine AW.exit ?_|refine AW.skip ?_)
  refine AL.callM rfl rfl rfl (.par 0) (c2) rfl rfl rfl rfl rfl rfl rfl rfl ?_
  repeat (first|refine AL.do tok rfl rfl ?_|refine AL.nil ?_|refine AW.seq fun K hK => ?_|refine AW.region ?_|refine AL.no rfl rfl ?_|(refine hK _ ?_; clear hK)|(clear hK; refine hK _ ?_; clear hK)|(clear hK; clear hK; refine hK _ ?_; clear hK)|refine qa7 qv1 ?_|refine qa7 qv2 ?_|refine qa7 qv3 ?_|refine qa7 (qv4 tok) ?_|refine qa7 (qv5 tok) ?_|refine qa7 qv6 ?_|refine qa7 qv7 ?_|refine qa7 (qv8 tok) ?_|refine qa7 (qv9 tok) ?_|refine qa7 (qv10 tok) ?_|refine qa7 (qv11 tok) ?_|refine qa7 (qv12 tok) ?_|refine qa7 (qv13 tok) ?_|refine qa7 (qv14 tok) ?_|refine qa7 (qv15 tok) ?_|refine qa7 (qv16 tok) ?_|refine qa7 qv17 ?_|refine qa7 (qv18 tok) ?_|refine qa7 qv19 ?_|refine qa7 (qv20 tok) ?_|refine qa7 (qv21 tok) ?_|refine qa7 (qv22 tok) ?_|refine qa1 tok ?_|refine qa2 tok ?_|refine qa3 tok ?_|refine AL.loadR tok rfl rfl rfl rfl rfl rfl ?_|refine qa4 tok ?_|refine qa5 tok ?_|refine AW.block ?_|refine AW.exit ?_|refine AW.skip ?_)
  refine AL.callM rfl rfl rfl (.par 0) (c3) rfl rfl rfl rfl rfl rfl rfl rfl ?_
  repeat (first|refine AL.do tok rfl rfl ?_|refine AL.nil ?_|refine AW.seq fun K hK => ?_|refine AW.region ?_|refine AL.no rfl rfl ?_|(refine hK _ ?_; clear hK)|(clear hK; refine hK _ ?_; clear hK)|(clear hK; clear hK; refine hK _ ?_; clear hK)|refine qa7 qv1 ?_|refine qa7 qv2 ?_|refine qa7 qv3 ?_|refine qa7 (qv4 tok) ?_|refine qa7 (qv5 tok) ?_|refine qa7 qv6 ?_|refine qa7 qv7 ?_|refine qa7 (qv8 tok) ?_|refine qa7 (qv9 tok) ?_|refine qa7 (qv10 tok) ?_|refine qa7 (qv11 tok) ?_|refine qa7 (qv12 tok) ?_|refine qa7 (qv13 tok) ?_|refine qa7 (qv14 tok) ?_|refine qa7 (qv15 tok) ?_|refine qa7 (qv16 tok) ?_|refine qa7 qv17 ?_|refine qa7 (qv18 tok) ?_|refine qa7 qv19 ?_|refine qa7 (qv20 tok) ?_|refine qa7 (qv21 tok) ?_|refine qa7 (qv22 tok) ?_|refine qa1 tok ?_|refine qa2 tok ?_|refine qa3 tok ?_|refine AL.loadR tok rfl rfl rfl rfl rfl rfl ?_|refine qa4 tok ?_|refine qa5 tok ?_|refine AW.block ?_|refine AW.exit ?_|refine AW.skip ?_)
  refine AL.callM rfl rfl rfl (.par 0) (c4) rfl rfl rfl rfl rfl rfl rfl rfl ?_
  repeat (first|refine AL.do tok rfl rfl ?_|refine AL.nil ?_|refine AW.seq fun K hK => ?_|refine AW.region ?_|refine AL.no rfl rfl ?_|(refine hK _ ?_; clear hK)|(clear hK; refine hK _ ?_; clear hK)|(clear hK; clear hK; refine hK _ ?_; clear hK)|refine qa7 qv1 ?_|refine qa7 qv2 ?_|refine qa7 qv3 ?_|refine qa7 (qv4 tok) ?_|refine qa7 (qv5 tok) ?_|refine qa7 qv6 ?_|refine qa7 qv7 ?_|refine qa7 (qv8 tok) ?_|refine qa7 (qv9 tok) ?_|refine qa7 (qv10 tok) ?_|refine qa7 (qv11 tok) ?_|refine qa7 (qv12 tok) ?_|refine qa7 (qv13 tok) ?_|refine qa7 (qv14 tok) ?_|refine qa7 (qv15 tok) ?_|refine qa7 (qv16 tok) ?_|refine qa7 qv17 ?_|refine qa7 (qv18 tok) ?_|refine qa7 qv19 ?_|refine qa7 (qv20 tok) ?_|refine qa7 (qv21 tok) ?_|refine qa7 (qv22 tok) ?_|refine qa1 tok ?_|refine qa2 tok ?_|refine qa3 tok ?_|refine AL.loadR tok rfl rfl rfl rfl rfl rfl ?_|refine qa4 tok ?_|refine qa5 tok ?_|refine AW.block ?_|refine AW.exit ?_|refine AW.skip ?_)
  refine AL.callM rfl rfl rfl (.par 0) (c6) rfl rfl rfl rfl rfl rfl rfl rfl ?_
  repeat (first|refine AL.do tok rfl rfl ?_|refine AL.nil ?_|refine AW.seq fun K hK => ?_|refine AW.region ?_|refine AL.no rfl rfl ?_|(refine hK _ ?_; clear hK)|(clear hK; refine hK _ ?_; clear hK)|(clear hK; clear hK; refine hK _ ?_; clear hK)|refine qa7 qv1 ?_|refine qa7 qv2 ?_|refine qa7 qv3 ?_|refine qa7 (qv4 tok) ?_|refine qa7 (qv5 tok) ?_|refine qa7 qv6 ?_|refine qa7 qv7 ?_|refine qa7 (qv8 tok) ?_|refine qa7 (qv9 tok) ?_|refine qa7 (qv10 tok) ?_|refine qa7 (qv11 tok) ?_|refine qa7 (qv12 tok) ?_|refine qa7 (qv13 tok) ?_|refine qa7 (qv14 tok) ?_|refine qa7 (qv15 tok) ?_|refine qa7 (qv16 tok) ?_|refine qa7 qv17 ?_|refine qa7 (qv18 tok) ?_|refine qa7 qv19 ?_|refine qa7 (qv20 tok) ?_|refine qa7 (qv21 tok) ?_|refine qa7 (qv22 tok) ?_|refine qa1 tok ?_|refine qa2 tok ?_|refine qa3 tok ?_|refine AL.loadR tok rfl rfl rfl rfl rfl rfl ?_|refine qa4 tok ?_|refine qa5 tok ?_|refine AW.block ?_|refine AW.exit ?_|refine AW.skip ?_)
  refine AL.callM rfl rfl rfl (.par 0) (c7) rfl rfl rfl rfl rfl rfl rfl rfl ?_
  repeat (first|refine AL.do tok rfl rfl ?_|refine AL.nil ?_|refine AW.seq fun K hK => ?_|refine AW.region ?_|refine AL.no rfl rfl ?_|(refine hK _ ?_; clear hK)|(clear hK; refine hK _ ?_; clear hK)|(clear hK; clear hK; refine hK _ ?_; clear hK)|refine qa7 qv1 ?_|refine qa7 qv2 ?_|refine qa7 qv3 ?_|refine qa7 (qv4 tok) ?_|refine qa7 (qv5 tok) ?_|refine qa7 qv6 ?_|refine qa7 qv7 ?_|refine qa7 (qv8 tok) ?_|refine qa7 (qv9 tok) ?_|refine qa7 (qv10 tok) ?_|refine qa7 (qv11 tok) ?_|refine qa7 (qv12 tok) ?_|refine qa7 (qv13 tok) ?_|refine qa7 (qv14 tok) ?_|refine qa7 (qv15 tok) ?_|refine qa7 (qv16 tok) ?_|refine qa7 qv17 ?_|refine qa7 (qv18 tok) ?_|refine qa7 qv19 ?_|refine qa7 (qv20 tok) ?_|refine qa7 (qv21 tok) ?_|refine qa7 (qv22 tok) ?_|refine qa1 tok ?_|refine qa2 tok ?_|refine qa3 tok ?_|refine AL.loadR tok rfl rfl rfl rfl rfl rfl ?_|refine qa4 tok ?_|refine qa5 tok ?_|refine AW.block ?_|refine AW.exit ?_|refine AW.skip ?_)
  refine AL.callM rfl rfl rfl (.par 0) (c8) rfl rfl rfl rfl rfl rfl rfl rfl ?_
  repeat (first|refine AL.do tok rfl rfl ?_|refine AL.nil ?_|refine AW.seq fun K hK => ?_|refine AW.region ?_|refine AL.no rfl rfl ?_|(refine hK _ ?_; clear hK)|(clear hK; refine hK _ ?_; clear hK)|(clear hK; clear hK; refine hK _ ?_; clear hK)|refine qa7 qv1 ?_|refine qa7 qv2 ?_|refine qa7 qv3 ?_|refine qa7 (qv4 tok) ?_|refine qa7 (qv5 tok) ?_|refine qa7 qv6 ?_|refine qa7 qv7 ?_|refine qa7 (qv8 tok) ?_|refine qa7 (qv9 tok) ?_|refine qa7 (qv10 tok) ?_|refine qa7 (qv11 tok) ?_|refine qa7 (qv12 tok) ?_|refine qa7 (qv13 tok) ?_|refine qa7 (qv14 tok) ?_|refine qa7 (qv15 tok) ?_|refine qa7 (qv16 tok) ?_|refine qa7 qv17 ?_|refine qa7 (qv18 tok) ?_|refine qa7 qv19 ?_|refine qa7 (qv20 tok) ?_|refine qa7 (qv21 tok) ?_|refine qa7 (qv22 tok) ?_|refine qa1 tok ?_|refine qa2 tok ?_|refine qa3 tok ?_|refine AL.loadR tok rfl rfl rfl rfl rfl rfl ?_|refine qa4 tok ?_|refine qa5 tok ?_|refine AW.block ?_|refine AW.exit ?_|refine AW.skip ?_)
  refine AL.callM rfl rfl rfl (.par 0) (c9) rfl rfl rfl rfl rfl rfl rfl rfl ?_
  repeat (first|refine AL.do tok rfl rfl ?_|refine AL.nil ?_|refine AW.seq fun K hK => ?_|refine AW.region ?_|refine AL.no rfl rfl ?_|(refine hK _ ?_; clear hK)|(clear hK; refine hK _ ?_; clear hK)|(clear hK; clear hK; refine hK _ ?_; clear hK)|refine qa7 qv1 ?_|refine qa7 qv2 ?_|refine qa7 qv3 ?_|refine qa7 (qv4 tok) ?_|refine qa7 (qv5 tok) ?_|refine qa7 qv6 ?_|refine qa7 qv7 ?_|refine qa7 (qv8 tok) ?_|refine qa7 (qv9 tok) ?_|refine qa7 (qv10 tok) ?_|refine qa7 (qv11 tok) ?_|refine qa7 (qv12 tok) ?_|refine qa7 (qv13 tok) ?_|refine qa7 (qv14 tok) ?_|refine qa7 (qv15 tok) ?_|refine qa7 (qv16 tok) ?_|refine qa7 qv17 ?_|refine qa7 (qv18 tok) ?_|refine qa7 qv19 ?_|refine qa7 (qv20 tok) ?_|refine qa7 (qv21 tok) ?_|refine qa7 (qv22 tok) ?_|refine qa1 tok ?_|refine qa2 tok ?_|refine qa3 tok ?_|refine AL.loadR tok rfl rfl rfl rfl rfl rfl ?_|refine qa4 tok ?_|refine qa5 tok ?_|refine AW.block ?_|refine AW.exit ?_|refine AW.skip ?_)
  refine AL.callM rfl rfl rfl (.par 0) (c10) rfl rfl rfl rfl rfl rfl rfl rfl ?_
  repeat (first|refine AL.do tok rfl rfl ?_|refine AL.nil ?_|refine AW.seq fun K hK => ?_|refine AW.region ?_|refine AL.no rfl rfl ?_|(refine hK _ ?_; clear hK)|(clear hK; refine hK _ ?_; clear hK)|(clear hK; clear hK; refine hK _ ?_; clear hK)|refine qa7 qv1 ?_|refine qa7 qv2 ?_|refine qa7 qv3 ?_|refine qa7 (qv4 tok) ?_|refine qa7 (qv5 tok) ?_|refine qa7 qv6 ?_|refine qa7 qv7 ?_|refine qa7 (qv8 tok) ?_|refine qa7 (qv9 tok) ?_|refine qa7 (qv10 tok) ?_|refine qa7 (qv11 tok) ?_|refine qa7 (qv12 tok) ?_|refine qa7 (qv13 tok) ?_|refine qa7 (qv14 tok) ?_|refine qa7 (qv15 tok) ?_|refine qa7 (qv16 tok) ?_|refine qa7 qv17 ?_|refine qa7 (qv18 tok) ?_|refine qa7 qv19 ?_|refine qa7 (qv20 tok) ?_|refine qa7 (qv21 tok) ?_|refine qa7 (qv22 tok) ?_|refine qa1 tok ?_|refine qa2 tok ?_|refine qa3 tok ?_|refine AL.loadR tok rfl rfl rfl rfl rfl rfl ?_|refine qa4 tok ?_|refine qa5 tok ?_|refine AW.block ?_|refine AW.exit ?_|refine AW.skip ?_)
  generalize hPS : rdPs b n.toNat s12 = PS at *
  refine AW.nilOwnB 1 8 34 2 rfl rfl rfl ?_
  refine AW.loop (ι := Nat × List Pr × (Int × Int)) (fun x => ⟨59, [(5, i64 x.1), (4, i64 n), (3, .ptr (.loc 1) 0), (2, .ptr (.loc 0) 0), (0, .ptr (.par 0) 0)], [(0, some (.box 36 [st ⟨#[]⟩, st ⟨#[]⟩, i64 0, bo false, i64 0, i64 0, st ⟨#[]⟩, i64 0, .nilrow])),
      (1, some (.box 36 [st t.1, st pl.1, i64 lv.1, bo (decide (rt.1 = 1)), i64 pr.1, i64 ex.1, st fr.1, i64 sq.1, .own (.loc 2)])), (2, some (.row 34 2 (x.2.1.map encP)))], [rrB b x.2.2], 3⟩)
    (fun x => (x.1 : Int) ≤ n ∧ x.2.1.length = x.1 ∧ x.2.1 ++ (rdPs b (n.toNat - x.1) x.2.2).1 = PS.1 ∧ (rdPs b (n.toNat - x.1) x.2.2).2 = PS.2) (fun x => n.toNat - x.1) (0, [], s12) ⟨by simpa using hn.1, rfl, by simp only [Nat.sub_zero, hPS, List.nil_append], by simp only [Nat.sub_zero, hPS]⟩ ?_ ?_
  · (refine Imp.weak id (fun _ _ _ _ h => h) (by first|assumption|(intro b hb; cases hb)) ?_ ?_ <;> (repeat' (first|exact trivial|exact Nat.lt_of_lt_of_le (Nat.lt_succ_self _) (Nat.le_of_ble_eq_true rfl)|exact rfl|exact Or.inl ⟨rfl, rfl⟩|exact Or.inr ⟨rfl, LF.fn _ _ ‹_›⟩|refine ⟨?_, ?_⟩)))
  rintro ⟨i, ps, s⟩ ⟨hi, hlen, hf, hf2⟩ K1 hK1
  simp only at hi hlen hf hf2
  have hlfs := rrB_lf b s
  have hfin : ¬ ((i : Int) < n ∧ s.2 = 0) → ps = PS.1 ∧ s = PS.2 := by
    intro h
    by_cases h1 : (i : Int) < n
    · have h2 : s.2 ≠ 0 := fun e => h ⟨h1, e⟩
      rw [show n.toNat - i = (n.toNat - (i + 1)) + 1 by omega, rdPs, if_neg h2] at hf hf2
      exact ⟨by simpa using hf, hf2⟩
    · rw [show n.toNat - i = 0 by omega, rdPs] at hf hf2
      exact ⟨by simpa using hf, hf2⟩
  by_cases hc : (i : Int) < n ∧ s.2 = 0
  · obtain ⟨h1, h2⟩ := hc
    rw [show n.toNat - i = (n.toNat - (i + 1)) + 1 by omega, rdPs, if_pos h2] at hf hf2
    have d1 := refRTxt_calls b 16 s hb hl
    generalize rTxt b 16 s = kk at *
    have d2 := refRTxt_calls b 160 kk.2 hb hl
    generalize rTxt b 160 kk.2 = vv at *
    have hlfv := rrB_lf b vv.2
    clear c1 c2 c3 c4 c6 c7 c8 c9 c10 hlf0 hlf1
    repeat' (first|refine AL.do tok rfl rfl ?_|refine AL.nil ?_|refine AW.seq fun K hK => ?_|refine AW.region ?_|refine AL.no rfl rfl ?_|(refine hK _ ?_; clear hK)|(clear hK; refine hK _ ?_; clear hK)|(clear hK; clear hK; refine hK _ ?_; clear hK)|refine qa7 qv1 ?_|refine qa7 qv2 ?_|refine qa7 qv3 ?_|refine qa7 (qv4 tok) ?_|refine qa7 (qv5 tok) ?_|refine qa7 qv6 ?_|refine qa7 qv7 ?_|refine qa7 (qv8 tok) ?_|refine qa7 (qv9 tok) ?_|refine qa7 (qv10 tok) ?_|refine qa7 (qv11 tok) ?_|refine qa7 (qv12 tok) ?_|refine qa7 (qv13 tok) ?_|refine qa7 (qv14 tok) ?_|refine qa7 (qv15 tok) ?_|refine qa7 (qv16 tok) ?_|refine qa7 qv17 ?_|refine qa7 (qv18 tok) ?_|refine qa7 qv19 ?_|refine qa7 (qv20 tok) ?_|refine qa7 (qv21 tok) ?_|refine qa7 (qv22 tok) ?_|refine qa1 tok ?_|refine qa2 tok ?_|refine qa3 tok ?_|refine AL.loadR tok rfl rfl rfl rfl rfl rfl ?_|refine qa4 tok ?_|refine qa5 tok ?_|refine AW.block ?_|refine AW.exit ?_|refine AW.skip ?_|((fail_if_success (refine AL.guard (b := true) rfl rfl ?_ ?_)); (fail_if_success (refine AL.guard (b := false) rfl rfl ?_ ?_)); refine AL.guard rfl rfl (fun hg => ?_) (fun hg => ?_) <;> ((try simp only [DX] at hg) <;> (try first|(exfalso; omega)|exact absurd trivial hg|exact False.elim hg|exact absurd rfl hg)))|refine AW.condT rfl ?_|refine AW.condF rfl ?_|(refine AW.cond rfl (fun hg => ?_) (fun hg => ?_) <;> ((try simp only [DX] at hg) <;> (try first|(exfalso; omega)|exact absurd trivial hg|exact False.elim hg|exact absurd rfl hg))))
    all_goals try (exfalso; (try simp only [DX] at *); omega)
    refine AL.callM rfl rfl rfl (.par 0) (d1) rfl rfl rfl rfl rfl rfl rfl rfl ?_
    repeat (first|refine AL.do tok rfl rfl ?_|refine AL.nil ?_|refine AW.seq fun K hK => ?_|refine AW.region ?_|refine AL.no rfl rfl ?_|(refine hK _ ?_; clear hK)|(clear hK; refine hK _ ?_; clear hK)|(clear hK; clear hK; refine hK _ ?_; clear hK)|refine qa7 qv1 ?_|refine qa7 qv2 ?_|refine qa7 qv3 ?_|refine qa7 (qv4 tok) ?_|refine qa7 (qv5 tok) ?_|refine qa7 qv6 ?_|refine qa7 qv7 ?_|refine qa7 (qv8 tok) ?_|refine qa7 (qv9 tok) ?_|refine qa7 (qv10 tok) ?_|refine qa7 (qv11 tok) ?_|refine qa7 (qv12 tok) ?_|refine qa7 (qv13 tok) ?_|refine qa7 (qv14 tok) ?_|refine qa7 (qv15 tok) ?_|refine qa7 (qv16 tok) ?_|refine qa7 qv17 ?_|refine qa7 (qv18 tok) ?_|refine qa7 qv19 ?_|refine qa7 (qv20 tok) ?_|refine qa7 (qv21 tok) ?_|refine qa7 (qv22 tok) ?_|refine qa1 tok ?_|refine qa2 tok ?_|refine qa3 tok ?_|refine AL.loadR tok rfl rfl rfl rfl rfl rfl ?_|refine qa4 tok ?_|refine qa5 tok ?_|refine AW.block ?_|refine AW.exit ?_|refine AW.skip ?_)
    have he : ps.map encP ++ [[D.one (Value.string kk.1), D.one (Value.string vv.1)]] = (ps ++ [(⟨kk.1, vv.1⟩ : Pr)]).map encP := by simp [encP]
    have H := fun σ (hi : Imp σ ⟨59, [(5, i64 i), (4, i64 n), (3, .ptr (.loc 1) 0), (2, .ptr (.loc 0) 0), (0, .ptr (.par 0) 0)], [(0, some (.box 36 [st ⟨#[]⟩, st ⟨#[]⟩, i64 0, bo false, i64 0, i64 0, st ⟨#[]⟩, i64 0, .nilrow])),
      (1, some (.box 36 [st t.1, st pl.1, i64 lv.1, bo (decide (rt.1 = 1)), i64 pr.1, i64 ex.1, st fr.1, i64 sq.1, .own (.loc 2)])), (2, some (.row 34 2 ((ps ++ [(⟨kk.1, vv.1⟩ : Pr)]).map encP)))], [rrB b vv.2], 3⟩) => hK σ (AW.imp hi (by
        repeat (first|refine AL.do tok rfl rfl ?_|refine AL.nil ?_|refine AW.seq fun K hK => ?_|refine AW.region ?_|refine AL.no rfl rfl ?_|(refine hK _ ?_; clear hK)|(clear hK; refine hK _ ?_; clear hK)|(clear hK; clear hK; refine hK _ ?_; clear hK)|refine qa7 qv1 ?_|refine qa7 qv2 ?_|refine qa7 qv3 ?_|refine qa7 (qv4 tok) ?_|refine qa7 (qv5 tok) ?_|refine qa7 qv6 ?_|refine qa7 qv7 ?_|refine qa7 (qv8 tok) ?_|refine qa7 (qv9 tok) ?_|refine qa7 (qv10 tok) ?_|refine qa7 (qv11 tok) ?_|refine qa7 (qv12 tok) ?_|refine qa7 (qv13 tok) ?_|refine qa7 (qv14 tok) ?_|refine qa7 (qv15 tok) ?_|refine qa7 (qv16 tok) ?_|refine qa7 qv17 ?_|refine qa7 (qv18 tok) ?_|refine qa7 qv19 ?_|refine qa7 (qv20 tok) ?_|refine qa7 (qv21 tok) ?_|refine qa7 (qv22 tok) ?_|refine qa1 tok ?_|refine qa2 tok ?_|refine qa3 tok ?_|refine AL.loadR tok rfl rfl rfl rfl rfl rfl ?_|refine qa4 tok ?_|refine qa5 tok ?_|refine AW.block ?_|refine AW.exit ?_|refine AW.skip ?_)
        refine hK1 _ (i + 1, ps ++ [⟨kk.1, vv.1⟩], vv.2) ⟨by simp only; omega, by simp [hlen], by rw [← hf]; simp, hf2⟩ (by simp only; omega) ?_
        (refine Imp.weak id (fun _ _ _ _ h => h) (by first|assumption|(intro b hb; cases hb)) ?_ ?_ <;> (repeat' (first|exact trivial|exact Nat.lt_of_lt_of_le (Nat.lt_succ_self _) (Nat.le_of_ble_eq_true rfl)|exact rfl|exact Or.inl ⟨rfl, rfl⟩|exact Or.inr ⟨rfl, LF.fn _ _ ‹_›⟩|refine ⟨?_, ?_⟩)))))
    clear hK
    refine AW.orders mix ?_
    repeat' first|refine AD.step (by decide +kernel) ?_|exact EachO.zero|refine EachO.no (by decide +kernel) ?_|refine EachO.yes ?_ ?_|refine AOp.some rfl ?_|refine And.intro rfl ?_|refine AL.do tok rfl rfl ?_|refine AL.nil ?_|refine AW.seq fun K hK => ?_|refine AW.region ?_|refine AL.no rfl rfl ?_|(refine hK _ ?_; clear hK)|(clear hK; refine hK _ ?_; clear hK)|(clear hK; clear hK; refine hK _ ?_; clear hK)|refine qa7 qv1 ?_|refine qa7 qv2 ?_|refine qa7 qv3 ?_|refine qa7 (qv4 tok) ?_|refine qa7 (qv5 tok) ?_|refine qa7 qv6 ?_|refine qa7 qv7 ?_|refine qa7 (qv8 tok) ?_|refine qa7 (qv9 tok) ?_|refine qa7 (qv10 tok) ?_|refine qa7 (qv11 tok) ?_|refine qa7 (qv12 tok) ?_|refine qa7 (qv13 tok) ?_|refine qa7 (qv14 tok) ?_|refine qa7 (qv15 tok) ?_|refine qa7 (qv16 tok) ?_|refine qa7 qv17 ?_|refine qa7 (qv18 tok) ?_|refine qa7 qv19 ?_|refine qa7 (qv20 tok) ?_|refine qa7 (qv21 tok) ?_|refine qa7 (qv22 tok) ?_|refine qa1 tok ?_|refine qa2 tok ?_|refine qa3 tok ?_|refine AL.loadR tok rfl rfl rfl rfl rfl rfl ?_|refine qa4 tok ?_|refine qa5 tok ?_|refine AW.block ?_|refine AW.exit ?_|refine AW.skip ?_|refine AL.callM rfl rfl rfl (.par 0) (d2) rfl rfl rfl rfl rfl rfl rfl rfl ?_|refine qa6 tok ?_|refine AD.done (by decide +kernel) ?_
    all_goals
      simp only [he]
      refine H _ ?_
      (refine Imp.weak (fun k => if k = 2 then 4 else k) (fun j k h1 h2 h => by by_cases e1 : j = 2 <;> by_cases e2 : k = 2 <;> simp [e1, e2] at h <;> omega) (by first|assumption|(intro b hb; cases hb)) ?_ ?_ <;> (repeat' (first|exact trivial|exact Nat.lt_of_lt_of_le (Nat.lt_succ_self _) (Nat.le_of_ble_eq_true rfl)|exact rfl|exact Or.inl ⟨rfl, rfl⟩|exact Or.inr ⟨rfl, LF.fn _ _ ‹_›⟩|refine ⟨?_, ?_⟩)))
  · obtain ⟨rfl, rfl⟩ := hfin hc
    clear hf hf2 hfin hPS c1 c2 c3 c4 c6 c7 c8 c9 c10
    refine AW.frz 2 rfl rfl rfl ?_
    repeat' (first|refine AL.do tok rfl rfl ?_|refine AL.nil ?_|refine AW.seq fun K hK => ?_|refine AW.region ?_|refine AL.no rfl rfl ?_|(refine hK _ ?_; clear hK)|(clear hK; refine hK _ ?_; clear hK)|(clear hK; clear hK; refine hK _ ?_; clear hK)|refine qa7 qv1 ?_|refine qa7 qv2 ?_|refine qa7 qv3 ?_|refine qa7 (qv4 tok) ?_|refine qa7 (qv5 tok) ?_|refine qa7 qv6 ?_|refine qa7 qv7 ?_|refine qa7 (qv8 tok) ?_|refine qa7 (qv9 tok) ?_|refine qa7 (qv10 tok) ?_|refine qa7 (qv11 tok) ?_|refine qa7 (qv12 tok) ?_|refine qa7 (qv13 tok) ?_|refine qa7 (qv14 tok) ?_|refine qa7 (qv15 tok) ?_|refine qa7 (qv16 tok) ?_|refine qa7 qv17 ?_|refine qa7 (qv18 tok) ?_|refine qa7 qv19 ?_|refine qa7 (qv20 tok) ?_|refine qa7 (qv21 tok) ?_|refine qa7 (qv22 tok) ?_|refine qa1 tok ?_|refine qa2 tok ?_|refine qa3 tok ?_|refine AL.loadR tok rfl rfl rfl rfl rfl rfl ?_|refine qa4 tok ?_|refine qa5 tok ?_|refine AW.block ?_|refine AW.exit ?_|refine AW.skip ?_|((fail_if_success (refine AL.guard (b := true) rfl rfl ?_ ?_)); (fail_if_success (refine AL.guard (b := false) rfl rfl ?_ ?_)); refine AL.guard rfl rfl (fun hg => ?_) (fun hg => ?_) <;> ((try simp only [DX] at hg) <;> (try first|(exfalso; omega)|exact absurd trivial hg|exact False.elim hg|exact absurd rfl hg)))|refine AW.condT rfl ?_|refine AW.condF rfl ?_|(refine AW.cond rfl (fun hg => ?_) (fun hg => ?_) <;> ((try simp only [DX] at hg) <;> (try first|(exfalso; omega)|exact absurd trivial hg|exact False.elim hg|exact absurd rfl hg)))|refine AW.ret ?_)
    all_goals try (exfalso; (try simp only [DX] at *); omega)
    all_goals
      refine ⟨_, _, _, _, rfl, Out.pureM rfl ⟨?_, ?_, rfl⟩ (by rfl)⟩
      · rfl
      · rfl
end Go.Proofs.Try
