/- fair: the next consumer. -/
import Derived.Test.YtpohebmofcdeiaaFairC
set_option linter.unusedSimpArgs false
set_option linter.unusedVariables false
namespace Go.Proofs.Try
open Go Go.AM

def readyB (c : C) : Bool := decide (c.prefetch = 0) || decide (c.unacked < c.prefetch)
def mayB (queue : ByteArray) (c : C) : Bool := decide (c.queue = queue) && readyB c

set_option maxRecDepth 10000 in
theorem next1_calls (c : C) (queue : ByteArray) : ACallU Try.prog 26 [aggC c, .ptr (.par 0) 0] [.box 9 [st queue]] (bo (mayB queue c)) := by
  refine ACalls.body tok Try.func26 rfl (by kernel_rfl) (by rw [Try.ntmps26]; simp) ?_
  simp only [Try.ntmps26, Try.results26, argT]
  repeat' (first|refine AL.do tok rfl rfl ?_|refine AL.nil ?_|refine AW.seq fun K hK => ?_|refine AW.region ?_|refine AL.no rfl rfl ?_|(refine hK _ ?_; clear hK)|(clear hK; refine hK _ ?_; clear hK)|(clear hK; clear hK; refine hK _ ?_; clear hK)|refine qa7 qv1 ?_|refine qa7 qv2 ?_|refine qa7 qv3 ?_|refine qa7 (qv4 tok) ?_|refine qa7 (qv5 tok) ?_|refine qa7 qv6 ?_|refine qa7 qv7 ?_|refine qa7 (qv8 tok) ?_|refine qa7 (qv9 tok) ?_|refine qa7 (qv10 tok) ?_|refine qa7 (qv11 tok) ?_|refine qa7 (qv12 tok) ?_|refine qa7 (qv13 tok) ?_|refine qa7 (qv14 tok) ?_|refine qa7 (qv15 tok) ?_|refine qa7 (qv16 tok) ?_|refine qa7 qv17 ?_|refine qa7 (qv18 tok) ?_|refine qa7 qv19 ?_|refine qa7 (qv20 tok) ?_|refine qa7 (qv21 tok) ?_|refine qa7 (qv22 tok) ?_|refine qa1 tok ?_|refine qa2 tok ?_|refine qa3 tok ?_|refine AL.loadR tok rfl rfl rfl rfl rfl rfl ?_|refine qa4 tok ?_|refine qa5 tok ?_|refine AW.block ?_|refine AW.exit ?_|refine AW.skip ?_|refine qc1 (ready_calls ..) ?_|refine qc2 (ready_calls ..) ?_|((fail_if_success (refine AL.guard (b := true) rfl rfl ?_ ?_)); (fail_if_success (refine AL.guard (b := false) rfl rfl ?_ ?_)); refine AL.guard rfl rfl (fun hg => ?_) (fun hg => ?_) <;> ((try simp only [DX] at hg) <;> (try first|(exfalso; omega)|exact absurd trivial hg|exact False.elim hg|exact absurd rfl hg)))|refine AW.condT rfl ?_|refine AW.condF rfl ?_|(refine AW.cond rfl (fun hg => ?_) (fun hg => ?_) <;> ((try simp only [DX] at hg) <;> (try first|(exfalso; omega)|exact absurd trivial hg|exact False.elim hg|exact absurd rfl hg)))|refine AW.ret ?_)
  all_goals (refine ⟨_, _, _, _, rfl, Out.pure rfl ⟨?_, rfl, rfl, rfl⟩ rfl⟩; simp [mayB, readyB, hg])
set_option maxRecDepth 10000 in
theorem next2_calls (c : C) (last : Int) : ACallU Try.prog 28 [aggC c, .ptr (.par 0) 0] [.box 3 [i64 last]] (bo (decide (c.tag = last))) := by
  refine ACalls.body tok Try.func28 rfl (by kernel_rfl) (by rw [Try.ntmps28]; simp) ?_
  simp only [Try.ntmps28, Try.results28, argT]
  repeat' (first|refine AL.do tok rfl rfl ?_|refine AL.nil ?_|refine AW.seq fun K hK => ?_|refine AW.region ?_|refine AL.no rfl rfl ?_|(refine hK _ ?_; clear hK)|(clear hK; refine hK _ ?_; clear hK)|(clear hK; clear hK; refine hK _ ?_; clear hK)|refine qa7 qv1 ?_|refine qa7 qv2 ?_|refine qa7 qv3 ?_|refine qa7 (qv4 tok) ?_|refine qa7 (qv5 tok) ?_|refine qa7 qv6 ?_|refine qa7 qv7 ?_|refine qa7 (qv8 tok) ?_|refine qa7 (qv9 tok) ?_|refine qa7 (qv10 tok) ?_|refine qa7 (qv11 tok) ?_|refine qa7 (qv12 tok) ?_|refine qa7 (qv13 tok) ?_|refine qa7 (qv14 tok) ?_|refine qa7 (qv15 tok) ?_|refine qa7 (qv16 tok) ?_|refine qa7 qv17 ?_|refine qa7 (qv18 tok) ?_|refine qa7 qv19 ?_|refine qa7 (qv20 tok) ?_|refine qa7 (qv21 tok) ?_|refine qa7 (qv22 tok) ?_|refine qa1 tok ?_|refine qa2 tok ?_|refine qa3 tok ?_|refine AL.loadR tok rfl rfl rfl rfl rfl rfl ?_|refine qa4 tok ?_|refine qa5 tok ?_|refine AW.block ?_|refine AW.exit ?_|refine AW.skip ?_|((fail_if_success (refine AL.guard (b := true) rfl rfl ?_ ?_)); (fail_if_success (refine AL.guard (b := false) rfl rfl ?_ ?_)); refine AL.guard rfl rfl (fun hg => ?_) (fun hg => ?_) <;> ((try simp only [DX] at hg) <;> (try first|(exfalso; omega)|exact absurd trivial hg|exact False.elim hg|exact absurd rfl hg)))|refine AW.condT rfl ?_|refine AW.condF rfl ?_|(refine AW.cond rfl (fun hg => ?_) (fun hg => ?_) <;> ((try simp only [DX] at hg) <;> (try first|(exfalso; omega)|exact absurd trivial hg|exact False.elim hg|exact absurd rfl hg)))|refine AW.ret ?_)
  all_goals (refine ⟨_, _, _, _, rfl, Out.pure rfl ⟨?_, rfl, rfl, rfl⟩ rfl⟩; simp)

theorem firstS_range (p : C → Bool) : ∀ (l : List C) (k : Nat), firstS p l k = -1 ∨ ((k : Int) ≤ firstS p l k ∧ firstS p l k < k + l.length)
  | [], k => .inl rfl
  | c :: r, k => by
    simp only [firstS]
    split
    · exact .inr ⟨Int.le_refl _, by simp; omega⟩
    · rcases firstS_range p r (k + 1) with h | h
      · exact .inl h
      · exact .inr ⟨by omega, by simp; omega⟩

/-- The next consumer's index, and whether there is one. -/
def beginS (l : List C) (last : Int) : Nat := (firstS (fun c => decide (c.tag = last)) l 0 + 1).toNat
def nextI (l : List C) (queue : ByteArray) (last : Int) : Int :=
  let i := firstS (mayB queue) (l.drop (beginS l last)) (beginS l last)
  if i < 0 then firstS (mayB queue) l 0 else i
def nextAV (i : Int) : AV := .tup [i64 (if i < 0 then 0 else i), bo (decide (0 ≤ i))]

set_option maxHeartbeats 4000000 in
set_option maxRecDepth 10000 in
theorem next_calls (l : List C) (queue : ByteArray) (last : Int) : ACallP Try.prog 13 [rowC l, st queue, i64 last] (nextAV (nextI l queue last)) := by
  refine ACalls.body tok Try.func13 rfl (by kernel_rfl) (by rw [Try.ntmps13]; simp) ?_
  simp only [Try.ntmps13, Try.results13, argT]
  refine AW.bound 0 rfl fun hm => ?_
  rw [List.length_map] at hm
  repeat (first|refine AL.do tok rfl rfl ?_|refine AL.nil ?_|refine AW.seq fun K hK => ?_|refine AW.region ?_|refine AL.no rfl rfl ?_|(refine hK _ ?_; clear hK)|(clear hK; refine hK _ ?_; clear hK)|(clear hK; clear hK; refine hK _ ?_; clear hK)|refine qa7 qv1 ?_|refine qa7 qv2 ?_|refine qa7 qv3 ?_|refine qa7 (qv4 tok) ?_|refine qa7 (qv5 tok) ?_|refine qa7 qv6 ?_|refine qa7 qv7 ?_|refine qa7 (qv8 tok) ?_|refine qa7 (qv9 tok) ?_|refine qa7 (qv10 tok) ?_|refine qa7 (qv11 tok) ?_|refine qa7 (qv12 tok) ?_|refine qa7 (qv13 tok) ?_|refine qa7 (qv14 tok) ?_|refine qa7 (qv15 tok) ?_|refine qa7 (qv16 tok) ?_|refine qa7 qv17 ?_|refine qa7 (qv18 tok) ?_|refine qa7 qv19 ?_|refine qa7 (qv20 tok) ?_|refine qa7 (qv21 tok) ?_|refine qa7 (qv22 tok) ?_|refine qa1 tok ?_|refine qa2 tok ?_|refine qa3 tok ?_|refine AL.loadR tok rfl rfl rfl rfl rfl rfl ?_|refine qa4 tok ?_|refine qa5 tok ?_|refine AW.block ?_|refine AW.exit ?_|refine AW.skip ?_)
  refine AL.callU rfl rfl rfl rfl [.loc 1] (ys := [rowC l, i64 (0 : Nat), .fn 28 [.ptr (.par 0) 0]]) (HpC := [.box 3 [i64 last]]) rfl rfl (by decide) rfl rfl
    (first_calls l 0 _ _ _ _ (Nat.zero_le _) (fun c _ => next2_calls c last) (by simp; exact .ptr _ _) (by simp [LFB]; exact .d _)) (fun r hr => ?_)
  subst hr
  have hr := firstS_range (fun c => decide (c.tag = last)) l 0
  have hb : ((beginS l last : Nat) : Int) = firstS (fun c => decide (c.tag = last)) l 0 + 1 := by
    unfold beginS
    rcases hr with h | h
    · rw [h]; rfl
    · omega
  simp only [List.drop_zero]
  generalize hat : firstS (fun c => decide (c.tag = last)) l 0 = at0 at *
  repeat (first|refine AL.do tok rfl rfl ?_|refine AL.nil ?_|refine AW.seq fun K hK => ?_|refine AW.region ?_|refine AL.no rfl rfl ?_|(refine hK _ ?_; clear hK)|(clear hK; refine hK _ ?_; clear hK)|(clear hK; clear hK; refine hK _ ?_; clear hK)|refine qa7 qv1 ?_|refine qa7 qv2 ?_|refine qa7 qv3 ?_|refine qa7 (qv4 tok) ?_|refine qa7 (qv5 tok) ?_|refine qa7 qv6 ?_|refine qa7 qv7 ?_|refine qa7 (qv8 tok) ?_|refine qa7 (qv9 tok) ?_|refine qa7 (qv10 tok) ?_|refine qa7 (qv11 tok) ?_|refine qa7 (qv12 tok) ?_|refine qa7 (qv13 tok) ?_|refine qa7 (qv14 tok) ?_|refine qa7 (qv15 tok) ?_|refine qa7 (qv16 tok) ?_|refine qa7 qv17 ?_|refine qa7 (qv18 tok) ?_|refine qa7 qv19 ?_|refine qa7 (qv20 tok) ?_|refine qa7 (qv21 tok) ?_|refine qa7 (qv22 tok) ?_|refine qa1 tok ?_|refine qa2 tok ?_|refine qa3 tok ?_|refine AL.loadR tok rfl rfl rfl rfl rfl rfl ?_|refine qa4 tok ?_|refine qa5 tok ?_|refine AW.block ?_|refine AW.exit ?_|refine AW.skip ?_)
  rw [← hb]
  refine AL.callU rfl rfl rfl rfl [.loc 0] (ys := [rowC l, i64 (beginS l last : Nat), .fn 26 [.ptr (.par 0) 0]]) (HpC := [.box 9 [st queue]]) rfl rfl (by decide) rfl rfl
    (first_calls l (beginS l last) _ _ _ _ (by omega) (fun c _ => next1_calls c queue) (by simp; exact .ptr _ _) (by simp [LFB]; exact .d _)) (fun r hr => ?_)
  subst hr
  repeat' (first|refine AL.do tok rfl rfl ?_|refine AL.nil ?_|refine AW.seq fun K hK => ?_|refine AW.region ?_|refine AL.no rfl rfl ?_|(refine hK _ ?_; clear hK)|(clear hK; refine hK _ ?_; clear hK)|(clear hK; clear hK; refine hK _ ?_; clear hK)|refine qa7 qv1 ?_|refine qa7 qv2 ?_|refine qa7 qv3 ?_|refine qa7 (qv4 tok) ?_|refine qa7 (qv5 tok) ?_|refine qa7 qv6 ?_|refine qa7 qv7 ?_|refine qa7 (qv8 tok) ?_|refine qa7 (qv9 tok) ?_|refine qa7 (qv10 tok) ?_|refine qa7 (qv11 tok) ?_|refine qa7 (qv12 tok) ?_|refine qa7 (qv13 tok) ?_|refine qa7 (qv14 tok) ?_|refine qa7 (qv15 tok) ?_|refine qa7 (qv16 tok) ?_|refine qa7 qv17 ?_|refine qa7 (qv18 tok) ?_|refine qa7 qv19 ?_|refine qa7 (qv20 tok) ?_|refine qa7 (qv21 tok) ?_|refine qa7 (qv22 tok) ?_|refine qa1 tok ?_|refine qa2 tok ?_|refine qa3 tok ?_|refine AL.loadR tok rfl rfl rfl rfl rfl rfl ?_|refine qa4 tok ?_|refine qa5 tok ?_|refine AW.block ?_|refine AW.exit ?_|refine AW.skip ?_|((fail_if_success (refine AL.guard (b := true) rfl rfl ?_ ?_)); (fail_if_success (refine AL.guard (b := false) rfl rfl ?_ ?_)); refine AL.guard rfl rfl (fun hg => ?_) (fun hg => ?_) <;> ((try simp only [DX] at hg) <;> (try first|(exfalso; omega)|exact absurd trivial hg|exact False.elim hg|exact absurd rfl hg)))|refine AW.condT rfl ?_|refine AW.condF rfl ?_|(refine AW.cond rfl (fun hg => ?_) (fun hg => ?_) <;> ((try simp only [DX] at hg) <;> (try first|(exfalso; omega)|exact absurd trivial hg|exact False.elim hg|exact absurd rfl hg)))|refine AW.ret ?_)
  · refine AL.callU rfl rfl rfl rfl [.loc 0] (ys := [rowC l, i64 (0 : Nat), .fn 26 [.ptr (.par 0) 0]]) (HpC := [.box 9 [st queue]]) rfl rfl (by decide) rfl rfl
      (first_calls l 0 _ _ _ _ (Nat.zero_le _) (fun c _ => next1_calls c queue) (by simp; exact .ptr _ _) (by simp [LFB]; exact .d _)) (fun r hr => ?_)
    subst hr
    simp only [List.drop_zero]
    repeat' (first|refine AL.do tok rfl rfl ?_|refine AL.nil ?_|refine AW.seq fun K hK => ?_|refine AW.region ?_|refine AL.no rfl rfl ?_|(refine hK _ ?_; clear hK)|(clear hK; refine hK _ ?_; clear hK)|(clear hK; clear hK; refine hK _ ?_; clear hK)|refine qa7 qv1 ?_|refine qa7 qv2 ?_|refine qa7 qv3 ?_|refine qa7 (qv4 tok) ?_|refine qa7 (qv5 tok) ?_|refine qa7 qv6 ?_|refine qa7 qv7 ?_|refine qa7 (qv8 tok) ?_|refine qa7 (qv9 tok) ?_|refine qa7 (qv10 tok) ?_|refine qa7 (qv11 tok) ?_|refine qa7 (qv12 tok) ?_|refine qa7 (qv13 tok) ?_|refine qa7 (qv14 tok) ?_|refine qa7 (qv15 tok) ?_|refine qa7 (qv16 tok) ?_|refine qa7 qv17 ?_|refine qa7 (qv18 tok) ?_|refine qa7 qv19 ?_|refine qa7 (qv20 tok) ?_|refine qa7 (qv21 tok) ?_|refine qa7 (qv22 tok) ?_|refine qa1 tok ?_|refine qa2 tok ?_|refine qa3 tok ?_|refine AL.loadR tok rfl rfl rfl rfl rfl rfl ?_|refine qa4 tok ?_|refine qa5 tok ?_|refine AW.block ?_|refine AW.exit ?_|refine AW.skip ?_|((fail_if_success (refine AL.guard (b := true) rfl rfl ?_ ?_)); (fail_if_success (refine AL.guard (b := false) rfl rfl ?_ ?_)); refine AL.guard rfl rfl (fun hg => ?_) (fun hg => ?_) <;> ((try simp only [DX] at hg) <;> (try first|(exfalso; omega)|exact absurd trivial hg|exact False.elim hg|exact absurd rfl hg)))|refine AW.condT rfl ?_|refine AW.condF rfl ?_|(refine AW.cond rfl (fun hg => ?_) (fun hg => ?_) <;> ((try simp only [DX] at hg) <;> (try first|(exfalso; omega)|exact absurd trivial hg|exact False.elim hg|exact absurd rfl hg)))|refine AW.ret ?_)
    · refine ⟨_, _, _, _, rfl, Out.pure rfl ⟨?_, rfl⟩ rfl⟩
      have h : ¬ 0 ≤ firstS (mayB queue) l 0 := by omega
      have h1 : firstS (mayB queue) (List.drop (beginS l last) l) (beginS l last) < 0 := by assumption
      simp [nextAV, nextI, h1, hg, h]
    · refine ⟨_, _, _, _, rfl, Out.pure rfl ⟨?_, rfl⟩ rfl⟩
      have h : ¬ firstS (mayB queue) l 0 < 0 := by omega
      have h1 : firstS (mayB queue) (List.drop (beginS l last) l) (beginS l last) < 0 := by assumption
      simp [nextAV, nextI, h1, hg, h]
  · refine ⟨_, _, _, _, rfl, Out.pure rfl ⟨?_, rfl⟩ rfl⟩
    have h : ¬ firstS (mayB queue) (List.drop (beginS l last) l) (beginS l last) < 0 := by omega
    simp [nextAV, nextI, hg, h]
end Go.Proofs.Try
