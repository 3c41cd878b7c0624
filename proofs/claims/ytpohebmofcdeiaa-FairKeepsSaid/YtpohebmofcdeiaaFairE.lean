/- fair: the reference's next consumer. -/
import Derived.Test.YtpohebmofcdeiaaFairD
set_option linter.unusedSimpArgs false
set_option linter.unusedVariables false
namespace Go.Proofs.Try
open Go Go.AM

/-- The first that may, going round from b on. -/
def roundS (l : List C) (queue : ByteArray) (b : Nat) : Nat → Nat → Int
  | _, 0 => -1
  | k, f + 1 => if (match l[(b + k) % l.length]? with | some c => mayB queue c | none => false) then ((b + k) % l.length : Nat) else roundS l queue b (k + 1) f

theorem beginS_lt {l : List C} {last : Int} {i : Nat} (h : i < l.length) : firstS (fun c => decide (c.tag = last)) (l.drop i) i = if l[i].tag = last then (i : Int) else firstS (fun c => decide (c.tag = last)) (l.drop (i + 1)) (i + 1) := by
  rw [List.drop_eq_getElem_cons h]
  simp [firstS]

theorem beginS_le (l : List C) (last : Int) : beginS l last ≤ l.length := by
  unfold beginS
  rcases firstS_range (fun c => decide (c.tag = last)) l 0 with h | h
  · rw [h]; simp
  · omega

set_option maxHeartbeats 8000000 in
set_option maxRecDepth 10000 in
theorem refNext_calls (l : List C) (queue : ByteArray) (last : Int) (hl : l.length ≤ 1000000) : ACallP Try.prog 14 [rowC l, st queue, i64 last] (nextAV (roundS l queue (beginS l last) 0 l.length)) := by
  refine ACalls.body tok Try.func14 rfl (by kernel_rfl) (by rw [Try.ntmps14]; simp) ?_
  simp only [Try.ntmps14, Try.results14, argT]
  refine AW.bound 0 rfl fun hm => ?_
  rw [List.length_map] at hm
  repeat (first|refine AL.do tok rfl rfl ?_|refine AL.nil ?_|refine AW.seq fun K hK => ?_|refine AW.region ?_|refine AL.no rfl rfl ?_|(refine hK _ ?_; clear hK)|(clear hK; refine hK _ ?_; clear hK)|(clear hK; clear hK; refine hK _ ?_; clear hK)|refine qa7 qv1 ?_|refine qa7 qv2 ?_|refine qa7 qv3 ?_|refine qa7 (qv4 tok) ?_|refine qa7 (qv5 tok) ?_|refine qa7 qv6 ?_|refine qa7 qv7 ?_|refine qa7 (qv8 tok) ?_|refine qa7 (qv9 tok) ?_|refine qa7 (qv10 tok) ?_|refine qa7 (qv11 tok) ?_|refine qa7 (qv12 tok) ?_|refine qa7 (qv13 tok) ?_|refine qa7 (qv14 tok) ?_|refine qa7 (qv15 tok) ?_|refine qa7 (qv16 tok) ?_|refine qa7 qv17 ?_|refine qa7 (qv18 tok) ?_|refine qa7 qv19 ?_|refine qa7 (qv20 tok) ?_|refine qa7 (qv21 tok) ?_|refine qa7 (qv22 tok) ?_|refine qa1 tok ?_|refine qa2 tok ?_|refine qa3 tok ?_|refine AL.loadR tok rfl rfl rfl rfl rfl rfl ?_|refine qa4 tok ?_|refine qa5 tok ?_|refine AW.block ?_|refine AW.exit ?_|refine AW.skip ?_)
  simp only [List.length_map]
  have H := fun σ (hi : Imp σ ⟨54, [(8, i64 (beginS l last : Nat)), (7, bo false), (6, i64 0), (0, rowC l), (1, st queue)], [], [], 0⟩) => hK σ (AW.imp hi (by
    clear hK
    repeat (first|refine AL.do tok rfl rfl ?_|refine AL.nil ?_|refine AW.seq fun K hK => ?_|refine AW.region ?_|refine AL.no rfl rfl ?_|(refine hK _ ?_; clear hK)|(clear hK; refine hK _ ?_; clear hK)|(clear hK; clear hK; refine hK _ ?_; clear hK)|refine qa7 qv1 ?_|refine qa7 qv2 ?_|refine qa7 qv3 ?_|refine qa7 (qv4 tok) ?_|refine qa7 (qv5 tok) ?_|refine qa7 qv6 ?_|refine qa7 qv7 ?_|refine qa7 (qv8 tok) ?_|refine qa7 (qv9 tok) ?_|refine qa7 (qv10 tok) ?_|refine qa7 (qv11 tok) ?_|refine qa7 (qv12 tok) ?_|refine qa7 (qv13 tok) ?_|refine qa7 (qv14 tok) ?_|refine qa7 (qv15 tok) ?_|refine qa7 (qv16 tok) ?_|refine qa7 qv17 ?_|refine qa7 (qv18 tok) ?_|refine qa7 qv19 ?_|refine qa7 (qv20 tok) ?_|refine qa7 (qv21 tok) ?_|refine qa7 (qv22 tok) ?_|refine qa1 tok ?_|refine qa2 tok ?_|refine qa3 tok ?_|refine AL.loadR tok rfl rfl rfl rfl rfl rfl ?_|refine qa4 tok ?_|refine qa5 tok ?_|refine AW.block ?_|refine AW.exit ?_|refine AW.skip ?_)
    simp only [List.length_map]
    have hbl := beginS_le l last
    generalize beginS l last = b at *
    refine AW.loop (ι := Nat) (fun k => ⟨54, [(29, i64 k), (28, i64 l.length), (27, rowC l), (8, i64 b), (7, bo false), (6, i64 0), (0, rowC l), (1, st queue)], [], [], 0⟩)
      (fun k => k ≤ l.length ∧ roundS l queue b k (l.length - k) = roundS l queue b 0 l.length) (fun k => l.length - k) 0 (And.intro (Nat.zero_le _) rfl) ?_ ?_
    · (refine Imp.weak id (fun _ _ _ _ h => h) (by first|assumption|(intro b hb; cases hb)) ?_ ?_ <;> (repeat' (first|exact trivial|exact Nat.lt_of_lt_of_le (Nat.lt_succ_self _) (Nat.le_of_ble_eq_true rfl)|exact rfl|exact Or.inl ⟨rfl, rfl⟩|exact Or.inr ⟨rfl, LF.fn _ _ ‹_›⟩|refine ⟨?_, ?_⟩)))
    rintro k ⟨hk, hf⟩ K1 hK1
    by_cases hlt : k < l.length
    · have hm0 : (b + k) % l.length < l.length := Nat.mod_lt _ (by omega)
      have hstep : l.length - k = (l.length - (k + 1)) + 1 := by omega
      rw [hstep, roundS, List.getElem?_eq_getElem hm0] at hf
      have hcast : ((b : Int) + (k : Int)) % (l.length : Int) = (((b + k) % l.length : Nat) : Int) := by simp
      repeat (first|refine AL.do tok rfl rfl ?_|refine AL.nil ?_|refine AW.seq fun K hK => ?_|refine AW.region ?_|refine AL.no rfl rfl ?_|(refine hK _ ?_; clear hK)|(clear hK; refine hK _ ?_; clear hK)|(clear hK; clear hK; refine hK _ ?_; clear hK)|refine qa7 qv1 ?_|refine qa7 qv2 ?_|refine qa7 qv3 ?_|refine qa7 (qv4 tok) ?_|refine qa7 (qv5 tok) ?_|refine qa7 qv6 ?_|refine qa7 qv7 ?_|refine qa7 (qv8 tok) ?_|refine qa7 (qv9 tok) ?_|refine qa7 (qv10 tok) ?_|refine qa7 (qv11 tok) ?_|refine qa7 (qv12 tok) ?_|refine qa7 (qv13 tok) ?_|refine qa7 (qv14 tok) ?_|refine qa7 (qv15 tok) ?_|refine qa7 (qv16 tok) ?_|refine qa7 qv17 ?_|refine qa7 (qv18 tok) ?_|refine qa7 qv19 ?_|refine qa7 (qv20 tok) ?_|refine qa7 (qv21 tok) ?_|refine qa7 (qv22 tok) ?_|refine qa1 tok ?_|refine qa2 tok ?_|refine qa3 tok ?_|refine AL.loadR tok rfl rfl rfl rfl rfl rfl ?_|refine qa4 tok ?_|refine qa5 tok ?_|refine AW.block ?_|refine AW.exit ?_|refine AW.skip ?_)
      refine AW.cond rfl (fun hg => ?_) (fun hg => by simp at hg; omega)
      repeat (first|refine AL.do tok rfl rfl ?_|refine AL.nil ?_|refine AW.seq fun K hK => ?_|refine AW.region ?_|refine AL.no rfl rfl ?_|(refine hK _ ?_; clear hK)|(clear hK; refine hK _ ?_; clear hK)|(clear hK; clear hK; refine hK _ ?_; clear hK)|refine qa7 qv1 ?_|refine qa7 qv2 ?_|refine qa7 qv3 ?_|refine qa7 (qv4 tok) ?_|refine qa7 (qv5 tok) ?_|refine qa7 qv6 ?_|refine qa7 qv7 ?_|refine qa7 (qv8 tok) ?_|refine qa7 (qv9 tok) ?_|refine qa7 (qv10 tok) ?_|refine qa7 (qv11 tok) ?_|refine qa7 (qv12 tok) ?_|refine qa7 (qv13 tok) ?_|refine qa7 (qv14 tok) ?_|refine qa7 (qv15 tok) ?_|refine qa7 (qv16 tok) ?_|refine qa7 qv17 ?_|refine qa7 (qv18 tok) ?_|refine qa7 qv19 ?_|refine qa7 (qv20 tok) ?_|refine qa7 (qv21 tok) ?_|refine qa7 (qv22 tok) ?_|refine qa1 tok ?_|refine qa2 tok ?_|refine qa3 tok ?_|refine AL.loadR tok rfl rfl rfl rfl rfl rfl ?_|refine qa4 tok ?_|refine qa5 tok ?_|refine AW.block ?_|refine AW.exit ?_|refine AW.skip ?_)
      simp only [List.length_map]
      refine AL.rem rfl rfl rfl rfl (by omega) (by omega) ?_
      rw [hcast]
      generalize (b + k) % l.length = m at *
      repeat (first|refine AL.do tok rfl rfl ?_|refine AL.nil ?_|refine AW.seq fun K hK => ?_|refine AW.region ?_|refine AL.no rfl rfl ?_|(refine hK _ ?_; clear hK)|(clear hK; refine hK _ ?_; clear hK)|(clear hK; clear hK; refine hK _ ?_; clear hK)|refine qa7 qv1 ?_|refine qa7 qv2 ?_|refine qa7 qv3 ?_|refine qa7 (qv4 tok) ?_|refine qa7 (qv5 tok) ?_|refine qa7 qv6 ?_|refine qa7 qv7 ?_|refine qa7 (qv8 tok) ?_|refine qa7 (qv9 tok) ?_|refine qa7 (qv10 tok) ?_|refine qa7 (qv11 tok) ?_|refine qa7 (qv12 tok) ?_|refine qa7 (qv13 tok) ?_|refine qa7 (qv14 tok) ?_|refine qa7 (qv15 tok) ?_|refine qa7 (qv16 tok) ?_|refine qa7 qv17 ?_|refine qa7 (qv18 tok) ?_|refine qa7 qv19 ?_|refine qa7 (qv20 tok) ?_|refine qa7 (qv21 tok) ?_|refine qa7 (qv22 tok) ?_|refine qa1 tok ?_|refine qa2 tok ?_|refine qa3 tok ?_|refine AL.loadR tok rfl rfl rfl rfl rfl rfl ?_|refine qa4 tok ?_|refine qa5 tok ?_|refine AW.block ?_|refine AW.exit ?_|refine AW.skip ?_)
      repeat' (first|refine AL.do tok rfl rfl ?_|refine AL.nil ?_|refine AW.seq fun K hK => ?_|refine AW.region ?_|refine AL.no rfl rfl ?_|(refine hK _ ?_; clear hK)|(clear hK; refine hK _ ?_; clear hK)|(clear hK; clear hK; refine hK _ ?_; clear hK)|refine qa7 qv1 ?_|refine qa7 qv2 ?_|refine qa7 qv3 ?_|refine qa7 (qv4 tok) ?_|refine qa7 (qv5 tok) ?_|refine qa7 qv6 ?_|refine qa7 qv7 ?_|refine qa7 (qv8 tok) ?_|refine qa7 (qv9 tok) ?_|refine qa7 (qv10 tok) ?_|refine qa7 (qv11 tok) ?_|refine qa7 (qv12 tok) ?_|refine qa7 (qv13 tok) ?_|refine qa7 (qv14 tok) ?_|refine qa7 (qv15 tok) ?_|refine qa7 (qv16 tok) ?_|refine qa7 qv17 ?_|refine qa7 (qv18 tok) ?_|refine qa7 qv19 ?_|refine qa7 (qv20 tok) ?_|refine qa7 (qv21 tok) ?_|refine qa7 (qv22 tok) ?_|refine qa1 tok ?_|refine qa2 tok ?_|refine qa3 tok ?_|refine AL.loadR tok rfl rfl rfl rfl rfl rfl ?_|refine qa4 tok ?_|refine qa5 tok ?_|refine AW.block ?_|refine AW.exit ?_|refine AW.skip ?_|refine qc1 (refReady_calls ..) ?_|refine qc2 (refReady_calls ..) ?_|((fail_if_success (refine AL.guard (b := true) rfl rfl ?_ ?_)); (fail_if_success (refine AL.guard (b := false) rfl rfl ?_ ?_)); refine AL.guard rfl rfl (fun hg => ?_) (fun hg => ?_) <;> ((try simp only [DX] at hg) <;> (try first|(exfalso; omega)|exact absurd trivial hg|exact False.elim hg|exact absurd rfl hg)))|refine AW.condT rfl ?_|refine AW.condF rfl ?_|(refine AW.cond rfl (fun hg => ?_) (fun hg => ?_) <;> ((try simp only [DX] at hg) <;> (try first|(exfalso; omega)|exact absurd trivial hg|exact False.elim hg|exact absurd rfl hg)))|refine AW.ret ?_)
      all_goals (have hmay : mayB queue l[m] = (decide (l[m].queue = queue) && (decide (l[m].prefetch = 0) || decide (l[m].unacked < l[m].prefetch))) := rfl)
      · have h1 : mayB queue l[m] = true := by rw [hmay]; simp [*]
        simp only [h1, if_true] at hf
        refine ⟨_, _, _, _, rfl, Out.pure rfl ⟨?_, rfl⟩ rfl⟩
        rw [← hf]
        simp [nextAV]
        intro h; omega
      all_goals
        have h1 : mayB queue l[m] = false := by
          rw [hmay]
          first
            | (simp [*]; done)
            | (rw [Bool.eq_false_iff]; simp [*]; omega)
        simp only [h1] at hf
        refine hK1 _ (k + 1) (And.intro (by omega) hf) (by omega) ?_
        (refine Imp.weak id (fun _ _ _ _ h => h) (by first|assumption|(intro b hb; cases hb)) ?_ ?_ <;> (repeat' (first|exact trivial|exact Nat.lt_of_lt_of_le (Nat.lt_succ_self _) (Nat.le_of_ble_eq_true rfl)|exact rfl|exact Or.inl ⟨rfl, rfl⟩|exact Or.inr ⟨rfl, LF.fn _ _ ‹_›⟩|refine ⟨?_, ?_⟩)))
    · repeat (first|refine AL.do tok rfl rfl ?_|refine AL.nil ?_|refine AW.seq fun K hK => ?_|refine AW.region ?_|refine AL.no rfl rfl ?_|(refine hK _ ?_; clear hK)|(clear hK; refine hK _ ?_; clear hK)|(clear hK; clear hK; refine hK _ ?_; clear hK)|refine qa7 qv1 ?_|refine qa7 qv2 ?_|refine qa7 qv3 ?_|refine qa7 (qv4 tok) ?_|refine qa7 (qv5 tok) ?_|refine qa7 qv6 ?_|refine qa7 qv7 ?_|refine qa7 (qv8 tok) ?_|refine qa7 (qv9 tok) ?_|refine qa7 (qv10 tok) ?_|refine qa7 (qv11 tok) ?_|refine qa7 (qv12 tok) ?_|refine qa7 (qv13 tok) ?_|refine qa7 (qv14 tok) ?_|refine qa7 (qv15 tok) ?_|refine qa7 (qv16 tok) ?_|refine qa7 qv17 ?_|refine qa7 (qv18 tok) ?_|refine qa7 qv19 ?_|refine qa7 (qv20 tok) ?_|refine qa7 (qv21 tok) ?_|refine qa7 (qv22 tok) ?_|refine qa1 tok ?_|refine qa2 tok ?_|refine qa3 tok ?_|refine AL.loadR tok rfl rfl rfl rfl rfl rfl ?_|refine qa4 tok ?_|refine qa5 tok ?_|refine AW.block ?_|refine AW.exit ?_|refine AW.skip ?_)
      refine AW.cond rfl (fun hg => by simp at hg; omega) (fun hg => ?_)
      repeat (first|refine AL.do tok rfl rfl ?_|refine AL.nil ?_|refine AW.seq fun K hK => ?_|refine AW.region ?_|refine AL.no rfl rfl ?_|(refine hK _ ?_; clear hK)|(clear hK; refine hK _ ?_; clear hK)|(clear hK; clear hK; refine hK _ ?_; clear hK)|refine qa7 qv1 ?_|refine qa7 qv2 ?_|refine qa7 qv3 ?_|refine qa7 (qv4 tok) ?_|refine qa7 (qv5 tok) ?_|refine qa7 qv6 ?_|refine qa7 qv7 ?_|refine qa7 (qv8 tok) ?_|refine qa7 (qv9 tok) ?_|refine qa7 (qv10 tok) ?_|refine qa7 (qv11 tok) ?_|refine qa7 (qv12 tok) ?_|refine qa7 (qv13 tok) ?_|refine qa7 (qv14 tok) ?_|refine qa7 (qv15 tok) ?_|refine qa7 (qv16 tok) ?_|refine qa7 qv17 ?_|refine qa7 (qv18 tok) ?_|refine qa7 qv19 ?_|refine qa7 (qv20 tok) ?_|refine qa7 (qv21 tok) ?_|refine qa7 (qv22 tok) ?_|refine qa1 tok ?_|refine qa2 tok ?_|refine qa3 tok ?_|refine AL.loadR tok rfl rfl rfl rfl rfl rfl ?_|refine qa4 tok ?_|refine qa5 tok ?_|refine AW.block ?_|refine AW.exit ?_|refine AW.skip ?_)
      refine AW.ret ?_
      refine ⟨_, _, _, _, rfl, Out.pure rfl ⟨?_, rfl⟩ rfl⟩
      rw [← hf, Nat.sub_eq_zero_of_le (by omega)]
      rfl))
  clear hK
  refine AW.loop (ι := Nat) (fun i => ⟨54, [(15, i64 i), (14, i64 l.length), (13, rowC l), (8, i64 0), (7, bo false), (6, i64 0), (0, rowC l), (1, st queue), (2, i64 last)], [], [], 0⟩)
    (fun i => i ≤ l.length ∧ firstS (fun c => decide (c.tag = last)) (l.drop i) i = firstS (fun c => decide (c.tag = last)) l 0) (fun i => l.length - i) 0 (And.intro (Nat.zero_le _) rfl) ?_ ?_
  · (refine Imp.weak id (fun _ _ _ _ h => h) (by first|assumption|(intro b hb; cases hb)) ?_ ?_ <;> (repeat' (first|exact trivial|exact Nat.lt_of_lt_of_le (Nat.lt_succ_self _) (Nat.le_of_ble_eq_true rfl)|exact rfl|exact Or.inl ⟨rfl, rfl⟩|exact Or.inr ⟨rfl, LF.fn _ _ ‹_›⟩|refine ⟨?_, ?_⟩)))
  rintro i ⟨hi, hf⟩ K1 hK1
  by_cases hlt : i < l.length
  · rw [beginS_lt hlt] at hf
    repeat (first|refine AL.do tok rfl rfl ?_|refine AL.nil ?_|refine AW.seq fun K hK => ?_|refine AW.region ?_|refine AL.no rfl rfl ?_|(refine hK _ ?_; clear hK)|(clear hK; refine hK _ ?_; clear hK)|(clear hK; clear hK; refine hK _ ?_; clear hK)|refine qa7 qv1 ?_|refine qa7 qv2 ?_|refine qa7 qv3 ?_|refine qa7 (qv4 tok) ?_|refine qa7 (qv5 tok) ?_|refine qa7 qv6 ?_|refine qa7 qv7 ?_|refine qa7 (qv8 tok) ?_|refine qa7 (qv9 tok) ?_|refine qa7 (qv10 tok) ?_|refine qa7 (qv11 tok) ?_|refine qa7 (qv12 tok) ?_|refine qa7 (qv13 tok) ?_|refine qa7 (qv14 tok) ?_|refine qa7 (qv15 tok) ?_|refine qa7 (qv16 tok) ?_|refine qa7 qv17 ?_|refine qa7 (qv18 tok) ?_|refine qa7 qv19 ?_|refine qa7 (qv20 tok) ?_|refine qa7 (qv21 tok) ?_|refine qa7 (qv22 tok) ?_|refine qa1 tok ?_|refine qa2 tok ?_|refine qa3 tok ?_|refine AL.loadR tok rfl rfl rfl rfl rfl rfl ?_|refine qa4 tok ?_|refine qa5 tok ?_|refine AW.block ?_|refine AW.exit ?_|refine AW.skip ?_)
    refine AW.cond rfl (fun hg => ?_) (fun hg => by simp at hg; omega)
    repeat (first|refine AL.do tok rfl rfl ?_|refine AL.nil ?_|refine AW.seq fun K hK => ?_|refine AW.region ?_|refine AL.no rfl rfl ?_|(refine hK _ ?_; clear hK)|(clear hK; refine hK _ ?_; clear hK)|(clear hK; clear hK; refine hK _ ?_; clear hK)|refine qa7 qv1 ?_|refine qa7 qv2 ?_|refine qa7 qv3 ?_|refine qa7 (qv4 tok) ?_|refine qa7 (qv5 tok) ?_|refine qa7 qv6 ?_|refine qa7 qv7 ?_|refine qa7 (qv8 tok) ?_|refine qa7 (qv9 tok) ?_|refine qa7 (qv10 tok) ?_|refine qa7 (qv11 tok) ?_|refine qa7 (qv12 tok) ?_|refine qa7 (qv13 tok) ?_|refine qa7 (qv14 tok) ?_|refine qa7 (qv15 tok) ?_|refine qa7 (qv16 tok) ?_|refine qa7 qv17 ?_|refine qa7 (qv18 tok) ?_|refine qa7 qv19 ?_|refine qa7 (qv20 tok) ?_|refine qa7 (qv21 tok) ?_|refine qa7 (qv22 tok) ?_|refine qa1 tok ?_|refine qa2 tok ?_|refine qa3 tok ?_|refine AL.loadR tok rfl rfl rfl rfl rfl rfl ?_|refine qa4 tok ?_|refine qa5 tok ?_|refine AW.block ?_|refine AW.exit ?_|refine AW.skip ?_)
    repeat' (first|refine AL.do tok rfl rfl ?_|refine AL.nil ?_|refine AW.seq fun K hK => ?_|refine AW.region ?_|refine AL.no rfl rfl ?_|(refine hK _ ?_; clear hK)|(clear hK; refine hK _ ?_; clear hK)|(clear hK; clear hK; refine hK _ ?_; clear hK)|refine qa7 qv1 ?_|refine qa7 qv2 ?_|refine qa7 qv3 ?_|refine qa7 (qv4 tok) ?_|refine qa7 (qv5 tok) ?_|refine qa7 qv6 ?_|refine qa7 qv7 ?_|refine qa7 (qv8 tok) ?_|refine qa7 (qv9 tok) ?_|refine qa7 (qv10 tok) ?_|refine qa7 (qv11 tok) ?_|refine qa7 (qv12 tok) ?_|refine qa7 (qv13 tok) ?_|refine qa7 (qv14 tok) ?_|refine qa7 (qv15 tok) ?_|refine qa7 (qv16 tok) ?_|refine qa7 qv17 ?_|refine qa7 (qv18 tok) ?_|refine qa7 qv19 ?_|refine qa7 (qv20 tok) ?_|refine qa7 (qv21 tok) ?_|refine qa7 (qv22 tok) ?_|refine qa1 tok ?_|refine qa2 tok ?_|refine qa3 tok ?_|refine AL.loadR tok rfl rfl rfl rfl rfl rfl ?_|refine qa4 tok ?_|refine qa5 tok ?_|refine AW.block ?_|refine AW.exit ?_|refine AW.skip ?_|((fail_if_success (refine AL.guard (b := true) rfl rfl ?_ ?_)); (fail_if_success (refine AL.guard (b := false) rfl rfl ?_ ?_)); refine AL.guard rfl rfl (fun hg => ?_) (fun hg => ?_) <;> ((try simp only [DX] at hg) <;> (try first|(exfalso; omega)|exact absurd trivial hg|exact False.elim hg|exact absurd rfl hg)))|refine AW.condT rfl ?_|refine AW.condF rfl ?_|(refine AW.cond rfl (fun hg => ?_) (fun hg => ?_) <;> ((try simp only [DX] at hg) <;> (try first|(exfalso; omega)|exact absurd trivial hg|exact False.elim hg|exact absurd rfl hg)))|refine AW.ret ?_)
    · refine H _ ?_
      have hb : beginS l last = i + 1 := by unfold beginS; rw [← hf, if_pos hg]; omega
      rw [hb]
      (refine Imp.weak id (fun _ _ _ _ h => h) (by first|assumption|(intro b hb; cases hb)) ?_ ?_ <;> (repeat' (first|exact trivial|exact Nat.lt_of_lt_of_le (Nat.lt_succ_self _) (Nat.le_of_ble_eq_true rfl)|exact rfl|exact Or.inl ⟨rfl, rfl⟩|exact Or.inr ⟨rfl, LF.fn _ _ ‹_›⟩|refine ⟨?_, ?_⟩)))
    · rw [if_neg hg] at hf
      refine hK1 _ (i + 1) (And.intro (by omega) hf) (by omega) ?_
      (refine Imp.weak id (fun _ _ _ _ h => h) (by first|assumption|(intro b hb; cases hb)) ?_ ?_ <;> (repeat' (first|exact trivial|exact Nat.lt_of_lt_of_le (Nat.lt_succ_self _) (Nat.le_of_ble_eq_true rfl)|exact rfl|exact Or.inl ⟨rfl, rfl⟩|exact Or.inr ⟨rfl, LF.fn _ _ ‹_›⟩|refine ⟨?_, ?_⟩)))
  · repeat (first|refine AL.do tok rfl rfl ?_|refine AL.nil ?_|refine AW.seq fun K hK => ?_|refine AW.region ?_|refine AL.no rfl rfl ?_|(refine hK _ ?_; clear hK)|(clear hK; refine hK _ ?_; clear hK)|(clear hK; clear hK; refine hK _ ?_; clear hK)|refine qa7 qv1 ?_|refine qa7 qv2 ?_|refine qa7 qv3 ?_|refine qa7 (qv4 tok) ?_|refine qa7 (qv5 tok) ?_|refine qa7 qv6 ?_|refine qa7 qv7 ?_|refine qa7 (qv8 tok) ?_|refine qa7 (qv9 tok) ?_|refine qa7 (qv10 tok) ?_|refine qa7 (qv11 tok) ?_|refine qa7 (qv12 tok) ?_|refine qa7 (qv13 tok) ?_|refine qa7 (qv14 tok) ?_|refine qa7 (qv15 tok) ?_|refine qa7 (qv16 tok) ?_|refine qa7 qv17 ?_|refine qa7 (qv18 tok) ?_|refine qa7 qv19 ?_|refine qa7 (qv20 tok) ?_|refine qa7 (qv21 tok) ?_|refine qa7 (qv22 tok) ?_|refine qa1 tok ?_|refine qa2 tok ?_|refine qa3 tok ?_|refine AL.loadR tok rfl rfl rfl rfl rfl rfl ?_|refine qa4 tok ?_|refine qa5 tok ?_|refine AW.block ?_|refine AW.exit ?_|refine AW.skip ?_)
    refine AW.cond rfl (fun hg => by simp at hg; omega) (fun hg => ?_)
    repeat (first|refine AL.do tok rfl rfl ?_|refine AL.nil ?_|refine AW.seq fun K hK => ?_|refine AW.region ?_|refine AL.no rfl rfl ?_|(refine hK _ ?_; clear hK)|(clear hK; refine hK _ ?_; clear hK)|(clear hK; clear hK; refine hK _ ?_; clear hK)|refine qa7 qv1 ?_|refine qa7 qv2 ?_|refine qa7 qv3 ?_|refine qa7 (qv4 tok) ?_|refine qa7 (qv5 tok) ?_|refine qa7 qv6 ?_|refine qa7 qv7 ?_|refine qa7 (qv8 tok) ?_|refine qa7 (qv9 tok) ?_|refine qa7 (qv10 tok) ?_|refine qa7 (qv11 tok) ?_|refine qa7 (qv12 tok) ?_|refine qa7 (qv13 tok) ?_|refine qa7 (qv14 tok) ?_|refine qa7 (qv15 tok) ?_|refine qa7 (qv16 tok) ?_|refine qa7 qv17 ?_|refine qa7 (qv18 tok) ?_|refine qa7 qv19 ?_|refine qa7 (qv20 tok) ?_|refine qa7 (qv21 tok) ?_|refine qa7 (qv22 tok) ?_|refine qa1 tok ?_|refine qa2 tok ?_|refine qa3 tok ?_|refine AL.loadR tok rfl rfl rfl rfl rfl rfl ?_|refine qa4 tok ?_|refine qa5 tok ?_|refine AW.block ?_|refine AW.exit ?_|refine AW.skip ?_)
    refine H _ ?_
    have hb : beginS l last = 0 := by unfold beginS; rw [← hf, List.drop_eq_nil_of_le (by omega)]; rfl
    rw [hb]
    (refine Imp.weak id (fun _ _ _ _ h => h) (by first|assumption|(intro b hb; cases hb)) ?_ ?_ <;> (repeat' (first|exact trivial|exact Nat.lt_of_lt_of_le (Nat.lt_succ_self _) (Nat.le_of_ble_eq_true rfl)|exact rfl|exact Or.inl ⟨rfl, rfl⟩|exact Or.inr ⟨rfl, LF.fn _ _ ‹_›⟩|refine ⟨?_, ?_⟩)))
end Go.Proofs.Try
