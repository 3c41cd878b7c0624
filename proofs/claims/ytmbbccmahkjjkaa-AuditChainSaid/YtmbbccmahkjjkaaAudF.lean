/- audit: the reference's counts; bounds; the chapter's example; what arguments are. -/
import Derived.Test.YtmbbccmahkjjkaaAudE
import Derived.Test.YtmbbccmahkjjkaaAM61
set_option linter.unusedSimpArgs false
set_option linter.unusedVariables false
namespace Go.Proofs.Try
open Go Go.AM

set_option maxHeartbeats 16000000 in
set_option maxRecDepth 10000 in
theorem refRefused_calls (l : List Ae) (who : ByteArray) (hl : l.length ≤ 1000000) : ACallP Try.prog 21 [rowA l, st who] (agg5 (cntS who l)) := by
  have hlm : (l.map encA).length = l.length := List.length_map ..
  refine ACalls.body tok Try.func21 rfl (by kernel_rfl) (by rw [Try.ntmps21]; simp) ?_
  simp only [Try.ntmps21, Try.results21, argT]
  repeat (first|refine AL.do tok rfl rfl ?_|refine AL.nil ?_|refine AW.seq fun K hK => ?_|refine AW.region ?_|refine AL.no rfl rfl ?_|(refine hK _ ?_; clear hK)|(clear hK; refine hK _ ?_; clear hK)|(clear hK; clear hK; refine hK _ ?_; clear hK)|refine qa7 qv1 ?_|refine qa7 qv2 ?_|refine qa7 qv3 ?_|refine qa7 (qv4 tok) ?_|refine qa7 (qv5 tok) ?_|refine qa7 qv6 ?_|refine qa7 qv7 ?_|refine qa7 (qv8 tok) ?_|refine qa7 (qv9 tok) ?_|refine qa7 (qv10 tok) ?_|refine qa7 (qv11 tok) ?_|refine qa7 (qv12 tok) ?_|refine qa7 (qv13 tok) ?_|refine qa7 (qv14 tok) ?_|refine qa7 (qv15 tok) ?_|refine qa7 (qv16 tok) ?_|refine qa7 qv17 ?_|refine qa7 (qv18 tok) ?_|refine qa7 qv19 ?_|refine qa7 (qv20 tok) ?_|refine qa7 (qv21 tok) ?_|refine qa7 (qv22 tok) ?_|refine qa7 (qv23 tok) ?_|refine qa7 (qv24 tok) ?_|refine qa7 qv26 ?_|refine qa7 qv27 ?_|refine qa7 (qv28 tok) ?_|refine qa7 (qv30 tok) ?_|refine qa7 (qv31 tok) ?_|refine qa7 (qv32 tok) ?_|refine qa1 tok ?_|refine qa2 tok ?_|refine qa3 tok ?_|refine AL.loadR tok rfl rfl rfl rfl rfl rfl ?_|refine qa4 tok ?_|refine qa5 tok ?_|refine AW.block ?_|refine AW.exit ?_|refine AW.skip ?_)
  refine AW.loop (ι := Nat × C5) (fun x => ⟨49, [(6, i64 x.1), (5, .ptr (.loc 1) 0), (4, .ptr (.loc 0) 0), (0, rowA l), (1, st who)], [(0, some (.box 37 [i64 0, i64 0, i64 0, i64 0, i64 0])), (1, some (.box 37 [i64 x.2.c0, i64 x.2.c1, i64 x.2.c2, i64 x.2.c3, i64 x.2.c4]))], [], 2⟩)
    (fun x => x.1 ≤ l.length ∧ x.2 = cntS who (l.take x.1)) (fun x => l.length - x.1) (0, C5.zero) ⟨Nat.zero_le _, rfl⟩ ?_ ?_
  · (refine Imp.weak id (fun _ _ _ _ h => h) (by first|assumption|(intro b hb; cases hb)) ?_ ?_ <;> (repeat' (first|exact trivial|exact Nat.lt_of_lt_of_le (Nat.lt_succ_self _) (Nat.le_of_ble_eq_true rfl)|exact rfl|exact Or.inl ⟨rfl, rfl⟩|exact Or.inr ⟨rfl, LF.fn _ _ ‹_›⟩|refine ⟨?_, ?_⟩)))
  rintro ⟨i, c⟩ ⟨hi, hf⟩ K1 hK1
  simp only at hi hf
  by_cases hlt : i < l.length
  · have hb := cntS_in who l i hi
    rw [← hf] at hb
    unfold In5 at hb
    have hnx := cntS_succ who hlt
    rw [← hf] at hnx
    clear hf
    obtain ⟨c0, c1, c2, c3, c4⟩ := c
    simp only at hb
    repeat (first|refine AL.do tok rfl rfl ?_|refine AL.nil ?_|refine AW.seq fun K hK => ?_|refine AW.region ?_|refine AL.no rfl rfl ?_|(refine hK _ ?_; clear hK)|(clear hK; refine hK _ ?_; clear hK)|(clear hK; clear hK; refine hK _ ?_; clear hK)|refine qa7 qv1 ?_|refine qa7 qv2 ?_|refine qa7 qv3 ?_|refine qa7 (qv4 tok) ?_|refine qa7 (qv5 tok) ?_|refine qa7 qv6 ?_|refine qa7 qv7 ?_|refine qa7 (qv8 tok) ?_|refine qa7 (qv9 tok) ?_|refine qa7 (qv10 tok) ?_|refine qa7 (qv11 tok) ?_|refine qa7 (qv12 tok) ?_|refine qa7 (qv13 tok) ?_|refine qa7 (qv14 tok) ?_|refine qa7 (qv15 tok) ?_|refine qa7 (qv16 tok) ?_|refine qa7 qv17 ?_|refine qa7 (qv18 tok) ?_|refine qa7 qv19 ?_|refine qa7 (qv20 tok) ?_|refine qa7 (qv21 tok) ?_|refine qa7 (qv22 tok) ?_|refine qa7 (qv23 tok) ?_|refine qa7 (qv24 tok) ?_|refine qa7 qv26 ?_|refine qa7 qv27 ?_|refine qa7 (qv28 tok) ?_|refine qa7 (qv30 tok) ?_|refine qa7 (qv31 tok) ?_|refine qa7 (qv32 tok) ?_|refine qa1 tok ?_|refine qa2 tok ?_|refine qa3 tok ?_|refine AL.loadR tok rfl rfl rfl rfl rfl rfl ?_|refine qa4 tok ?_|refine qa5 tok ?_|refine AW.block ?_|refine AW.exit ?_|refine AW.skip ?_)
    simp only [hlm]
    repeat (first|refine AL.do tok rfl rfl ?_|refine AL.nil ?_|refine AW.seq fun K hK => ?_|refine AW.region ?_|refine AL.no rfl rfl ?_|(refine hK _ ?_; clear hK)|(clear hK; refine hK _ ?_; clear hK)|(clear hK; clear hK; refine hK _ ?_; clear hK)|refine qa7 qv1 ?_|refine qa7 qv2 ?_|refine qa7 qv3 ?_|refine qa7 (qv4 tok) ?_|refine qa7 (qv5 tok) ?_|refine qa7 qv6 ?_|refine qa7 qv7 ?_|refine qa7 (qv8 tok) ?_|refine qa7 (qv9 tok) ?_|refine qa7 (qv10 tok) ?_|refine qa7 (qv11 tok) ?_|refine qa7 (qv12 tok) ?_|refine qa7 (qv13 tok) ?_|refine qa7 (qv14 tok) ?_|refine qa7 (qv15 tok) ?_|refine qa7 (qv16 tok) ?_|refine qa7 qv17 ?_|refine qa7 (qv18 tok) ?_|refine qa7 qv19 ?_|refine qa7 (qv20 tok) ?_|refine qa7 (qv21 tok) ?_|refine qa7 (qv22 tok) ?_|refine qa7 (qv23 tok) ?_|refine qa7 (qv24 tok) ?_|refine qa7 qv26 ?_|refine qa7 qv27 ?_|refine qa7 (qv28 tok) ?_|refine qa7 (qv30 tok) ?_|refine qa7 (qv31 tok) ?_|refine qa7 (qv32 tok) ?_|refine qa1 tok ?_|refine qa2 tok ?_|refine qa3 tok ?_|refine AL.loadR tok rfl rfl rfl rfl rfl rfl ?_|refine qa4 tok ?_|refine qa5 tok ?_|refine AW.block ?_|refine AW.exit ?_|refine AW.skip ?_)
    refine AW.cond rfl (fun hg => ?_) (fun hg => by simp at hg; omega)
    clear hg
    repeat' (first|refine AL.do tok rfl rfl ?_|refine AL.nil ?_|refine AW.seq fun K hK => ?_|refine AW.region ?_|refine AL.no rfl rfl ?_|(refine hK _ ?_; clear hK)|(clear hK; refine hK _ ?_; clear hK)|(clear hK; clear hK; refine hK _ ?_; clear hK)|refine qa7 qv1 ?_|refine qa7 qv2 ?_|refine qa7 qv3 ?_|refine qa7 (qv4 tok) ?_|refine qa7 (qv5 tok) ?_|refine qa7 qv6 ?_|refine qa7 qv7 ?_|refine qa7 (qv8 tok) ?_|refine qa7 (qv9 tok) ?_|refine qa7 (qv10 tok) ?_|refine qa7 (qv11 tok) ?_|refine qa7 (qv12 tok) ?_|refine qa7 (qv13 tok) ?_|refine qa7 (qv14 tok) ?_|refine qa7 (qv15 tok) ?_|refine qa7 (qv16 tok) ?_|refine qa7 qv17 ?_|refine qa7 (qv18 tok) ?_|refine qa7 qv19 ?_|refine qa7 (qv20 tok) ?_|refine qa7 (qv21 tok) ?_|refine qa7 (qv22 tok) ?_|refine qa7 (qv23 tok) ?_|refine qa7 (qv24 tok) ?_|refine qa7 qv26 ?_|refine qa7 qv27 ?_|refine qa7 (qv28 tok) ?_|refine qa7 (qv30 tok) ?_|refine qa7 (qv31 tok) ?_|refine qa7 (qv32 tok) ?_|refine qa1 tok ?_|refine qa2 tok ?_|refine qa3 tok ?_|refine AL.loadR tok rfl rfl rfl rfl rfl rfl ?_|refine qa4 tok ?_|refine qa5 tok ?_|refine AW.block ?_|refine AW.exit ?_|refine AW.skip ?_|((fail_if_success (refine AL.guard (b := true) rfl rfl ?_ ?_)); (fail_if_success (refine AL.guard (b := false) rfl rfl ?_ ?_)); refine AL.guard rfl rfl (fun hg => ?_) (fun hg => ?_) <;> ((try simp only [DX] at hg) <;> (try first|(exfalso; omega)|exact absurd trivial hg|exact False.elim hg|exact absurd rfl hg)))|refine AW.condT rfl ?_|refine AW.condF rfl ?_|(refine AW.cond rfl (fun hg => ?_) (fun hg => ?_) <;> ((try simp only [DX] at hg) <;> (try first|(exfalso; omega)|exact absurd trivial hg|exact False.elim hg|exact absurd rfl hg))))
    all_goals (try (try simp only [DX] at *))
    all_goals first
      | (refine hK1 _ (i + 1, ⟨c0, c1, c2, c3, c4⟩) ⟨by simp only; omega, by
           have : ¬ (l[i].who = who ∧ refd l[i] = true) := by
             rintro ⟨h1, h2⟩
             simp [refd] at h2
             first
               | (exact absurd h1 (by assumption))
               | omega
           rw [hnx, if_neg this]⟩ (by simp only; omega) ?_
         (refine Imp.weak id (fun _ _ _ _ h => h) (by first|assumption|(intro b hb; cases hb)) ?_ ?_ <;> (repeat' (first|exact trivial|exact Nat.lt_of_lt_of_le (Nat.lt_succ_self _) (Nat.le_of_ble_eq_true rfl)|exact rfl|exact Or.inl ⟨rfl, rfl⟩|exact Or.inr ⟨rfl, LF.fn _ _ ‹_›⟩|refine ⟨?_, ?_⟩)))
         done)
      | skip
    all_goals
      have hr : l[i].who = who ∧ refd l[i] = true := ⟨by assumption, by simp [refd]; omega⟩
      rw [if_pos hr] at hnx
      have h4 : l[i].action = 1 ∨ l[i].action = 2 ∨ l[i].action = 3 ∨ l[i].action = 4 := by omega
      rcases h4 with ha | ha | ha | ha
      · simp only [ha]
        repeat (first|refine AL.do tok rfl rfl ?_|refine AL.nil ?_|refine AW.seq fun K hK => ?_|refine AW.region ?_|refine AL.no rfl rfl ?_|(refine hK _ ?_; clear hK)|(clear hK; refine hK _ ?_; clear hK)|(clear hK; clear hK; refine hK _ ?_; clear hK)|refine qa7 qv1 ?_|refine qa7 qv2 ?_|refine qa7 qv3 ?_|refine qa7 (qv4 tok) ?_|refine qa7 (qv5 tok) ?_|refine qa7 qv6 ?_|refine qa7 qv7 ?_|refine qa7 (qv8 tok) ?_|refine qa7 (qv9 tok) ?_|refine qa7 (qv10 tok) ?_|refine qa7 (qv11 tok) ?_|refine qa7 (qv12 tok) ?_|refine qa7 (qv13 tok) ?_|refine qa7 (qv14 tok) ?_|refine qa7 (qv15 tok) ?_|refine qa7 (qv16 tok) ?_|refine qa7 qv17 ?_|refine qa7 (qv18 tok) ?_|refine qa7 qv19 ?_|refine qa7 (qv20 tok) ?_|refine qa7 (qv21 tok) ?_|refine qa7 (qv22 tok) ?_|refine qa7 (qv23 tok) ?_|refine qa7 (qv24 tok) ?_|refine qa7 qv26 ?_|refine qa7 qv27 ?_|refine qa7 (qv28 tok) ?_|refine qa7 (qv30 tok) ?_|refine qa7 (qv31 tok) ?_|refine qa7 (qv32 tok) ?_|refine qa1 tok ?_|refine qa2 tok ?_|refine qa3 tok ?_|refine AL.loadR tok rfl rfl rfl rfl rfl rfl ?_|refine qa4 tok ?_|refine qa5 tok ?_|refine AW.block ?_|refine AW.exit ?_|refine AW.skip ?_)
        refine hK1 _ (i + 1, ⟨c0, c1 + 1, c2, c3, c4⟩) ⟨by simp only; omega, by rw [hnx]; simp [incC, ha]⟩ (by simp only; omega) ?_
        (refine Imp.weak id (fun _ _ _ _ h => h) (by first|assumption|(intro b hb; cases hb)) ?_ ?_ <;> (repeat' (first|exact trivial|exact Nat.lt_of_lt_of_le (Nat.lt_succ_self _) (Nat.le_of_ble_eq_true rfl)|exact rfl|exact Or.inl ⟨rfl, rfl⟩|exact Or.inr ⟨rfl, LF.fn _ _ ‹_›⟩|refine ⟨?_, ?_⟩)))
      · simp only [ha]
        repeat (first|refine AL.do tok rfl rfl ?_|refine AL.nil ?_|refine AW.seq fun K hK => ?_|refine AW.region ?_|refine AL.no rfl rfl ?_|(refine hK _ ?_; clear hK)|(clear hK; refine hK _ ?_; clear hK)|(clear hK; clear hK; refine hK _ ?_; clear hK)|refine qa7 qv1 ?_|refine qa7 qv2 ?_|refine qa7 qv3 ?_|refine qa7 (qv4 tok) ?_|refine qa7 (qv5 tok) ?_|refine qa7 qv6 ?_|refine qa7 qv7 ?_|refine qa7 (qv8 tok) ?_|refine qa7 (qv9 tok) ?_|refine qa7 (qv10 tok) ?_|refine qa7 (qv11 tok) ?_|refine qa7 (qv12 tok) ?_|refine qa7 (qv13 tok) ?_|refine qa7 (qv14 tok) ?_|refine qa7 (qv15 tok) ?_|refine qa7 (qv16 tok) ?_|refine qa7 qv17 ?_|refine qa7 (qv18 tok) ?_|refine qa7 qv19 ?_|refine qa7 (qv20 tok) ?_|refine qa7 (qv21 tok) ?_|refine qa7 (qv22 tok) ?_|refine qa7 (qv23 tok) ?_|refine qa7 (qv24 tok) ?_|refine qa7 qv26 ?_|refine qa7 qv27 ?_|refine qa7 (qv28 tok) ?_|refine qa7 (qv30 tok) ?_|refine qa7 (qv31 tok) ?_|refine qa7 (qv32 tok) ?_|refine qa1 tok ?_|refine qa2 tok ?_|refine qa3 tok ?_|refine AL.loadR tok rfl rfl rfl rfl rfl rfl ?_|refine qa4 tok ?_|refine qa5 tok ?_|refine AW.block ?_|refine AW.exit ?_|refine AW.skip ?_)
        refine hK1 _ (i + 1, ⟨c0, c1, c2 + 1, c3, c4⟩) ⟨by simp only; omega, by rw [hnx]; simp [incC, ha]⟩ (by simp only; omega) ?_
        (refine Imp.weak id (fun _ _ _ _ h => h) (by first|assumption|(intro b hb; cases hb)) ?_ ?_ <;> (repeat' (first|exact trivial|exact Nat.lt_of_lt_of_le (Nat.lt_succ_self _) (Nat.le_of_ble_eq_true rfl)|exact rfl|exact Or.inl ⟨rfl, rfl⟩|exact Or.inr ⟨rfl, LF.fn _ _ ‹_›⟩|refine ⟨?_, ?_⟩)))
      · simp only [ha]
        repeat (first|refine AL.do tok rfl rfl ?_|refine AL.nil ?_|refine AW.seq fun K hK => ?_|refine AW.region ?_|refine AL.no rfl rfl ?_|(refine hK _ ?_; clear hK)|(clear hK; refine hK _ ?_; clear hK)|(clear hK; clear hK; refine hK _ ?_; clear hK)|refine qa7 qv1 ?_|refine qa7 qv2 ?_|refine qa7 qv3 ?_|refine qa7 (qv4 tok) ?_|refine qa7 (qv5 tok) ?_|refine qa7 qv6 ?_|refine qa7 qv7 ?_|refine qa7 (qv8 tok) ?_|refine qa7 (qv9 tok) ?_|refine qa7 (qv10 tok) ?_|refine qa7 (qv11 tok) ?_|refine qa7 (qv12 tok) ?_|refine qa7 (qv13 tok) ?_|refine qa7 (qv14 tok) ?_|refine qa7 (qv15 tok) ?_|refine qa7 (qv16 tok) ?_|refine qa7 qv17 ?_|refine qa7 (qv18 tok) ?_|refine qa7 qv19 ?_|refine qa7 (qv20 tok) ?_|refine qa7 (qv21 tok) ?_|refine qa7 (qv22 tok) ?_|refine qa7 (qv23 tok) ?_|refine qa7 (qv24 tok) ?_|refine qa7 qv26 ?_|refine qa7 qv27 ?_|refine qa7 (qv28 tok) ?_|refine qa7 (qv30 tok) ?_|refine qa7 (qv31 tok) ?_|refine qa7 (qv32 tok) ?_|refine qa1 tok ?_|refine qa2 tok ?_|refine qa3 tok ?_|refine AL.loadR tok rfl rfl rfl rfl rfl rfl ?_|refine qa4 tok ?_|refine qa5 tok ?_|refine AW.block ?_|refine AW.exit ?_|refine AW.skip ?_)
        refine hK1 _ (i + 1, ⟨c0, c1, c2, c3 + 1, c4⟩) ⟨by simp only; omega, by rw [hnx]; simp [incC, ha]⟩ (by simp only; omega) ?_
        (refine Imp.weak id (fun _ _ _ _ h => h) (by first|assumption|(intro b hb; cases hb)) ?_ ?_ <;> (repeat' (first|exact trivial|exact Nat.lt_of_lt_of_le (Nat.lt_succ_self _) (Nat.le_of_ble_eq_true rfl)|exact rfl|exact Or.inl ⟨rfl, rfl⟩|exact Or.inr ⟨rfl, LF.fn _ _ ‹_›⟩|refine ⟨?_, ?_⟩)))
      · simp only [ha]
        repeat (first|refine AL.do tok rfl rfl ?_|refine AL.nil ?_|refine AW.seq fun K hK => ?_|refine AW.region ?_|refine AL.no rfl rfl ?_|(refine hK _ ?_; clear hK)|(clear hK; refine hK _ ?_; clear hK)|(clear hK; clear hK; refine hK _ ?_; clear hK)|refine qa7 qv1 ?_|refine qa7 qv2 ?_|refine qa7 qv3 ?_|refine qa7 (qv4 tok) ?_|refine qa7 (qv5 tok) ?_|refine qa7 qv6 ?_|refine qa7 qv7 ?_|refine qa7 (qv8 tok) ?_|refine qa7 (qv9 tok) ?_|refine qa7 (qv10 tok) ?_|refine qa7 (qv11 tok) ?_|refine qa7 (qv12 tok) ?_|refine qa7 (qv13 tok) ?_|refine qa7 (qv14 tok) ?_|refine qa7 (qv15 tok) ?_|refine qa7 (qv16 tok) ?_|refine qa7 qv17 ?_|refine qa7 (qv18 tok) ?_|refine qa7 qv19 ?_|refine qa7 (qv20 tok) ?_|refine qa7 (qv21 tok) ?_|refine qa7 (qv22 tok) ?_|refine qa7 (qv23 tok) ?_|refine qa7 (qv24 tok) ?_|refine qa7 qv26 ?_|refine qa7 qv27 ?_|refine qa7 (qv28 tok) ?_|refine qa7 (qv30 tok) ?_|refine qa7 (qv31 tok) ?_|refine qa7 (qv32 tok) ?_|refine qa1 tok ?_|refine qa2 tok ?_|refine qa3 tok ?_|refine AL.loadR tok rfl rfl rfl rfl rfl rfl ?_|refine qa4 tok ?_|refine qa5 tok ?_|refine AW.block ?_|refine AW.exit ?_|refine AW.skip ?_)
        refine hK1 _ (i + 1, ⟨c0, c1, c2, c3, c4 + 1⟩) ⟨by simp only; omega, by rw [hnx]; simp [incC, ha]⟩ (by simp only; omega) ?_
        (refine Imp.weak id (fun _ _ _ _ h => h) (by first|assumption|(intro b hb; cases hb)) ?_ ?_ <;> (repeat' (first|exact trivial|exact Nat.lt_of_lt_of_le (Nat.lt_succ_self _) (Nat.le_of_ble_eq_true rfl)|exact rfl|exact Or.inl ⟨rfl, rfl⟩|exact Or.inr ⟨rfl, LF.fn _ _ ‹_›⟩|refine ⟨?_, ?_⟩)))
  · repeat (first|refine AL.do tok rfl rfl ?_|refine AL.nil ?_|refine AW.seq fun K hK => ?_|refine AW.region ?_|refine AL.no rfl rfl ?_|(refine hK _ ?_; clear hK)|(clear hK; refine hK _ ?_; clear hK)|(clear hK; clear hK; refine hK _ ?_; clear hK)|refine qa7 qv1 ?_|refine qa7 qv2 ?_|refine qa7 qv3 ?_|refine qa7 (qv4 tok) ?_|refine qa7 (qv5 tok) ?_|refine qa7 qv6 ?_|refine qa7 qv7 ?_|refine qa7 (qv8 tok) ?_|refine qa7 (qv9 tok) ?_|refine qa7 (qv10 tok) ?_|refine qa7 (qv11 tok) ?_|refine qa7 (qv12 tok) ?_|refine qa7 (qv13 tok) ?_|refine qa7 (qv14 tok) ?_|refine qa7 (qv15 tok) ?_|refine qa7 (qv16 tok) ?_|refine qa7 qv17 ?_|refine qa7 (qv18 tok) ?_|refine qa7 qv19 ?_|refine qa7 (qv20 tok) ?_|refine qa7 (qv21 tok) ?_|refine qa7 (qv22 tok) ?_|refine qa7 (qv23 tok) ?_|refine qa7 (qv24 tok) ?_|refine qa7 qv26 ?_|refine qa7 qv27 ?_|refine qa7 (qv28 tok) ?_|refine qa7 (qv30 tok) ?_|refine qa7 (qv31 tok) ?_|refine qa7 (qv32 tok) ?_|refine qa1 tok ?_|refine qa2 tok ?_|refine qa3 tok ?_|refine AL.loadR tok rfl rfl rfl rfl rfl rfl ?_|refine qa4 tok ?_|refine qa5 tok ?_|refine AW.block ?_|refine AW.exit ?_|refine AW.skip ?_)
    simp only [hlm]
    repeat (first|refine AL.do tok rfl rfl ?_|refine AL.nil ?_|refine AW.seq fun K hK => ?_|refine AW.region ?_|refine AL.no rfl rfl ?_|(refine hK _ ?_; clear hK)|(clear hK; refine hK _ ?_; clear hK)|(clear hK; clear hK; refine hK _ ?_; clear hK)|refine qa7 qv1 ?_|refine qa7 qv2 ?_|refine qa7 qv3 ?_|refine qa7 (qv4 tok) ?_|refine qa7 (qv5 tok) ?_|refine qa7 qv6 ?_|refine qa7 qv7 ?_|refine qa7 (qv8 tok) ?_|refine qa7 (qv9 tok) ?_|refine qa7 (qv10 tok) ?_|refine qa7 (qv11 tok) ?_|refine qa7 (qv12 tok) ?_|refine qa7 (qv13 tok) ?_|refine qa7 (qv14 tok) ?_|refine qa7 (qv15 tok) ?_|refine qa7 (qv16 tok) ?_|refine qa7 qv17 ?_|refine qa7 (qv18 tok) ?_|refine qa7 qv19 ?_|refine qa7 (qv20 tok) ?_|refine qa7 (qv21 tok) ?_|refine qa7 (qv22 tok) ?_|refine qa7 (qv23 tok) ?_|refine qa7 (qv24 tok) ?_|refine qa7 qv26 ?_|refine qa7 qv27 ?_|refine qa7 (qv28 tok) ?_|refine qa7 (qv30 tok) ?_|refine qa7 (qv31 tok) ?_|refine qa7 (qv32 tok) ?_|refine qa1 tok ?_|refine qa2 tok ?_|refine qa3 tok ?_|refine AL.loadR tok rfl rfl rfl rfl rfl rfl ?_|refine qa4 tok ?_|refine qa5 tok ?_|refine AW.block ?_|refine AW.exit ?_|refine AW.skip ?_)
    refine AW.cond rfl (fun hg => by simp at hg; omega) (fun hg => ?_)
    repeat' (first|refine AL.do tok rfl rfl ?_|refine AL.nil ?_|refine AW.seq fun K hK => ?_|refine AW.region ?_|refine AL.no rfl rfl ?_|(refine hK _ ?_; clear hK)|(clear hK; refine hK _ ?_; clear hK)|(clear hK; clear hK; refine hK _ ?_; clear hK)|refine qa7 qv1 ?_|refine qa7 qv2 ?_|refine qa7 qv3 ?_|refine qa7 (qv4 tok) ?_|refine qa7 (qv5 tok) ?_|refine qa7 qv6 ?_|refine qa7 qv7 ?_|refine qa7 (qv8 tok) ?_|refine qa7 (qv9 tok) ?_|refine qa7 (qv10 tok) ?_|refine qa7 (qv11 tok) ?_|refine qa7 (qv12 tok) ?_|refine qa7 (qv13 tok) ?_|refine qa7 (qv14 tok) ?_|refine qa7 (qv15 tok) ?_|refine qa7 (qv16 tok) ?_|refine qa7 qv17 ?_|refine qa7 (qv18 tok) ?_|refine qa7 qv19 ?_|refine qa7 (qv20 tok) ?_|refine qa7 (qv21 tok) ?_|refine qa7 (qv22 tok) ?_|refine qa7 (qv23 tok) ?_|refine qa7 (qv24 tok) ?_|refine qa7 qv26 ?_|refine qa7 qv27 ?_|refine qa7 (qv28 tok) ?_|refine qa7 (qv30 tok) ?_|refine qa7 (qv31 tok) ?_|refine qa7 (qv32 tok) ?_|refine qa1 tok ?_|refine qa2 tok ?_|refine qa3 tok ?_|refine AL.loadR tok rfl rfl rfl rfl rfl rfl ?_|refine qa4 tok ?_|refine qa5 tok ?_|refine AW.block ?_|refine AW.exit ?_|refine AW.skip ?_|((fail_if_success (refine AL.guard (b := true) rfl rfl ?_ ?_)); (fail_if_success (refine AL.guard (b := false) rfl rfl ?_ ?_)); refine AL.guard rfl rfl (fun hg => ?_) (fun hg => ?_) <;> ((try simp only [DX] at hg) <;> (try first|(exfalso; omega)|exact absurd trivial hg|exact False.elim hg|exact absurd rfl hg)))|refine AW.condT rfl ?_|refine AW.condF rfl ?_|(refine AW.cond rfl (fun hg => ?_) (fun hg => ?_) <;> ((try simp only [DX] at hg) <;> (try first|(exfalso; omega)|exact absurd trivial hg|exact False.elim hg|exact absurd rfl hg)))|refine AW.ret ?_)
    refine ⟨_, _, _, _, rfl, Out.pure rfl ⟨?_, rfl⟩ rfl⟩
    rw [List.take_of_length_le (by omega)] at hf
    rw [← hf]
def okE (e : Ae) : Bool := decide (e.who.size ≤ 5000) && decide (e.object.size ≤ 5000)
def lightS (l : List Ae) : Bool := decide (l.length ≤ 24) && l.all okE
set_option maxHeartbeats 4000000 in
set_option maxRecDepth 10000 in
theorem light_calls (l : List Ae) : ACallP Try.prog 9 [rowA l] (bo (lightS l)) := by
  have hlm : (l.map encA).length = l.length := List.length_map ..
  refine ACalls.body tok Try.func9 rfl (by kernel_rfl) (by rw [Try.ntmps9]; simp) ?_
  simp only [Try.ntmps9, Try.results9, argT]
  repeat (first|refine AL.do tok rfl rfl ?_|refine AL.nil ?_|refine AW.seq fun K hK => ?_|refine AW.region ?_|refine AL.no rfl rfl ?_|(refine hK _ ?_; clear hK)|(clear hK; refine hK _ ?_; clear hK)|(clear hK; clear hK; refine hK _ ?_; clear hK)|refine qa7 qv1 ?_|refine qa7 qv2 ?_|refine qa7 qv3 ?_|refine qa7 (qv4 tok) ?_|refine qa7 (qv5 tok) ?_|refine qa7 qv6 ?_|refine qa7 qv7 ?_|refine qa7 (qv8 tok) ?_|refine qa7 (qv9 tok) ?_|refine qa7 (qv10 tok) ?_|refine qa7 (qv11 tok) ?_|refine qa7 (qv12 tok) ?_|refine qa7 (qv13 tok) ?_|refine qa7 (qv14 tok) ?_|refine qa7 (qv15 tok) ?_|refine qa7 (qv16 tok) ?_|refine qa7 qv17 ?_|refine qa7 (qv18 tok) ?_|refine qa7 qv19 ?_|refine qa7 (qv20 tok) ?_|refine qa7 (qv21 tok) ?_|refine qa7 (qv22 tok) ?_|refine qa7 (qv23 tok) ?_|refine qa7 (qv24 tok) ?_|refine qa7 qv26 ?_|refine qa7 qv27 ?_|refine qa7 (qv28 tok) ?_|refine qa7 (qv30 tok) ?_|refine qa7 (qv31 tok) ?_|refine qa7 (qv32 tok) ?_|refine qa1 tok ?_|refine qa2 tok ?_|refine qa3 tok ?_|refine AL.loadR tok rfl rfl rfl rfl rfl rfl ?_|refine qa4 tok ?_|refine qa5 tok ?_|refine AW.block ?_|refine AW.exit ?_|refine AW.skip ?_)
  refine AW.loop (ι := Nat) (fun i => ⟨30, [(3, i64 i), (0, rowA l)], [], [], 0⟩) (fun i => i ≤ l.length ∧ i ≤ 24 ∧ (l.drop i).all okE = l.all okE) (fun i => l.length - i) 0 ⟨Nat.zero_le _, by decide, rfl⟩ ?_ ?_
  · (refine Imp.weak id (fun _ _ _ _ h => h) (by first|assumption|(intro b hb; cases hb)) ?_ ?_ <;> (repeat' (first|exact trivial|exact Nat.lt_of_lt_of_le (Nat.lt_succ_self _) (Nat.le_of_ble_eq_true rfl)|exact rfl|exact Or.inl ⟨rfl, rfl⟩|exact Or.inr ⟨rfl, LF.fn _ _ ‹_›⟩|refine ⟨?_, ?_⟩)))
  rintro i ⟨hi, h24, hf⟩ K1 hK1
  by_cases hlt : i < l.length
  · rw [List.drop_eq_getElem_cons hlt, List.all_cons] at hf
    repeat (first|refine AL.do tok rfl rfl ?_|refine AL.nil ?_|refine AW.seq fun K hK => ?_|refine AW.region ?_|refine AL.no rfl rfl ?_|(refine hK _ ?_; clear hK)|(clear hK; refine hK _ ?_; clear hK)|(clear hK; clear hK; refine hK _ ?_; clear hK)|refine qa7 qv1 ?_|refine qa7 qv2 ?_|refine qa7 qv3 ?_|refine qa7 (qv4 tok) ?_|refine qa7 (qv5 tok) ?_|refine qa7 qv6 ?_|refine qa7 qv7 ?_|refine qa7 (qv8 tok) ?_|refine qa7 (qv9 tok) ?_|refine qa7 (qv10 tok) ?_|refine qa7 (qv11 tok) ?_|refine qa7 (qv12 tok) ?_|refine qa7 (qv13 tok) ?_|refine qa7 (qv14 tok) ?_|refine qa7 (qv15 tok) ?_|refine qa7 (qv16 tok) ?_|refine qa7 qv17 ?_|refine qa7 (qv18 tok) ?_|refine qa7 qv19 ?_|refine qa7 (qv20 tok) ?_|refine qa7 (qv21 tok) ?_|refine qa7 (qv22 tok) ?_|refine qa7 (qv23 tok) ?_|refine qa7 (qv24 tok) ?_|refine qa7 qv26 ?_|refine qa7 qv27 ?_|refine qa7 (qv28 tok) ?_|refine qa7 (qv30 tok) ?_|refine qa7 (qv31 tok) ?_|refine qa7 (qv32 tok) ?_|refine qa1 tok ?_|refine qa2 tok ?_|refine qa3 tok ?_|refine AL.loadR tok rfl rfl rfl rfl rfl rfl ?_|refine qa4 tok ?_|refine qa5 tok ?_|refine AW.block ?_|refine AW.exit ?_|refine AW.skip ?_)
    simp only [hlm]
    repeat (first|refine AL.do tok rfl rfl ?_|refine AL.nil ?_|refine AW.seq fun K hK => ?_|refine AW.region ?_|refine AL.no rfl rfl ?_|(refine hK _ ?_; clear hK)|(clear hK; refine hK _ ?_; clear hK)|(clear hK; clear hK; refine hK _ ?_; clear hK)|refine qa7 qv1 ?_|refine qa7 qv2 ?_|refine qa7 qv3 ?_|refine qa7 (qv4 tok) ?_|refine qa7 (qv5 tok) ?_|refine qa7 qv6 ?_|refine qa7 qv7 ?_|refine qa7 (qv8 tok) ?_|refine qa7 (qv9 tok) ?_|refine qa7 (qv10 tok) ?_|refine qa7 (qv11 tok) ?_|refine qa7 (qv12 tok) ?_|refine qa7 (qv13 tok) ?_|refine qa7 (qv14 tok) ?_|refine qa7 (qv15 tok) ?_|refine qa7 (qv16 tok) ?_|refine qa7 qv17 ?_|refine qa7 (qv18 tok) ?_|refine qa7 qv19 ?_|refine qa7 (qv20 tok) ?_|refine qa7 (qv21 tok) ?_|refine qa7 (qv22 tok) ?_|refine qa7 (qv23 tok) ?_|refine qa7 (qv24 tok) ?_|refine qa7 qv26 ?_|refine qa7 qv27 ?_|refine qa7 (qv28 tok) ?_|refine qa7 (qv30 tok) ?_|refine qa7 (qv31 tok) ?_|refine qa7 (qv32 tok) ?_|refine qa1 tok ?_|refine qa2 tok ?_|refine qa3 tok ?_|refine AL.loadR tok rfl rfl rfl rfl rfl rfl ?_|refine qa4 tok ?_|refine qa5 tok ?_|refine AW.block ?_|refine AW.exit ?_|refine AW.skip ?_)
    refine AW.cond rfl (fun hg => ?_) (fun hg => by simp at hg; omega)
    clear hg
    repeat' (first|refine AL.do tok rfl rfl ?_|refine AL.nil ?_|refine AW.seq fun K hK => ?_|refine AW.region ?_|refine AL.no rfl rfl ?_|(refine hK _ ?_; clear hK)|(clear hK; refine hK _ ?_; clear hK)|(clear hK; clear hK; refine hK _ ?_; clear hK)|refine qa7 qv1 ?_|refine qa7 qv2 ?_|refine qa7 qv3 ?_|refine qa7 (qv4 tok) ?_|refine qa7 (qv5 tok) ?_|refine qa7 qv6 ?_|refine qa7 qv7 ?_|refine qa7 (qv8 tok) ?_|refine qa7 (qv9 tok) ?_|refine qa7 (qv10 tok) ?_|refine qa7 (qv11 tok) ?_|refine qa7 (qv12 tok) ?_|refine qa7 (qv13 tok) ?_|refine qa7 (qv14 tok) ?_|refine qa7 (qv15 tok) ?_|refine qa7 (qv16 tok) ?_|refine qa7 qv17 ?_|refine qa7 (qv18 tok) ?_|refine qa7 qv19 ?_|refine qa7 (qv20 tok) ?_|refine qa7 (qv21 tok) ?_|refine qa7 (qv22 tok) ?_|refine qa7 (qv23 tok) ?_|refine qa7 (qv24 tok) ?_|refine qa7 qv26 ?_|refine qa7 qv27 ?_|refine qa7 (qv28 tok) ?_|refine qa7 (qv30 tok) ?_|refine qa7 (qv31 tok) ?_|refine qa7 (qv32 tok) ?_|refine qa1 tok ?_|refine qa2 tok ?_|refine qa3 tok ?_|refine AL.loadR tok rfl rfl rfl rfl rfl rfl ?_|refine qa4 tok ?_|refine qa5 tok ?_|refine AW.block ?_|refine AW.exit ?_|refine AW.skip ?_|((fail_if_success (refine AL.guard (b := true) rfl rfl ?_ ?_)); (fail_if_success (refine AL.guard (b := false) rfl rfl ?_ ?_)); refine AL.guard rfl rfl (fun hg => ?_) (fun hg => ?_) <;> ((try simp only [DX] at hg) <;> (try first|(exfalso; omega)|exact absurd trivial hg|exact False.elim hg|exact absurd rfl hg)))|refine AW.condT rfl ?_|refine AW.condF rfl ?_|(refine AW.cond rfl (fun hg => ?_) (fun hg => ?_) <;> ((try simp only [DX] at hg) <;> (try first|(exfalso; omega)|exact absurd trivial hg|exact False.elim hg|exact absurd rfl hg)))|refine AW.ret ?_)
    all_goals (try (try simp only [DX] at *))
    all_goals first
      | (refine ⟨_, _, _, _, rfl, Out.pure rfl ⟨?_, rfl⟩ rfl⟩
         have h : lightS l = false := by
           unfold lightS
           first
             | (have : ¬ l.length ≤ 24 := by omega
                simp [this]; done)
             | (have : okE l[i] = false := by simp [okE]; omega
                rw [this, Bool.false_and] at hf
                rw [← hf, Bool.and_false])
         rw [h])
      | (have h : okE l[i] = true := by simp [okE]; omega
         refine hK1 _ (i + 1) ⟨by omega, by omega, by rw [← hf, h]; rfl⟩ (by omega) ?_
         (refine Imp.weak id (fun _ _ _ _ h => h) (by first|assumption|(intro b hb; cases hb)) ?_ ?_ <;> (repeat' (first|exact trivial|exact Nat.lt_of_lt_of_le (Nat.lt_succ_self _) (Nat.le_of_ble_eq_true rfl)|exact rfl|exact Or.inl ⟨rfl, rfl⟩|exact Or.inr ⟨rfl, LF.fn _ _ ‹_›⟩|refine ⟨?_, ?_⟩))))
  · rw [List.drop_eq_nil_of_le (by omega)] at hf
    have h : lightS l = true := by
      unfold lightS
      rw [← hf]
      simp
      omega
    repeat (first|refine AL.do tok rfl rfl ?_|refine AL.nil ?_|refine AW.seq fun K hK => ?_|refine AW.region ?_|refine AL.no rfl rfl ?_|(refine hK _ ?_; clear hK)|(clear hK; refine hK _ ?_; clear hK)|(clear hK; clear hK; refine hK _ ?_; clear hK)|refine qa7 qv1 ?_|refine qa7 qv2 ?_|refine qa7 qv3 ?_|refine qa7 (qv4 tok) ?_|refine qa7 (qv5 tok) ?_|refine qa7 qv6 ?_|refine qa7 qv7 ?_|refine qa7 (qv8 tok) ?_|refine qa7 (qv9 tok) ?_|refine qa7 (qv10 tok) ?_|refine qa7 (qv11 tok) ?_|refine qa7 (qv12 tok) ?_|refine qa7 (qv13 tok) ?_|refine qa7 (qv14 tok) ?_|refine qa7 (qv15 tok) ?_|refine qa7 (qv16 tok) ?_|refine qa7 qv17 ?_|refine qa7 (qv18 tok) ?_|refine qa7 qv19 ?_|refine qa7 (qv20 tok) ?_|refine qa7 (qv21 tok) ?_|refine qa7 (qv22 tok) ?_|refine qa7 (qv23 tok) ?_|refine qa7 (qv24 tok) ?_|refine qa7 qv26 ?_|refine qa7 qv27 ?_|refine qa7 (qv28 tok) ?_|refine qa7 (qv30 tok) ?_|refine qa7 (qv31 tok) ?_|refine qa7 (qv32 tok) ?_|refine qa1 tok ?_|refine qa2 tok ?_|refine qa3 tok ?_|refine AL.loadR tok rfl rfl rfl rfl rfl rfl ?_|refine qa4 tok ?_|refine qa5 tok ?_|refine AW.block ?_|refine AW.exit ?_|refine AW.skip ?_)
    simp only [hlm]
    repeat (first|refine AL.do tok rfl rfl ?_|refine AL.nil ?_|refine AW.seq fun K hK => ?_|refine AW.region ?_|refine AL.no rfl rfl ?_|(refine hK _ ?_; clear hK)|(clear hK; refine hK _ ?_; clear hK)|(clear hK; clear hK; refine hK _ ?_; clear hK)|refine qa7 qv1 ?_|refine qa7 qv2 ?_|refine qa7 qv3 ?_|refine qa7 (qv4 tok) ?_|refine qa7 (qv5 tok) ?_|refine qa7 qv6 ?_|refine qa7 qv7 ?_|refine qa7 (qv8 tok) ?_|refine qa7 (qv9 tok) ?_|refine qa7 (qv10 tok) ?_|refine qa7 (qv11 tok) ?_|refine qa7 (qv12 tok) ?_|refine qa7 (qv13 tok) ?_|refine qa7 (qv14 tok) ?_|refine qa7 (qv15 tok) ?_|refine qa7 (qv16 tok) ?_|refine qa7 qv17 ?_|refine qa7 (qv18 tok) ?_|refine qa7 qv19 ?_|refine qa7 (qv20 tok) ?_|refine qa7 (qv21 tok) ?_|refine qa7 (qv22 tok) ?_|refine qa7 (qv23 tok) ?_|refine qa7 (qv24 tok) ?_|refine qa7 qv26 ?_|refine qa7 qv27 ?_|refine qa7 (qv28 tok) ?_|refine qa7 (qv30 tok) ?_|refine qa7 (qv31 tok) ?_|refine qa7 (qv32 tok) ?_|refine qa1 tok ?_|refine qa2 tok ?_|refine qa3 tok ?_|refine AL.loadR tok rfl rfl rfl rfl rfl rfl ?_|refine qa4 tok ?_|refine qa5 tok ?_|refine AW.block ?_|refine AW.exit ?_|refine AW.skip ?_)
    refine AW.cond rfl (fun hg => by simp at hg; omega) (fun hg => ?_)
    repeat' (first|refine AL.do tok rfl rfl ?_|refine AL.nil ?_|refine AW.seq fun K hK => ?_|refine AW.region ?_|refine AL.no rfl rfl ?_|(refine hK _ ?_; clear hK)|(clear hK; refine hK _ ?_; clear hK)|(clear hK; clear hK; refine hK _ ?_; clear hK)|refine qa7 qv1 ?_|refine qa7 qv2 ?_|refine qa7 qv3 ?_|refine qa7 (qv4 tok) ?_|refine qa7 (qv5 tok) ?_|refine qa7 qv6 ?_|refine qa7 qv7 ?_|refine qa7 (qv8 tok) ?_|refine qa7 (qv9 tok) ?_|refine qa7 (qv10 tok) ?_|refine qa7 (qv11 tok) ?_|refine qa7 (qv12 tok) ?_|refine qa7 (qv13 tok) ?_|refine qa7 (qv14 tok) ?_|refine qa7 (qv15 tok) ?_|refine qa7 (qv16 tok) ?_|refine qa7 qv17 ?_|refine qa7 (qv18 tok) ?_|refine qa7 qv19 ?_|refine qa7 (qv20 tok) ?_|refine qa7 (qv21 tok) ?_|refine qa7 (qv22 tok) ?_|refine qa7 (qv23 tok) ?_|refine qa7 (qv24 tok) ?_|refine qa7 qv26 ?_|refine qa7 qv27 ?_|refine qa7 (qv28 tok) ?_|refine qa7 (qv30 tok) ?_|refine qa7 (qv31 tok) ?_|refine qa7 (qv32 tok) ?_|refine qa1 tok ?_|refine qa2 tok ?_|refine qa3 tok ?_|refine AL.loadR tok rfl rfl rfl rfl rfl rfl ?_|refine qa4 tok ?_|refine qa5 tok ?_|refine AW.block ?_|refine AW.exit ?_|refine AW.skip ?_|((fail_if_success (refine AL.guard (b := true) rfl rfl ?_ ?_)); (fail_if_success (refine AL.guard (b := false) rfl rfl ?_ ?_)); refine AL.guard rfl rfl (fun hg => ?_) (fun hg => ?_) <;> ((try simp only [DX] at hg) <;> (try first|(exfalso; omega)|exact absurd trivial hg|exact False.elim hg|exact absurd rfl hg)))|refine AW.condT rfl ?_|refine AW.condF rfl ?_|(refine AW.cond rfl (fun hg => ?_) (fun hg => ?_) <;> ((try simp only [DX] at hg) <;> (try first|(exfalso; omega)|exact absurd trivial hg|exact False.elim hg|exact absurd rfl hg)))|refine AW.ret ?_)
    all_goals (refine ⟨_, _, _, _, rfl, Out.pure rfl ⟨?_, rfl⟩ rfl⟩; rw [h])
theorem wf_i64 {n : Int} (h : (Lit.int .i64 n).wf = true) : In64 n := by
  simp only [Lit.wf, Bool.and_eq_true, decide_eq_true_eq] at h
  exact h
structure IntA (e : Ae) : Prop where
  at_ : In64 e.at_
  action : In64 e.action
  code : In64 e.code
  link : In64 e.link
theorem dt_A {ds : List D} (h : DT ts 23 ds) : ∃ e, ds = encA e ∧ IntA e := by
  obtain ⟨hl, hf⟩ := DT.strct_inv rfl h
  match ds, hl with
  | [a, b, c, d, e, f], _ =>
    obtain ⟨n0, e0, h0⟩ := DT.int_inv rfl (hf 0 _ _ _ rfl rfl rfl)
    obtain ⟨n1, e1, _⟩ := DT.str_inv rfl (hf 1 _ _ _ rfl rfl rfl)
    obtain ⟨n2, e2, h2⟩ := DT.int_inv rfl (hf 2 _ _ _ rfl rfl rfl)
    obtain ⟨n3, e3, _⟩ := DT.str_inv rfl (hf 3 _ _ _ rfl rfl rfl)
    obtain ⟨n4, e4, h4⟩ := DT.int_inv rfl (hf 4 _ _ _ rfl rfl rfl)
    obtain ⟨n5, e5, h5⟩ := DT.int_inv rfl (hf 5 _ _ _ rfl rfl rfl)
    simp at e0 e1 e2 e3 e4 e5
    exact ⟨⟨n0, n1, n2, n3, n4, n5⟩, by simp [encA, e0, e1, e2, e3, e4, e5], wf_i64 h0, wf_i64 h2, wf_i64 h4, wf_i64 h5⟩
theorem at_A {x : AV} (h : AT ts 23 x) : ∃ e, x = aggA e ∧ IntA e := by
  obtain ⟨ds, rfl, hd⟩ := h
  obtain ⟨e, rfl, he⟩ := dt_A hd
  exact ⟨e, rfl, he⟩
theorem at_As {x : AV} (h : AT ts 25 x) : ∃ l : List Ae, x = rowA l ∧ (∀ e ∈ l, IntA e) ∧ l.length ≤ 9223372036854775807 := by
  obtain ⟨y, rfl, hd⟩ := h
  obtain ⟨xs, e, hl, hx⟩ := DT.slice_inv rfl hd
  cases e
  obtain ⟨l, rfl, hp⟩ := list_decode xs (fun x hx' => dt_A (hx x hx'))
  exact ⟨l, rfl, hp, by rw [List.length_map] at hl; exact hl⟩
theorem at_str {x : AV} (h : AT ts 9 x) : ∃ s, x = st s ∧ s.size ≤ 9223372036854775807 := by
  obtain ⟨y, rfl, hd⟩ := h
  obtain ⟨s, e, hs⟩ := DT.str_inv rfl hd
  cases e
  exact ⟨s, rfl, hs⟩
theorem at_int {x : AV} (h : AT ts 3 x) : ∃ n, x = i64 n ∧ In64 n := by
  obtain ⟨y, rfl, hd⟩ := h
  obtain ⟨n, e, hn⟩ := DT.int_inv rfl hd
  cases e
  exact ⟨n, rfl, wf_i64 hn⟩
theorem light_ok {l : List Ae} (h : lightS l = true) (hi : ∀ e ∈ l, IntA e) : OkAs l ∧ l.length ≤ 24 := by
  simp only [lightS, Bool.and_eq_true, decide_eq_true_eq, List.all_eq_true] at h
  refine ⟨fun e he => ?_, h.1⟩
  have h1 := h.2 e he
  simp only [okE, Bool.and_eq_true, decide_eq_true_eq] at h1
  have h2 := hi e he
  exact ⟨h2.at_, h1.1, h2.action, h1.2, h2.code, h2.link⟩
theorem light1_ok {e : Ae} (h : lightS [e] = true) (hi : IntA e) : OkA e := (light_ok h (fun x hx => by rw [List.mem_singleton.1 hx]; exact hi)).1 e (by simp)
def ex0 : Ae := ⟨5, ⟨#[117]⟩, 1, ⟨#[97, 47, 98]⟩, 17, 0⟩
def ex1 (K : Int) : Ae := ⟨5, ⟨#[117]⟩, 1, ⟨#[97, 47, 98]⟩, 17, K⟩
def ex2 : Ae := ⟨4, ⟨#[117]⟩, 1, ⟨#[]⟩, 0, 0⟩
theorem ex0_ok : OkA ex0 := ⟨by unfold In64; decide, by decide, by unfold In64; decide, by decide, by unfold In64; decide, by unfold In64; decide⟩
theorem ex2_ok : OkA ex2 := ⟨by unfold In64; decide, by decide, by unfold In64; decide, by decide, by unfold In64; decide, by unfold In64; decide⟩
theorem ex1_ok : OkAs [ex1 (linkS 0 ex0)] := fun e he => by
  rw [List.mem_singleton.1 he]
  exact ⟨by unfold In64 ex1; decide, by unfold ex1; decide, by unfold In64 ex1; decide, by unfold ex1; decide, by unfold In64 ex1; decide, linkS_in _ _⟩
theorem app_ex0 : appS [] ex0 = ([ex1 (linkS 0 ex0)], 0) := by
  have h : checkA ex0 = 0 := by decide +kernel
  unfold appS
  rw [show (verS []).2 = true from rfl, if_neg (by decide), if_neg (by rw [h]; decide), if_neg (by simp), if_neg (by simp)]
  rfl
theorem ver_ex1 : verS [ex1 (linkS 0 ex0)] = (0, true) := by
  have : (ex1 (linkS 0 ex0)).link = linkS 0 (ex1 (linkS 0 ex0)) := rfl
  rw [verS, verA, if_pos this]
  rfl
theorem app_ex1 : appS [ex1 (linkS 0 ex0)] ex2 = ([], 22) := by
  have h : checkA ex2 = 0 := by decide +kernel
  unfold appS
  rw [ver_ex1]
  simp only
  rw [if_neg (by decide), if_neg (by rw [h]; decide), if_pos ⟨by simp, show (4 : Int) < 5 by decide⟩]
set_option maxHeartbeats 16000000 in
set_option maxRecDepth 10000 in
theorem awake_calls : ACallP Try.prog 10 [] (bo true) := by
  have k1 : ACallP Try.prog 13 [.nilrow, aggA ex0] (.tup [rowA (appS [] ex0).1, i64 (appS [] ex0).2]) := (append_calls [] ex0 (fun x hx => by cases hx) ex0_ok).nilA rfl
  rw [app_ex0] at k1
  have k2 := link_calls 0 ex0 (by unfold In64; decide) ex0_ok
  have k3 := verify_calls _ ex1_ok
  rw [ver_ex1] at k3
  have k4 := append_calls _ ex2 ex1_ok ex2_ok
  rw [app_ex1] at k4
  have k5 := by_calls [ex1 (linkS 0 ex0)] ⟨#[117]⟩ (by decide)
  rw [show byS ⟨#[117]⟩ [ex1 (linkS 0 ex0)] = [ex1 (linkS 0 ex0)] from by simp [byS, ex1]] at k5
  have k6 := by_calls [ex1 (linkS 0 ex0)] ⟨#[118]⟩ (by decide)
  rw [show byS ⟨#[118]⟩ [ex1 (linkS 0 ex0)] = [] from by simp [byS, ex1]] at k6
  have k7 := refused_calls [ex1 (linkS 0 ex0)] ⟨#[117]⟩ (by decide)
  rw [show cntS ⟨#[117]⟩ [ex1 (linkS 0 ex0)] = ⟨0, 1, 0, 0, 0⟩ from by simp [cntS, ex1, refd, incC, C5.zero]] at k7
  generalize linkS 0 ex0 = K at *
  simp only at k1 k3 k4
  refine ACalls.body tok Try.func10 rfl (by kernel_rfl) (by rw [Try.ntmps10]; simp) ?_
  simp only [Try.ntmps10, Try.results10, argT]
  repeat (first|refine AL.do tok rfl rfl ?_|refine AL.nil ?_|refine AW.seq fun K hK => ?_|refine AW.region ?_|refine AL.no rfl rfl ?_|(refine hK _ ?_; clear hK)|(clear hK; refine hK _ ?_; clear hK)|(clear hK; clear hK; refine hK _ ?_; clear hK)|refine qa7 qv1 ?_|refine qa7 qv2 ?_|refine qa7 qv3 ?_|refine qa7 (qv4 tok) ?_|refine qa7 (qv5 tok) ?_|refine qa7 qv6 ?_|refine qa7 qv7 ?_|refine qa7 (qv8 tok) ?_|refine qa7 (qv9 tok) ?_|refine qa7 (qv10 tok) ?_|refine qa7 (qv11 tok) ?_|refine qa7 (qv12 tok) ?_|refine qa7 (qv13 tok) ?_|refine qa7 (qv14 tok) ?_|refine qa7 (qv15 tok) ?_|refine qa7 (qv16 tok) ?_|refine qa7 qv17 ?_|refine qa7 (qv18 tok) ?_|refine qa7 qv19 ?_|refine qa7 (qv20 tok) ?_|refine qa7 (qv21 tok) ?_|refine qa7 (qv22 tok) ?_|refine qa7 (qv23 tok) ?_|refine qa7 (qv24 tok) ?_|refine qa7 qv26 ?_|refine qa7 qv27 ?_|refine qa7 (qv28 tok) ?_|refine qa7 (qv30 tok) ?_|refine qa7 (qv31 tok) ?_|refine qa7 (qv32 tok) ?_|refine qa1 tok ?_|refine qa2 tok ?_|refine qa3 tok ?_|refine AL.loadR tok rfl rfl rfl rfl rfl rfl ?_|refine qa4 tok ?_|refine qa5 tok ?_|refine AW.block ?_|refine AW.exit ?_|refine AW.skip ?_|refine qc1 (k1 ..) ?_|refine qc2 (k1 ..) ?_)
  refine AW.drawn mix (by kernel_rfl) ?_
  repeat' (first|refine AQ.do tok rfl rfl rfl ?_|refine AQ.no rfl rfl ?_|refine AQ.v rfl qv1 rfl ?_|refine AQ.v rfl qv2 rfl ?_|refine AQ.v rfl qv3 rfl ?_|refine AQ.v rfl (qv4 tok) rfl ?_|refine AQ.v rfl (qv5 tok) rfl ?_|refine AQ.v rfl qv6 rfl ?_|refine AQ.v rfl qv7 rfl ?_|refine AQ.v rfl (qv8 tok) rfl ?_|refine AQ.v rfl (qv9 tok) rfl ?_|refine AQ.v rfl (qv10 tok) rfl ?_|refine AQ.v rfl (qv11 tok) rfl ?_|refine AQ.v rfl (qv12 tok) rfl ?_|refine AQ.v rfl (qv13 tok) rfl ?_|refine AQ.v rfl (qv14 tok) rfl ?_|refine AQ.v rfl (qv15 tok) rfl ?_|refine AQ.v rfl (qv16 tok) rfl ?_|refine AQ.v rfl qv17 rfl ?_|refine AQ.v rfl (qv18 tok) rfl ?_|refine AQ.v rfl qv19 rfl ?_|refine AQ.v rfl (qv20 tok) rfl ?_|refine AQ.v rfl (qv21 tok) rfl ?_|refine AQ.v rfl (qv22 tok) rfl ?_|refine AQ.v rfl (qv23 tok) rfl ?_|refine AQ.v rfl (qv24 tok) rfl ?_|refine AQ.v rfl qv26 rfl ?_|refine AQ.v rfl qv27 rfl ?_|refine AQ.v rfl (qv28 tok) rfl ?_|refine AQ.v rfl (qv30 tok) rfl ?_|refine AQ.v rfl (qv31 tok) rfl ?_|refine AQ.v rfl (qv32 tok) rfl ?_|refine AQ.nil ?_|refine AQ.callB rfl rfl rfl rfl rfl rfl (k2 ..) rfl ?_|(refine AQ.guard rfl rfl (fun hg => ?_) (fun hg => ?_) <;> ((try simp only [DX] at hg) <;> (try first|(exfalso; omega)|exact absurd trivial hg|exact False.elim hg|exact absurd rfl hg))))
  repeat' (first|refine AL.do tok rfl rfl ?_|refine AL.nil ?_|refine AW.seq fun K hK => ?_|refine AW.region ?_|refine AL.no rfl rfl ?_|(refine hK _ ?_; clear hK)|(clear hK; refine hK _ ?_; clear hK)|(clear hK; clear hK; refine hK _ ?_; clear hK)|refine qa7 qv1 ?_|refine qa7 qv2 ?_|refine qa7 qv3 ?_|refine qa7 (qv4 tok) ?_|refine qa7 (qv5 tok) ?_|refine qa7 qv6 ?_|refine qa7 qv7 ?_|refine qa7 (qv8 tok) ?_|refine qa7 (qv9 tok) ?_|refine qa7 (qv10 tok) ?_|refine qa7 (qv11 tok) ?_|refine qa7 (qv12 tok) ?_|refine qa7 (qv13 tok) ?_|refine qa7 (qv14 tok) ?_|refine qa7 (qv15 tok) ?_|refine qa7 (qv16 tok) ?_|refine qa7 qv17 ?_|refine qa7 (qv18 tok) ?_|refine qa7 qv19 ?_|refine qa7 (qv20 tok) ?_|refine qa7 (qv21 tok) ?_|refine qa7 (qv22 tok) ?_|refine qa7 (qv23 tok) ?_|refine qa7 (qv24 tok) ?_|refine qa7 qv26 ?_|refine qa7 qv27 ?_|refine qa7 (qv28 tok) ?_|refine qa7 (qv30 tok) ?_|refine qa7 (qv31 tok) ?_|refine qa7 (qv32 tok) ?_|refine qa1 tok ?_|refine qa2 tok ?_|refine qa3 tok ?_|refine AL.loadR tok rfl rfl rfl rfl rfl rfl ?_|refine qa4 tok ?_|refine qa5 tok ?_|refine AW.block ?_|refine AW.exit ?_|refine AW.skip ?_|refine qc1 (k3 ..) ?_|refine qc2 (k3 ..) ?_|refine qc1 (k4 ..) ?_|refine qc2 (k4 ..) ?_|refine qc1 (k5 ..) ?_|refine qc2 (k5 ..) ?_|refine qc1 (k6 ..) ?_|refine qc2 (k6 ..) ?_|refine qc1 (k7 ..) ?_|refine qc2 (k7 ..) ?_|((fail_if_success (refine AL.guard (b := true) rfl rfl ?_ ?_)); (fail_if_success (refine AL.guard (b := false) rfl rfl ?_ ?_)); refine AL.guard rfl rfl (fun hg => ?_) (fun hg => ?_) <;> ((try simp only [DX] at hg) <;> (try first|(exfalso; omega)|exact absurd trivial hg|exact False.elim hg|exact absurd rfl hg)))|refine AW.condT rfl ?_|refine AW.condF rfl ?_|(refine AW.cond rfl (fun hg => ?_) (fun hg => ?_) <;> ((try simp only [DX] at hg) <;> (try first|(exfalso; omega)|exact absurd trivial hg|exact False.elim hg|exact absurd rfl hg))))
  all_goals try (exfalso; simp [ex1] at *; done)
  refine AW.ret ?_
  refine ⟨_, _, _, _, rfl, Out.pure rfl ⟨?_, rfl⟩ rfl⟩
  rfl
end Go.Proofs.Try
