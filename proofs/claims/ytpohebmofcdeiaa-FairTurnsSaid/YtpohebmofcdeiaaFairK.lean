/- fair: the law FairTurns: what it computes is true. -/
import Derived.Test.YtpohebmofcdeiaaFairJ
import Derived.Test.YtpohebmofcdeiaaAM30
set_option linter.unusedSimpArgs false
set_option linter.unusedVariables false
namespace Go.Proofs.Try
open Go Go.AM

theorem mod_of_turns (N : Nat) (s k : Nat) (h : s = s % N) : (s + N + k) % N = (s + k) % N := by
  rw [show s + N + k = s + k + N by omega, Nat.add_mod_right]

set_option maxHeartbeats 8000000 in
set_option maxRecDepth 10000 in
theorem fairTurns_law (x0 x1 x2 : AV) (h0 : AT ts 22 x0) (h1 : AT ts 9 x1) (h2 : AT ts 3 x2) : ACallP Try.prog 5 [x0, x1, x2] (bo true) := by
  obtain ⟨l, rfl, hl⟩ := at_C h0
  obtain ⟨q, rfl, _⟩ := at_str h1
  obtain ⟨last0, rfl, _⟩ := at_int h2
  refine ACalls.body tok Try.func5 rfl (by kernel_rfl) (by rw [Try.ntmps5]; simp) ?_
  simp only [Try.ntmps5, Try.results5, argT]
  repeat (first
      | refine AL.do tok rfl rfl ?_
      | refine AL.nil ?_
      | refine AW.seq fun K hK => ?_
      | refine AW.region ?_
      | refine AL.no rfl rfl ?_
      | (refine hK _ ?_; clear hK)
      | (clear hK; refine hK _ ?_; clear hK)
      | (clear hK; clear hK; refine hK _ ?_; clear hK)
      | refine AL.add rfl rfl rfl rfl (by constructor <;> omega) ?_
      | refine AL.sub rfl rfl rfl rfl (by constructor <;> omega) ?_
      | refine AL.neg rfl rfl rfl (by constructor <;> omega) ?_
      | refine AL.eq tok rfl rfl rfl rfl rfl (by kernel_rfl) ?_
      | refine AL.neq tok rfl rfl rfl rfl rfl (by kernel_rfl) ?_
      | refine AL.max rfl rfl rfl rfl ?_
      | refine AL.buildSlice tok rfl rfl rfl rfl rfl rfl rfl rfl ?_
      | refine AL.min rfl rfl rfl rfl ?_
      | refine AL.idxM tok rfl rfl rfl rfl rfl rfl (fun _ => rfl) (by first | omega | decide) ?_
      | refine AL.idxMI tok rfl rfl rfl rfl rfl rfl (fun _ => rfl) (by omega) (by omega) ?_
      | refine AL.v rfl rfl (VOp.cutTo tok rfl rfl rfl (fun _ => rfl) rfl (by omega)) ?_
      | refine AL.v rfl rfl (VOp.cutFrom tok rfl rfl rfl (fun _ => rfl) rfl (by omega)) ?_
      | refine AL.v rfl rfl (VOp.cutS tok rfl rfl rfl rfl (by omega) (by omega)) ?_
      | refine AL.v rfl rfl (VOp.cutSF tok rfl rfl rfl (by omega)) ?_
      | refine AL.v rfl rfl (VOp.cutST tok rfl rfl rfl (by omega)) ?_
      | refine AL.v rfl rfl (VOp.joinS rfl rfl (by omega)) ?_
      | refine AL.idxON tok rfl rfl rfl rfl rfl rfl rfl rfl (by first | omega | (simp; omega) | (simp; done) | decide) ?_
      | refine AL.loadRM tok rfl rfl rfl rfl (by first | omega | (simp; omega)) rfl ?_
      | refine AL.loadR tok rfl rfl rfl rfl rfl rfl ?_
      | refine AL.sidxN tok rfl rfl rfl rfl rfl (by omega) ?_
      | refine AL.sidx tok rfl rfl rfl rfl rfl (by omega) (by omega) ?_
      | refine AL.range tok rfl rfl rfl rfl ?_
      | refine AW.block ?_
      | refine AW.exit ?_
      | refine AW.skip ?_)
  simp only [List.length_map]
  refine AW.cond rfl (fun hg => ?_) (fun hg => ?_)
  · repeat' (first
      | refine AL.do tok rfl rfl ?_
      | refine AL.nil ?_
      | refine AW.seq fun K hK => ?_
      | refine AW.region ?_
      | refine AL.no rfl rfl ?_
      | (refine hK _ ?_; clear hK)
      | (clear hK; refine hK _ ?_; clear hK)
      | (clear hK; clear hK; refine hK _ ?_; clear hK)
      | refine AL.add rfl rfl rfl rfl (by constructor <;> omega) ?_
      | refine AL.sub rfl rfl rfl rfl (by constructor <;> omega) ?_
      | refine AL.neg rfl rfl rfl (by constructor <;> omega) ?_
      | refine AL.eq tok rfl rfl rfl rfl rfl (by kernel_rfl) ?_
      | refine AL.neq tok rfl rfl rfl rfl rfl (by kernel_rfl) ?_
      | refine AL.max rfl rfl rfl rfl ?_
      | refine AL.buildSlice tok rfl rfl rfl rfl rfl rfl rfl rfl ?_
      | refine AL.min rfl rfl rfl rfl ?_
      | refine AL.idxM tok rfl rfl rfl rfl rfl rfl (fun _ => rfl) (by first | omega | decide) ?_
      | refine AL.idxMI tok rfl rfl rfl rfl rfl rfl (fun _ => rfl) (by omega) (by omega) ?_
      | refine AL.v rfl rfl (VOp.cutTo tok rfl rfl rfl (fun _ => rfl) rfl (by omega)) ?_
      | refine AL.v rfl rfl (VOp.cutFrom tok rfl rfl rfl (fun _ => rfl) rfl (by omega)) ?_
      | refine AL.v rfl rfl (VOp.cutS tok rfl rfl rfl rfl (by omega) (by omega)) ?_
      | refine AL.v rfl rfl (VOp.cutSF tok rfl rfl rfl (by omega)) ?_
      | refine AL.v rfl rfl (VOp.cutST tok rfl rfl rfl (by omega)) ?_
      | refine AL.v rfl rfl (VOp.joinS rfl rfl (by omega)) ?_
      | refine AL.idxON tok rfl rfl rfl rfl rfl rfl rfl rfl (by first | omega | (simp; omega) | (simp; done) | decide) ?_
      | refine AL.loadRM tok rfl rfl rfl rfl (by first | omega | (simp; omega)) rfl ?_
      | refine AL.loadR tok rfl rfl rfl rfl rfl rfl ?_
      | refine AL.sidxN tok rfl rfl rfl rfl rfl (by omega) ?_
      | refine AL.sidx tok rfl rfl rfl rfl rfl (by omega) (by omega) ?_
      | refine AL.range tok rfl rfl rfl rfl ?_
      | refine AW.block ?_
      | refine AW.exit ?_
      | refine AW.skip ?_
      | refine AL.callS rfl rfl rfl rfl rfl rfl (example_calls ..) rfl ?_
      | refine AL.callP rfl rfl rfl rfl rfl (example_calls ..) ?_
      | ((fail_if_success (refine AL.guard (b := true) rfl rfl ?_ ?_)); (fail_if_success (refine AL.guard (b := false) rfl rfl ?_ ?_)); refine AL.guard rfl rfl (fun hg => ?_) (fun hg => ?_) <;> ((try simp only [decide_eq_true_eq, decide_eq_false_iff_not, Bool.not_eq_true', Bool.not_eq_false', Bool.and_eq_true, Bool.or_eq_true, Bool.and_eq_false_iff, Bool.or_eq_false_iff, Bool.false_eq_true, Bool.true_eq_false, not_true_eq_false, not_false_eq_true, true_iff, iff_true, false_iff, iff_false, Int.toNat_zero, Int.toNat_natCast, Int.not_lt, Int.not_le] at hg) <;> (try first | (exfalso; omega) | exact absurd trivial hg | exact False.elim hg | exact absurd rfl hg)))
      | refine AW.condT rfl ?_
      | refine AW.condF rfl ?_
      | (refine AW.cond rfl (fun hg => ?_) (fun hg => ?_) <;> ((try simp only [decide_eq_true_eq, decide_eq_false_iff_not, Bool.not_eq_true', Bool.not_eq_false', Bool.and_eq_true, Bool.or_eq_true, Bool.and_eq_false_iff, Bool.or_eq_false_iff, Bool.false_eq_true, Bool.true_eq_false, not_true_eq_false, not_false_eq_true, true_iff, iff_true, false_iff, iff_false, Int.toNat_zero, Int.toNat_natCast, Int.not_lt, Int.not_le] at hg) <;> (try first | (exfalso; omega) | exact absurd trivial hg | exact False.elim hg | exact absurd rfl hg)))
      | refine AW.ret ?_)
    refine ⟨_, _, _, _, rfl, Out.pure rfl ⟨?_, rfl⟩ rfl⟩
    rfl
  have hl32 : l.length ≤ 32 := by simp at hg; omega
  repeat (first
      | refine AL.do tok rfl rfl ?_
      | refine AL.nil ?_
      | refine AW.seq fun K hK => ?_
      | refine AW.region ?_
      | refine AL.no rfl rfl ?_
      | (refine hK _ ?_; clear hK)
      | (clear hK; refine hK _ ?_; clear hK)
      | (clear hK; clear hK; refine hK _ ?_; clear hK)
      | refine AL.add rfl rfl rfl rfl (by constructor <;> omega) ?_
      | refine AL.sub rfl rfl rfl rfl (by constructor <;> omega) ?_
      | refine AL.neg rfl rfl rfl (by constructor <;> omega) ?_
      | refine AL.eq tok rfl rfl rfl rfl rfl (by kernel_rfl) ?_
      | refine AL.neq tok rfl rfl rfl rfl rfl (by kernel_rfl) ?_
      | refine AL.max rfl rfl rfl rfl ?_
      | refine AL.buildSlice tok rfl rfl rfl rfl rfl rfl rfl rfl ?_
      | refine AL.min rfl rfl rfl rfl ?_
      | refine AL.idxM tok rfl rfl rfl rfl rfl rfl (fun _ => rfl) (by first | omega | decide) ?_
      | refine AL.idxMI tok rfl rfl rfl rfl rfl rfl (fun _ => rfl) (by omega) (by omega) ?_
      | refine AL.v rfl rfl (VOp.cutTo tok rfl rfl rfl (fun _ => rfl) rfl (by omega)) ?_
      | refine AL.v rfl rfl (VOp.cutFrom tok rfl rfl rfl (fun _ => rfl) rfl (by omega)) ?_
      | refine AL.v rfl rfl (VOp.cutS tok rfl rfl rfl rfl (by omega) (by omega)) ?_
      | refine AL.v rfl rfl (VOp.cutSF tok rfl rfl rfl (by omega)) ?_
      | refine AL.v rfl rfl (VOp.cutST tok rfl rfl rfl (by omega)) ?_
      | refine AL.v rfl rfl (VOp.joinS rfl rfl (by omega)) ?_
      | refine AL.idxON tok rfl rfl rfl rfl rfl rfl rfl rfl (by first | omega | (simp; omega) | (simp; done) | decide) ?_
      | refine AL.loadRM tok rfl rfl rfl rfl (by first | omega | (simp; omega)) rfl ?_
      | refine AL.loadR tok rfl rfl rfl rfl rfl rfl ?_
      | refine AL.sidxN tok rfl rfl rfl rfl rfl (by omega) ?_
      | refine AL.sidx tok rfl rfl rfl rfl rfl (by omega) (by omega) ?_
      | refine AL.range tok rfl rfl rfl rfl ?_
      | refine AW.block ?_
      | refine AW.exit ?_
      | refine AW.skip ?_)
  simp only [List.length_map]
  have H := fun σ (hd : DistT l l.length) (hi : Imp σ ⟨143, [(7, i64 (l.countP (mayB q) : Nat)), (6, bo false), (0, rowC l), (1, st q), (2, i64 last0)], [], [], 0⟩) => hK σ (AW.imp hi (by
    clear hK
    have hN32 : l.countP (mayB q) ≤ 32 := Nat.le_trans List.countP_le_length hl32
    have hbe : ∀ {i : Nat} (h : i < l.length), mayB q l[i] = true → l[i].queue = q ∧ (decide (l[i].prefetch = 0) || decide (l[i].unacked < l[i].prefetch)) = true := fun {i} h hm => by
      have : mayB q l[i] = (decide (l[i].queue = q) && (decide (l[i].prefetch = 0) || decide (l[i].unacked < l[i].prefetch))) := rfl
      rw [this, Bool.and_eq_true, decide_eq_true_eq] at hm
      exact hm
    have hs0 : rankM q l last0 = rankM q l last0 % l.countP (mayB q) ∨ l.countP (mayB q) = 0 := by
      unfold rankM
      split
      · rename_i h; exact .inl (Nat.mod_eq_of_lt h).symm
      · exact .inl (by simp)
    have hend : ∀ x, decide (0 ≤ nextI l q x) = decide (0 < ((l.countP (mayB q) : Nat) : Int)) := fun x => by
      by_cases hN : 0 < l.countP (mayB q)
      · obtain ⟨i, _, h, _⟩ := next_spec (last := x) hN
        rw [h]
        simp
        exact List.countP_pos_iff.1 hN
      · rw [next_none (by omega)]
        have : l.countP (mayB q) = 0 := by omega
        rw [this]
        rfl
    have hnext : ∀ x, 0 < l.countP (mayB q) → ∃ i, ∃ h : i < l.length, mayB q l[i] = true ∧ cntM q l i = rankM q l x ∧ ACallP Try.prog 13 [rowC l, st q, i64 x] (.tup [i64 i, bo true]) := fun x hN => by
      obtain ⟨i, h, e1, e2, e3⟩ := next_spec (last := x) hN
      refine ⟨i, h, e2, e3, ?_⟩
      have := next_calls l q x
      rw [e1] at this
      have e : nextAV (i : Int) = .tup [i64 i, bo true] := by simp [nextAV]; omega
      rwa [e] at this
    have hrk : ∀ {i : Nat} (h : i < l.length) (x : Nat), mayB q l[i] = true → cntM q l i = x % l.countP (mayB q) → 0 < l.countP (mayB q) → rankM q l l[i].tag = (x + 1) % l.countP (mayB q) := fun {i} h x hm hc hN => rank_next hd h hm hc rfl hN
    generalize hs : rankM q l last0 = s0 at *
    have htn := fun F (hF : Turns q l s0 F) => @turns_new q l s0 F hF
    have hta := fun F (hF : Turns q l s0 F) => @turns_app q l s0 F hF
    have hts := fun F k (hF : Turns q l s0 F) => @turns_same q l s0 k F hF
    have hnil : Turns q l s0 [] := fun m x hx => by simp at hx
    generalize hNN : l.countP (mayB q) = N at *
    repeat (first
      | refine AL.do tok rfl rfl ?_
      | refine AL.nil ?_
      | refine AW.seq fun K hK => ?_
      | refine AW.region ?_
      | refine AL.no rfl rfl ?_
      | (refine hK _ ?_; clear hK)
      | (clear hK; refine hK _ ?_; clear hK)
      | (clear hK; clear hK; refine hK _ ?_; clear hK)
      | refine AL.add rfl rfl rfl rfl (by constructor <;> omega) ?_
      | refine AL.sub rfl rfl rfl rfl (by constructor <;> omega) ?_
      | refine AL.neg rfl rfl rfl (by constructor <;> omega) ?_
      | refine AL.eq tok rfl rfl rfl rfl rfl (by kernel_rfl) ?_
      | refine AL.neq tok rfl rfl rfl rfl rfl (by kernel_rfl) ?_
      | refine AL.max rfl rfl rfl rfl ?_
      | refine AL.buildSlice tok rfl rfl rfl rfl rfl rfl rfl rfl ?_
      | refine AL.min rfl rfl rfl rfl ?_
      | refine AL.idxM tok rfl rfl rfl rfl rfl rfl (fun _ => rfl) (by first | omega | decide) ?_
      | refine AL.idxMI tok rfl rfl rfl rfl rfl rfl (fun _ => rfl) (by omega) (by omega) ?_
      | refine AL.v rfl rfl (VOp.cutTo tok rfl rfl rfl (fun _ => rfl) rfl (by omega)) ?_
      | refine AL.v rfl rfl (VOp.cutFrom tok rfl rfl rfl (fun _ => rfl) rfl (by omega)) ?_
      | refine AL.v rfl rfl (VOp.cutS tok rfl rfl rfl rfl (by omega) (by omega)) ?_
      | refine AL.v rfl rfl (VOp.cutSF tok rfl rfl rfl (by omega)) ?_
      | refine AL.v rfl rfl (VOp.cutST tok rfl rfl rfl (by omega)) ?_
      | refine AL.v rfl rfl (VOp.joinS rfl rfl (by omega)) ?_
      | refine AL.idxON tok rfl rfl rfl rfl rfl rfl rfl rfl (by first | omega | (simp; omega) | (simp; done) | decide) ?_
      | refine AL.loadRM tok rfl rfl rfl rfl (by first | omega | (simp; omega)) rfl ?_
      | refine AL.loadR tok rfl rfl rfl rfl rfl rfl ?_
      | refine AL.sidxN tok rfl rfl rfl rfl rfl (by omega) ?_
      | refine AL.sidx tok rfl rfl rfl rfl rfl (by omega) (by omega) ?_
      | refine AL.range tok rfl rfl rfl rfl ?_
      | refine AW.block ?_
      | refine AW.exit ?_
      | refine AW.skip ?_)
    refine AW.nilOwn 12 3 1 rfl ?_
    have H2 := fun σ x (hi : Imp σ ⟨143, [(7, i64 (N : Nat)), (6, bo false), (0, rowC l), (1, st q), (2, i64 x)], [], [], 0⟩) => hK σ (AW.imp hi (by
      clear hK
      have hend := hend x
      repeat' (first
      | refine AL.do tok rfl rfl ?_
      | refine AL.nil ?_
      | refine AW.seq fun K hK => ?_
      | refine AW.region ?_
      | refine AL.no rfl rfl ?_
      | (refine hK _ ?_; clear hK)
      | (clear hK; refine hK _ ?_; clear hK)
      | (clear hK; clear hK; refine hK _ ?_; clear hK)
      | refine AL.add rfl rfl rfl rfl (by constructor <;> omega) ?_
      | refine AL.sub rfl rfl rfl rfl (by constructor <;> omega) ?_
      | refine AL.neg rfl rfl rfl (by constructor <;> omega) ?_
      | refine AL.eq tok rfl rfl rfl rfl rfl (by kernel_rfl) ?_
      | refine AL.neq tok rfl rfl rfl rfl rfl (by kernel_rfl) ?_
      | refine AL.max rfl rfl rfl rfl ?_
      | refine AL.buildSlice tok rfl rfl rfl rfl rfl rfl rfl rfl ?_
      | refine AL.min rfl rfl rfl rfl ?_
      | refine AL.idxM tok rfl rfl rfl rfl rfl rfl (fun _ => rfl) (by first | omega | decide) ?_
      | refine AL.idxMI tok rfl rfl rfl rfl rfl rfl (fun _ => rfl) (by omega) (by omega) ?_
      | refine AL.v rfl rfl (VOp.cutTo tok rfl rfl rfl (fun _ => rfl) rfl (by omega)) ?_
      | refine AL.v rfl rfl (VOp.cutFrom tok rfl rfl rfl (fun _ => rfl) rfl (by omega)) ?_
      | refine AL.v rfl rfl (VOp.cutS tok rfl rfl rfl rfl (by omega) (by omega)) ?_
      | refine AL.v rfl rfl (VOp.cutSF tok rfl rfl rfl (by omega)) ?_
      | refine AL.v rfl rfl (VOp.cutST tok rfl rfl rfl (by omega)) ?_
      | refine AL.v rfl rfl (VOp.joinS rfl rfl (by omega)) ?_
      | refine AL.idxON tok rfl rfl rfl rfl rfl rfl rfl rfl (by first | omega | (simp; omega) | (simp; done) | decide) ?_
      | refine AL.loadRM tok rfl rfl rfl rfl (by first | omega | (simp; omega)) rfl ?_
      | refine AL.loadR tok rfl rfl rfl rfl rfl rfl ?_
      | refine AL.sidxN tok rfl rfl rfl rfl rfl (by omega) ?_
      | refine AL.sidx tok rfl rfl rfl rfl rfl (by omega) (by omega) ?_
      | refine AL.range tok rfl rfl rfl rfl ?_
      | refine AW.block ?_
      | refine AW.exit ?_
      | refine AW.skip ?_
      | refine AL.callS rfl rfl rfl rfl rfl rfl (next_calls ..) rfl ?_
      | refine AL.callP rfl rfl rfl rfl rfl (next_calls ..) ?_
      | refine AL.callS rfl rfl rfl rfl rfl rfl (example_calls ..) rfl ?_
      | refine AL.callP rfl rfl rfl rfl rfl (example_calls ..) ?_
      | ((fail_if_success (refine AL.guard (b := true) rfl rfl ?_ ?_)); (fail_if_success (refine AL.guard (b := false) rfl rfl ?_ ?_)); refine AL.guard rfl rfl (fun hg => ?_) (fun hg => ?_) <;> ((try simp only [decide_eq_true_eq, decide_eq_false_iff_not, Bool.not_eq_true', Bool.not_eq_false', Bool.and_eq_true, Bool.or_eq_true, Bool.and_eq_false_iff, Bool.or_eq_false_iff, Bool.false_eq_true, Bool.true_eq_false, not_true_eq_false, not_false_eq_true, true_iff, iff_true, false_iff, iff_false, Int.toNat_zero, Int.toNat_natCast, Int.not_lt, Int.not_le] at hg) <;> (try first | (exfalso; omega) | exact absurd trivial hg | exact False.elim hg | exact absurd rfl hg)))
      | refine AW.condT rfl ?_
      | refine AW.condF rfl ?_
      | (refine AW.cond rfl (fun hg => ?_) (fun hg => ?_) <;> ((try simp only [decide_eq_true_eq, decide_eq_false_iff_not, Bool.not_eq_true', Bool.not_eq_false', Bool.and_eq_true, Bool.or_eq_true, Bool.and_eq_false_iff, Bool.or_eq_false_iff, Bool.false_eq_true, Bool.true_eq_false, not_true_eq_false, not_false_eq_true, true_iff, iff_true, false_iff, iff_false, Int.toNat_zero, Int.toNat_natCast, Int.not_lt, Int.not_le] at hg) <;> (try first | (exfalso; omega) | exact absurd trivial hg | exact False.elim hg | exact absurd rfl hg)))
      | refine AW.ret ?_)
      all_goals first
        | exact absurd hend hg
        | (refine ⟨_, _, _, _, rfl, Out.pure rfl ⟨?_, rfl⟩ rfl⟩
           first | rfl | exact absurd hend hg)))
    clear hK
    refine AW.loop (ι := Nat × List Int × Int) (fun x => ⟨143, [(56, i64 x.1), (12, .own (.loc 0)), (7, i64 (N : Nat)), (6, bo false), (0, rowC l), (1, st q), (2, i64 x.2.2)], [(0, some (.row 3 1 (x.2.1.map fun a => [.one (.int .i64 a)])))], [], 1⟩)
      (fun x => x.1 ≤ 2 ∧ Turns q l s0 x.2.1 ∧ x.2.1.length = (if x.1 = 0 then 0 else N) ∧ (0 < N → rankM q l x.2.2 = s0 % N)) (fun x => 2 - x.1) (0, [], last0) ⟨by simp, hnil, by simp, fun hN => ?_⟩ ?_ ?_
    · rcases hs0 with h | h
      · rw [hs]; exact h
      · omega
    · (refine Imp.weak id (fun _ _ _ _ h => h) (by first | assumption | (intro b hb; cases hb)) ?_ ?_ <;> (repeat' (first
      | exact trivial
      | exact Nat.lt_of_lt_of_le (Nat.lt_succ_self _) (Nat.le_of_ble_eq_true rfl)
      | exact rfl
      | exact Or.inl ⟨rfl, rfl⟩
      | exact Or.inr ⟨rfl, LF.fn _ _ ‹_›⟩
      | refine ⟨?_, ?_⟩)))
    rintro ⟨r, F, x⟩ ⟨hr, hF, hFl, hrank⟩ K1 hK1
    simp only at hr hF hFl hrank
    dsimp only
    by_cases hr2 : r < 2
    · repeat (first
      | refine AL.do tok rfl rfl ?_
      | refine AL.nil ?_
      | refine AW.seq fun K hK => ?_
      | refine AW.region ?_
      | refine AL.no rfl rfl ?_
      | (refine hK _ ?_; clear hK)
      | (clear hK; refine hK _ ?_; clear hK)
      | (clear hK; clear hK; refine hK _ ?_; clear hK)
      | refine AL.add rfl rfl rfl rfl (by constructor <;> omega) ?_
      | refine AL.sub rfl rfl rfl rfl (by constructor <;> omega) ?_
      | refine AL.neg rfl rfl rfl (by constructor <;> omega) ?_
      | refine AL.eq tok rfl rfl rfl rfl rfl (by kernel_rfl) ?_
      | refine AL.neq tok rfl rfl rfl rfl rfl (by kernel_rfl) ?_
      | refine AL.max rfl rfl rfl rfl ?_
      | refine AL.buildSlice tok rfl rfl rfl rfl rfl rfl rfl rfl ?_
      | refine AL.min rfl rfl rfl rfl ?_
      | refine AL.idxM tok rfl rfl rfl rfl rfl rfl (fun _ => rfl) (by first | omega | decide) ?_
      | refine AL.idxMI tok rfl rfl rfl rfl rfl rfl (fun _ => rfl) (by omega) (by omega) ?_
      | refine AL.v rfl rfl (VOp.cutTo tok rfl rfl rfl (fun _ => rfl) rfl (by omega)) ?_
      | refine AL.v rfl rfl (VOp.cutFrom tok rfl rfl rfl (fun _ => rfl) rfl (by omega)) ?_
      | refine AL.v rfl rfl (VOp.cutS tok rfl rfl rfl rfl (by omega) (by omega)) ?_
      | refine AL.v rfl rfl (VOp.cutSF tok rfl rfl rfl (by omega)) ?_
      | refine AL.v rfl rfl (VOp.cutST tok rfl rfl rfl (by omega)) ?_
      | refine AL.v rfl rfl (VOp.joinS rfl rfl (by omega)) ?_
      | refine AL.idxON tok rfl rfl rfl rfl rfl rfl rfl rfl (by first | omega | (simp; omega) | (simp; done) | decide) ?_
      | refine AL.loadRM tok rfl rfl rfl rfl (by first | omega | (simp; omega)) rfl ?_
      | refine AL.loadR tok rfl rfl rfl rfl rfl rfl ?_
      | refine AL.sidxN tok rfl rfl rfl rfl rfl (by omega) ?_
      | refine AL.sidx tok rfl rfl rfl rfl rfl (by omega) (by omega) ?_
      | refine AL.range tok rfl rfl rfl rfl ?_
      | refine AW.block ?_
      | refine AW.exit ?_
      | refine AW.skip ?_)
      refine AW.cond rfl (fun hg => ?_) (fun hg => by simp at hg; omega)
      repeat (first
      | refine AL.do tok rfl rfl ?_
      | refine AL.nil ?_
      | refine AW.seq fun K hK => ?_
      | refine AW.region ?_
      | refine AL.no rfl rfl ?_
      | (refine hK _ ?_; clear hK)
      | (clear hK; refine hK _ ?_; clear hK)
      | (clear hK; clear hK; refine hK _ ?_; clear hK)
      | refine AL.add rfl rfl rfl rfl (by constructor <;> omega) ?_
      | refine AL.sub rfl rfl rfl rfl (by constructor <;> omega) ?_
      | refine AL.neg rfl rfl rfl (by constructor <;> omega) ?_
      | refine AL.eq tok rfl rfl rfl rfl rfl (by kernel_rfl) ?_
      | refine AL.neq tok rfl rfl rfl rfl rfl (by kernel_rfl) ?_
      | refine AL.max rfl rfl rfl rfl ?_
      | refine AL.buildSlice tok rfl rfl rfl rfl rfl rfl rfl rfl ?_
      | refine AL.min rfl rfl rfl rfl ?_
      | refine AL.idxM tok rfl rfl rfl rfl rfl rfl (fun _ => rfl) (by first | omega | decide) ?_
      | refine AL.idxMI tok rfl rfl rfl rfl rfl rfl (fun _ => rfl) (by omega) (by omega) ?_
      | refine AL.v rfl rfl (VOp.cutTo tok rfl rfl rfl (fun _ => rfl) rfl (by omega)) ?_
      | refine AL.v rfl rfl (VOp.cutFrom tok rfl rfl rfl (fun _ => rfl) rfl (by omega)) ?_
      | refine AL.v rfl rfl (VOp.cutS tok rfl rfl rfl rfl (by omega) (by omega)) ?_
      | refine AL.v rfl rfl (VOp.cutSF tok rfl rfl rfl (by omega)) ?_
      | refine AL.v rfl rfl (VOp.cutST tok rfl rfl rfl (by omega)) ?_
      | refine AL.v rfl rfl (VOp.joinS rfl rfl (by omega)) ?_
      | refine AL.idxON tok rfl rfl rfl rfl rfl rfl rfl rfl (by first | omega | (simp; omega) | (simp; done) | decide) ?_
      | refine AL.loadRM tok rfl rfl rfl rfl (by first | omega | (simp; omega)) rfl ?_
      | refine AL.loadR tok rfl rfl rfl rfl rfl rfl ?_
      | refine AL.sidxN tok rfl rfl rfl rfl rfl (by omega) ?_
      | refine AL.sidx tok rfl rfl rfl rfl rfl (by omega) (by omega) ?_
      | refine AL.range tok rfl rfl rfl rfl ?_
      | refine AW.block ?_
      | refine AW.exit ?_
      | refine AW.skip ?_)
      refine AW.loop (ι := Nat × List Int × Int) (fun y => ⟨143, [(60, i64 y.1), (59, i64 (N : Nat)), (13, i64 r), (56, i64 r), (12, .own (.loc 0)), (7, i64 (N : Nat)), (6, bo false), (0, rowC l), (1, st q), (2, i64 y.2.2)], [(0, some (.row 3 1 (y.2.1.map fun a => [.one (.int .i64 a)])))], [], 1⟩)
        (fun y => y.1 ≤ N ∧ Turns q l s0 y.2.1 ∧ y.2.1.length = (if r = 0 then y.1 else N) ∧ (0 < N → rankM q l y.2.2 = (s0 + y.1) % N)) (fun y => N - y.1) (0, F, x) ⟨by simp, hF, hFl, fun hN => by simpa using hrank hN⟩ ?_ ?_
      · (refine Imp.weak id (fun _ _ _ _ h => h) (by first | assumption | (intro b hb; cases hb)) ?_ ?_ <;> (repeat' (first
      | exact trivial
      | exact Nat.lt_of_lt_of_le (Nat.lt_succ_self _) (Nat.le_of_ble_eq_true rfl)
      | exact rfl
      | exact Or.inl ⟨rfl, rfl⟩
      | exact Or.inr ⟨rfl, LF.fn _ _ ‹_›⟩
      | refine ⟨?_, ?_⟩)))
      rintro ⟨k, G, z⟩ ⟨hk, hG, hGl, hrk2⟩ K2 hK2
      simp only at hk hG hGl hrk2
      dsimp only
      by_cases hkN : k < N
      · obtain ⟨i, h, hm, hc, hn⟩ := hnext z (by omega)
        have hrk3 := hrk2 (by omega)
        obtain ⟨hq, hrd⟩ := hbe h hm
        have hrdy : ACallP Try.prog 10 [aggC l[i]] (bo true) := hrd ▸ refReady_calls l[i]
        have hnx := hrk h (s0 + k) hm (hc.trans hrk3) (by omega)
        rcases (by omega : r = 0 ∨ r = 1) with rfl | rfl
        · have hGl : G.length = k := by simpa using hGl
          have hnot := htn G hG (by omega) h hm (by rw [hGl]; exact hc.trans hrk3)
          have happ := hta G hG h hm (by rw [hGl]; exact hc.trans hrk3)
          have hcon : ACallP Try.prog 15 [rowI G, i64 i] (bo false) := by
            have := contains_calls G i
            rwa [show decide ((i : Int) ∈ G) = false by simp [hnot]] at this
          repeat (first
      | refine AL.do tok rfl rfl ?_
      | refine AL.nil ?_
      | refine AW.seq fun K hK => ?_
      | refine AW.region ?_
      | refine AL.no rfl rfl ?_
      | (refine hK _ ?_; clear hK)
      | (clear hK; refine hK _ ?_; clear hK)
      | (clear hK; clear hK; refine hK _ ?_; clear hK)
      | refine AL.add rfl rfl rfl rfl (by constructor <;> omega) ?_
      | refine AL.sub rfl rfl rfl rfl (by constructor <;> omega) ?_
      | refine AL.neg rfl rfl rfl (by constructor <;> omega) ?_
      | refine AL.eq tok rfl rfl rfl rfl rfl (by kernel_rfl) ?_
      | refine AL.neq tok rfl rfl rfl rfl rfl (by kernel_rfl) ?_
      | refine AL.max rfl rfl rfl rfl ?_
      | refine AL.buildSlice tok rfl rfl rfl rfl rfl rfl rfl rfl ?_
      | refine AL.min rfl rfl rfl rfl ?_
      | refine AL.idxM tok rfl rfl rfl rfl rfl rfl (fun _ => rfl) (by first | omega | decide) ?_
      | refine AL.idxMI tok rfl rfl rfl rfl rfl rfl (fun _ => rfl) (by omega) (by omega) ?_
      | refine AL.v rfl rfl (VOp.cutTo tok rfl rfl rfl (fun _ => rfl) rfl (by omega)) ?_
      | refine AL.v rfl rfl (VOp.cutFrom tok rfl rfl rfl (fun _ => rfl) rfl (by omega)) ?_
      | refine AL.v rfl rfl (VOp.cutS tok rfl rfl rfl rfl (by omega) (by omega)) ?_
      | refine AL.v rfl rfl (VOp.cutSF tok rfl rfl rfl (by omega)) ?_
      | refine AL.v rfl rfl (VOp.cutST tok rfl rfl rfl (by omega)) ?_
      | refine AL.v rfl rfl (VOp.joinS rfl rfl (by omega)) ?_
      | refine AL.idxON tok rfl rfl rfl rfl rfl rfl rfl rfl (by first | omega | (simp; omega) | (simp; done) | decide) ?_
      | refine AL.loadRM tok rfl rfl rfl rfl (by first | omega | (simp; omega)) rfl ?_
      | refine AL.loadR tok rfl rfl rfl rfl rfl rfl ?_
      | refine AL.sidxN tok rfl rfl rfl rfl rfl (by omega) ?_
      | refine AL.sidx tok rfl rfl rfl rfl rfl (by omega) (by omega) ?_
      | refine AL.range tok rfl rfl rfl rfl ?_
      | refine AW.block ?_
      | refine AW.exit ?_
      | refine AW.skip ?_)
          refine AW.cond rfl (fun hg => ?_) (fun hg => by simp at hg; omega)
          repeat (first
      | refine AL.do tok rfl rfl ?_
      | refine AL.nil ?_
      | refine AW.seq fun K hK => ?_
      | refine AW.region ?_
      | refine AL.no rfl rfl ?_
      | (refine hK _ ?_; clear hK)
      | (clear hK; refine hK _ ?_; clear hK)
      | (clear hK; clear hK; refine hK _ ?_; clear hK)
      | refine AL.add rfl rfl rfl rfl (by constructor <;> omega) ?_
      | refine AL.sub rfl rfl rfl rfl (by constructor <;> omega) ?_
      | refine AL.neg rfl rfl rfl (by constructor <;> omega) ?_
      | refine AL.eq tok rfl rfl rfl rfl rfl (by kernel_rfl) ?_
      | refine AL.neq tok rfl rfl rfl rfl rfl (by kernel_rfl) ?_
      | refine AL.max rfl rfl rfl rfl ?_
      | refine AL.buildSlice tok rfl rfl rfl rfl rfl rfl rfl rfl ?_
      | refine AL.min rfl rfl rfl rfl ?_
      | refine AL.idxM tok rfl rfl rfl rfl rfl rfl (fun _ => rfl) (by first | omega | decide) ?_
      | refine AL.idxMI tok rfl rfl rfl rfl rfl rfl (fun _ => rfl) (by omega) (by omega) ?_
      | refine AL.v rfl rfl (VOp.cutTo tok rfl rfl rfl (fun _ => rfl) rfl (by omega)) ?_
      | refine AL.v rfl rfl (VOp.cutFrom tok rfl rfl rfl (fun _ => rfl) rfl (by omega)) ?_
      | refine AL.v rfl rfl (VOp.cutS tok rfl rfl rfl rfl (by omega) (by omega)) ?_
      | refine AL.v rfl rfl (VOp.cutSF tok rfl rfl rfl (by omega)) ?_
      | refine AL.v rfl rfl (VOp.cutST tok rfl rfl rfl (by omega)) ?_
      | refine AL.v rfl rfl (VOp.joinS rfl rfl (by omega)) ?_
      | refine AL.idxON tok rfl rfl rfl rfl rfl rfl rfl rfl (by first | omega | (simp; omega) | (simp; done) | decide) ?_
      | refine AL.loadRM tok rfl rfl rfl rfl (by first | omega | (simp; omega)) rfl ?_
      | refine AL.loadR tok rfl rfl rfl rfl rfl rfl ?_
      | refine AL.sidxN tok rfl rfl rfl rfl rfl (by omega) ?_
      | refine AL.sidx tok rfl rfl rfl rfl rfl (by omega) (by omega) ?_
      | refine AL.range tok rfl rfl rfl rfl ?_
      | refine AW.block ?_
      | refine AW.exit ?_
      | refine AW.skip ?_)
          repeat' (first
      | refine AL.do tok rfl rfl ?_
      | refine AL.nil ?_
      | refine AW.seq fun K hK => ?_
      | refine AW.region ?_
      | refine AL.no rfl rfl ?_
      | (refine hK _ ?_; clear hK)
      | (clear hK; refine hK _ ?_; clear hK)
      | (clear hK; clear hK; refine hK _ ?_; clear hK)
      | refine AL.add rfl rfl rfl rfl (by constructor <;> omega) ?_
      | refine AL.sub rfl rfl rfl rfl (by constructor <;> omega) ?_
      | refine AL.neg rfl rfl rfl (by constructor <;> omega) ?_
      | refine AL.eq tok rfl rfl rfl rfl rfl (by kernel_rfl) ?_
      | refine AL.neq tok rfl rfl rfl rfl rfl (by kernel_rfl) ?_
      | refine AL.max rfl rfl rfl rfl ?_
      | refine AL.buildSlice tok rfl rfl rfl rfl rfl rfl rfl rfl ?_
      | refine AL.min rfl rfl rfl rfl ?_
      | refine AL.idxM tok rfl rfl rfl rfl rfl rfl (fun _ => rfl) (by first | omega | decide) ?_
      | refine AL.idxMI tok rfl rfl rfl rfl rfl rfl (fun _ => rfl) (by omega) (by omega) ?_
      | refine AL.v rfl rfl (VOp.cutTo tok rfl rfl rfl (fun _ => rfl) rfl (by omega)) ?_
      | refine AL.v rfl rfl (VOp.cutFrom tok rfl rfl rfl (fun _ => rfl) rfl (by omega)) ?_
      | refine AL.v rfl rfl (VOp.cutS tok rfl rfl rfl rfl (by omega) (by omega)) ?_
      | refine AL.v rfl rfl (VOp.cutSF tok rfl rfl rfl (by omega)) ?_
      | refine AL.v rfl rfl (VOp.cutST tok rfl rfl rfl (by omega)) ?_
      | refine AL.v rfl rfl (VOp.joinS rfl rfl (by omega)) ?_
      | refine AL.idxON tok rfl rfl rfl rfl rfl rfl rfl rfl (by first | omega | (simp; omega) | (simp; done) | decide) ?_
      | refine AL.loadRM tok rfl rfl rfl rfl (by first | omega | (simp; omega)) rfl ?_
      | refine AL.loadR tok rfl rfl rfl rfl rfl rfl ?_
      | refine AL.sidxN tok rfl rfl rfl rfl rfl (by omega) ?_
      | refine AL.sidx tok rfl rfl rfl rfl rfl (by omega) (by omega) ?_
      | refine AL.range tok rfl rfl rfl rfl ?_
      | refine AW.block ?_
      | refine AW.exit ?_
      | refine AW.skip ?_
      | refine AL.callS rfl rfl rfl rfl rfl rfl (hn ..) rfl ?_
      | refine AL.callP rfl rfl rfl rfl rfl (hn ..) ?_
      | refine AL.callS rfl rfl rfl rfl rfl rfl (hrdy ..) rfl ?_
      | refine AL.callP rfl rfl rfl rfl rfl (hrdy ..) ?_
      | refine AL.callS rfl rfl rfl rfl rfl rfl (hcon ..) rfl ?_
      | refine AL.callP rfl rfl rfl rfl rfl (hcon ..) ?_
      | ((fail_if_success (refine AL.guard (b := true) rfl rfl ?_ ?_)); (fail_if_success (refine AL.guard (b := false) rfl rfl ?_ ?_)); refine AL.guard rfl rfl (fun hg => ?_) (fun hg => ?_) <;> ((try simp only [decide_eq_true_eq, decide_eq_false_iff_not, Bool.not_eq_true', Bool.not_eq_false', Bool.and_eq_true, Bool.or_eq_true, Bool.and_eq_false_iff, Bool.or_eq_false_iff, Bool.false_eq_true, Bool.true_eq_false, not_true_eq_false, not_false_eq_true, true_iff, iff_true, false_iff, iff_false, Int.toNat_zero, Int.toNat_natCast, Int.not_lt, Int.not_le] at hg) <;> (try first | (exfalso; omega) | exact absurd trivial hg | exact False.elim hg | exact absurd rfl hg)))
      | refine AW.condT rfl ?_
      | refine AW.condF rfl ?_
      | (refine AW.cond rfl (fun hg => ?_) (fun hg => ?_) <;> ((try simp only [decide_eq_true_eq, decide_eq_false_iff_not, Bool.not_eq_true', Bool.not_eq_false', Bool.and_eq_true, Bool.or_eq_true, Bool.and_eq_false_iff, Bool.or_eq_false_iff, Bool.false_eq_true, Bool.true_eq_false, not_true_eq_false, not_false_eq_true, true_iff, iff_true, false_iff, iff_false, Int.toNat_zero, Int.toNat_natCast, Int.not_lt, Int.not_le] at hg) <;> (try first | (exfalso; omega) | exact absurd trivial hg | exact False.elim hg | exact absurd rfl hg))))
          · simp only [List.length_map] at hg; omega
          · exact absurd hq hg
          refine AL.append tok rfl rfl rfl rfl rfl rfl rfl rfl rfl rfl rfl (by first | (intro x hx; obtain ⟨_, _, rfl⟩ := List.mem_map.1 hx; rfl) | (simp; done)) (by simp; omega) (by simp; omega) ?_
          rw [show G.map (fun a => [D.one (.int .i64 a)]) ++ [[D.one (.int .i64 (i : Int))]] = (G ++ [(i : Int)]).map (fun a => [D.one (.int .i64 a)]) by simp]
          repeat (first
      | refine AL.do tok rfl rfl ?_
      | refine AL.nil ?_
      | refine AW.seq fun K hK => ?_
      | refine AW.region ?_
      | refine AL.no rfl rfl ?_
      | (refine hK _ ?_; clear hK)
      | (clear hK; refine hK _ ?_; clear hK)
      | (clear hK; clear hK; refine hK _ ?_; clear hK)
      | refine AL.add rfl rfl rfl rfl (by constructor <;> omega) ?_
      | refine AL.sub rfl rfl rfl rfl (by constructor <;> omega) ?_
      | refine AL.neg rfl rfl rfl (by constructor <;> omega) ?_
      | refine AL.eq tok rfl rfl rfl rfl rfl (by kernel_rfl) ?_
      | refine AL.neq tok rfl rfl rfl rfl rfl (by kernel_rfl) ?_
      | refine AL.max rfl rfl rfl rfl ?_
      | refine AL.buildSlice tok rfl rfl rfl rfl rfl rfl rfl rfl ?_
      | refine AL.min rfl rfl rfl rfl ?_
      | refine AL.idxM tok rfl rfl rfl rfl rfl rfl (fun _ => rfl) (by first | omega | decide) ?_
      | refine AL.idxMI tok rfl rfl rfl rfl rfl rfl (fun _ => rfl) (by omega) (by omega) ?_
      | refine AL.v rfl rfl (VOp.cutTo tok rfl rfl rfl (fun _ => rfl) rfl (by omega)) ?_
      | refine AL.v rfl rfl (VOp.cutFrom tok rfl rfl rfl (fun _ => rfl) rfl (by omega)) ?_
      | refine AL.v rfl rfl (VOp.cutS tok rfl rfl rfl rfl (by omega) (by omega)) ?_
      | refine AL.v rfl rfl (VOp.cutSF tok rfl rfl rfl (by omega)) ?_
      | refine AL.v rfl rfl (VOp.cutST tok rfl rfl rfl (by omega)) ?_
      | refine AL.v rfl rfl (VOp.joinS rfl rfl (by omega)) ?_
      | refine AL.idxON tok rfl rfl rfl rfl rfl rfl rfl rfl (by first | omega | (simp; omega) | (simp; done) | decide) ?_
      | refine AL.loadRM tok rfl rfl rfl rfl (by first | omega | (simp; omega)) rfl ?_
      | refine AL.loadR tok rfl rfl rfl rfl rfl rfl ?_
      | refine AL.sidxN tok rfl rfl rfl rfl rfl (by omega) ?_
      | refine AL.sidx tok rfl rfl rfl rfl rfl (by omega) (by omega) ?_
      | refine AL.range tok rfl rfl rfl rfl ?_
      | refine AW.block ?_
      | refine AW.exit ?_
      | refine AW.skip ?_)
          refine hK2 _ (k + 1, G ++ [(i : Int)], l[i].tag) ⟨by simp only; omega, happ, by simp [hGl], fun hN => by rw [hnx]; rfl⟩ (by simp only; omega) ?_
          (refine Imp.weak (fun _ => 2) (fun _ _ h1 h2 _ => by omega) (by first | assumption | (intro b hb; cases hb)) ?_ ?_ <;> (repeat' (first
      | exact trivial
      | exact Nat.lt_of_lt_of_le (Nat.lt_succ_self _) (Nat.le_of_ble_eq_true rfl)
      | exact rfl
      | exact Or.inl ⟨rfl, rfl⟩
      | exact Or.inr ⟨rfl, LF.fn _ _ ‹_›⟩
      | refine ⟨?_, ?_⟩)))
        · have hGl : G.length = N := by simpa using hGl
          have hsame : G[k]'(by omega) = (i : Int) := hts G k hG h hm (hc.trans hrk3) (by omega)
          repeat (first
      | refine AL.do tok rfl rfl ?_
      | refine AL.nil ?_
      | refine AW.seq fun K hK => ?_
      | refine AW.region ?_
      | refine AL.no rfl rfl ?_
      | (refine hK _ ?_; clear hK)
      | (clear hK; refine hK _ ?_; clear hK)
      | (clear hK; clear hK; refine hK _ ?_; clear hK)
      | refine AL.add rfl rfl rfl rfl (by constructor <;> omega) ?_
      | refine AL.sub rfl rfl rfl rfl (by constructor <;> omega) ?_
      | refine AL.neg rfl rfl rfl (by constructor <;> omega) ?_
      | refine AL.eq tok rfl rfl rfl rfl rfl (by kernel_rfl) ?_
      | refine AL.neq tok rfl rfl rfl rfl rfl (by kernel_rfl) ?_
      | refine AL.max rfl rfl rfl rfl ?_
      | refine AL.buildSlice tok rfl rfl rfl rfl rfl rfl rfl rfl ?_
      | refine AL.min rfl rfl rfl rfl ?_
      | refine AL.idxM tok rfl rfl rfl rfl rfl rfl (fun _ => rfl) (by first | omega | decide) ?_
      | refine AL.idxMI tok rfl rfl rfl rfl rfl rfl (fun _ => rfl) (by omega) (by omega) ?_
      | refine AL.v rfl rfl (VOp.cutTo tok rfl rfl rfl (fun _ => rfl) rfl (by omega)) ?_
      | refine AL.v rfl rfl (VOp.cutFrom tok rfl rfl rfl (fun _ => rfl) rfl (by omega)) ?_
      | refine AL.v rfl rfl (VOp.cutS tok rfl rfl rfl rfl (by omega) (by omega)) ?_
      | refine AL.v rfl rfl (VOp.cutSF tok rfl rfl rfl (by omega)) ?_
      | refine AL.v rfl rfl (VOp.cutST tok rfl rfl rfl (by omega)) ?_
      | refine AL.v rfl rfl (VOp.joinS rfl rfl (by omega)) ?_
      | refine AL.idxON tok rfl rfl rfl rfl rfl rfl rfl rfl (by first | omega | (simp; omega) | (simp; done) | decide) ?_
      | refine AL.loadRM tok rfl rfl rfl rfl (by first | omega | (simp; omega)) rfl ?_
      | refine AL.loadR tok rfl rfl rfl rfl rfl rfl ?_
      | refine AL.sidxN tok rfl rfl rfl rfl rfl (by omega) ?_
      | refine AL.sidx tok rfl rfl rfl rfl rfl (by omega) (by omega) ?_
      | refine AL.range tok rfl rfl rfl rfl ?_
      | refine AW.block ?_
      | refine AW.exit ?_
      | refine AW.skip ?_)
          refine AW.cond rfl (fun hg => ?_) (fun hg => by simp at hg; omega)
          repeat (first
      | refine AL.do tok rfl rfl ?_
      | refine AL.nil ?_
      | refine AW.seq fun K hK => ?_
      | refine AW.region ?_
      | refine AL.no rfl rfl ?_
      | (refine hK _ ?_; clear hK)
      | (clear hK; refine hK _ ?_; clear hK)
      | (clear hK; clear hK; refine hK _ ?_; clear hK)
      | refine AL.add rfl rfl rfl rfl (by constructor <;> omega) ?_
      | refine AL.sub rfl rfl rfl rfl (by constructor <;> omega) ?_
      | refine AL.neg rfl rfl rfl (by constructor <;> omega) ?_
      | refine AL.eq tok rfl rfl rfl rfl rfl (by kernel_rfl) ?_
      | refine AL.neq tok rfl rfl rfl rfl rfl (by kernel_rfl) ?_
      | refine AL.max rfl rfl rfl rfl ?_
      | refine AL.buildSlice tok rfl rfl rfl rfl rfl rfl rfl rfl ?_
      | refine AL.min rfl rfl rfl rfl ?_
      | refine AL.idxM tok rfl rfl rfl rfl rfl rfl (fun _ => rfl) (by first | omega | decide) ?_
      | refine AL.idxMI tok rfl rfl rfl rfl rfl rfl (fun _ => rfl) (by omega) (by omega) ?_
      | refine AL.v rfl rfl (VOp.cutTo tok rfl rfl rfl (fun _ => rfl) rfl (by omega)) ?_
      | refine AL.v rfl rfl (VOp.cutFrom tok rfl rfl rfl (fun _ => rfl) rfl (by omega)) ?_
      | refine AL.v rfl rfl (VOp.cutS tok rfl rfl rfl rfl (by omega) (by omega)) ?_
      | refine AL.v rfl rfl (VOp.cutSF tok rfl rfl rfl (by omega)) ?_
      | refine AL.v rfl rfl (VOp.cutST tok rfl rfl rfl (by omega)) ?_
      | refine AL.v rfl rfl (VOp.joinS rfl rfl (by omega)) ?_
      | refine AL.idxON tok rfl rfl rfl rfl rfl rfl rfl rfl (by first | omega | (simp; omega) | (simp; done) | decide) ?_
      | refine AL.loadRM tok rfl rfl rfl rfl (by first | omega | (simp; omega)) rfl ?_
      | refine AL.loadR tok rfl rfl rfl rfl rfl rfl ?_
      | refine AL.sidxN tok rfl rfl rfl rfl rfl (by omega) ?_
      | refine AL.sidx tok rfl rfl rfl rfl rfl (by omega) (by omega) ?_
      | refine AL.range tok rfl rfl rfl rfl ?_
      | refine AW.block ?_
      | refine AW.exit ?_
      | refine AW.skip ?_)
          repeat' (first
      | refine AL.do tok rfl rfl ?_
      | refine AL.nil ?_
      | refine AW.seq fun K hK => ?_
      | refine AW.region ?_
      | refine AL.no rfl rfl ?_
      | (refine hK _ ?_; clear hK)
      | (clear hK; refine hK _ ?_; clear hK)
      | (clear hK; clear hK; refine hK _ ?_; clear hK)
      | refine AL.add rfl rfl rfl rfl (by constructor <;> omega) ?_
      | refine AL.sub rfl rfl rfl rfl (by constructor <;> omega) ?_
      | refine AL.neg rfl rfl rfl (by constructor <;> omega) ?_
      | refine AL.eq tok rfl rfl rfl rfl rfl (by kernel_rfl) ?_
      | refine AL.neq tok rfl rfl rfl rfl rfl (by kernel_rfl) ?_
      | refine AL.max rfl rfl rfl rfl ?_
      | refine AL.buildSlice tok rfl rfl rfl rfl rfl rfl rfl rfl ?_
      | refine AL.min rfl rfl rfl rfl ?_
      | refine AL.idxM tok rfl rfl rfl rfl rfl rfl (fun _ => rfl) (by first | omega | decide) ?_
      | refine AL.idxMI tok rfl rfl rfl rfl rfl rfl (fun _ => rfl) (by omega) (by omega) ?_
      | refine AL.v rfl rfl (VOp.cutTo tok rfl rfl rfl (fun _ => rfl) rfl (by omega)) ?_
      | refine AL.v rfl rfl (VOp.cutFrom tok rfl rfl rfl (fun _ => rfl) rfl (by omega)) ?_
      | refine AL.v rfl rfl (VOp.cutS tok rfl rfl rfl rfl (by omega) (by omega)) ?_
      | refine AL.v rfl rfl (VOp.cutSF tok rfl rfl rfl (by omega)) ?_
      | refine AL.v rfl rfl (VOp.cutST tok rfl rfl rfl (by omega)) ?_
      | refine AL.v rfl rfl (VOp.joinS rfl rfl (by omega)) ?_
      | refine AL.idxON tok rfl rfl rfl rfl rfl rfl rfl rfl (by first | omega | (simp; omega) | (simp; done) | decide) ?_
      | refine AL.loadRM tok rfl rfl rfl rfl (by first | omega | (simp; omega)) rfl ?_
      | refine AL.loadR tok rfl rfl rfl rfl rfl rfl ?_
      | refine AL.sidxN tok rfl rfl rfl rfl rfl (by omega) ?_
      | refine AL.sidx tok rfl rfl rfl rfl rfl (by omega) (by omega) ?_
      | refine AL.range tok rfl rfl rfl rfl ?_
      | refine AW.block ?_
      | refine AW.exit ?_
      | refine AW.skip ?_
      | refine AL.callS rfl rfl rfl rfl rfl rfl (hn ..) rfl ?_
      | refine AL.callP rfl rfl rfl rfl rfl (hn ..) ?_
      | refine AL.callS rfl rfl rfl rfl rfl rfl (hrdy ..) rfl ?_
      | refine AL.callP rfl rfl rfl rfl rfl (hrdy ..) ?_
      | ((fail_if_success (refine AL.guard (b := true) rfl rfl ?_ ?_)); (fail_if_success (refine AL.guard (b := false) rfl rfl ?_ ?_)); refine AL.guard rfl rfl (fun hg => ?_) (fun hg => ?_) <;> ((try simp only [decide_eq_true_eq, decide_eq_false_iff_not, Bool.not_eq_true', Bool.not_eq_false', Bool.and_eq_true, Bool.or_eq_true, Bool.and_eq_false_iff, Bool.or_eq_false_iff, Bool.false_eq_true, Bool.true_eq_false, not_true_eq_false, not_false_eq_true, true_iff, iff_true, false_iff, iff_false, Int.toNat_zero, Int.toNat_natCast, Int.not_lt, Int.not_le] at hg) <;> (try first | (exfalso; omega) | exact absurd trivial hg | exact False.elim hg | exact absurd rfl hg)))
      | refine AW.condT rfl ?_
      | refine AW.condF rfl ?_
      | (refine AW.cond rfl (fun hg => ?_) (fun hg => ?_) <;> ((try simp only [decide_eq_true_eq, decide_eq_false_iff_not, Bool.not_eq_true', Bool.not_eq_false', Bool.and_eq_true, Bool.or_eq_true, Bool.and_eq_false_iff, Bool.or_eq_false_iff, Bool.false_eq_true, Bool.true_eq_false, not_true_eq_false, not_false_eq_true, true_iff, iff_true, false_iff, iff_false, Int.toNat_zero, Int.toNat_natCast, Int.not_lt, Int.not_le] at hg) <;> (try first | (exfalso; omega) | exact absurd trivial hg | exact False.elim hg | exact absurd rfl hg))))
          · simp only [List.length_map] at hg; omega
          · exact absurd hq hg
          refine hK2 _ (k + 1, G, l[i].tag) ⟨by simp only; omega, hG, by simp [hGl], fun hN => by rw [hnx]; rfl⟩ (by simp only; omega) ?_
          (refine Imp.weak id (fun _ _ _ _ h => h) (by first | assumption | (intro b hb; cases hb)) ?_ ?_ <;> (repeat' (first
      | exact trivial
      | exact Nat.lt_of_lt_of_le (Nat.lt_succ_self _) (Nat.le_of_ble_eq_true rfl)
      | exact rfl
      | exact Or.inl ⟨rfl, rfl⟩
      | exact Or.inr ⟨rfl, LF.fn _ _ ‹_›⟩
      | refine ⟨?_, ?_⟩)))
      · repeat (first
      | refine AL.do tok rfl rfl ?_
      | refine AL.nil ?_
      | refine AW.seq fun K hK => ?_
      | refine AW.region ?_
      | refine AL.no rfl rfl ?_
      | (refine hK _ ?_; clear hK)
      | (clear hK; refine hK _ ?_; clear hK)
      | (clear hK; clear hK; refine hK _ ?_; clear hK)
      | refine AL.add rfl rfl rfl rfl (by constructor <;> omega) ?_
      | refine AL.sub rfl rfl rfl rfl (by constructor <;> omega) ?_
      | refine AL.neg rfl rfl rfl (by constructor <;> omega) ?_
      | refine AL.eq tok rfl rfl rfl rfl rfl (by kernel_rfl) ?_
      | refine AL.neq tok rfl rfl rfl rfl rfl (by kernel_rfl) ?_
      | refine AL.max rfl rfl rfl rfl ?_
      | refine AL.buildSlice tok rfl rfl rfl rfl rfl rfl rfl rfl ?_
      | refine AL.min rfl rfl rfl rfl ?_
      | refine AL.idxM tok rfl rfl rfl rfl rfl rfl (fun _ => rfl) (by first | omega | decide) ?_
      | refine AL.idxMI tok rfl rfl rfl rfl rfl rfl (fun _ => rfl) (by omega) (by omega) ?_
      | refine AL.v rfl rfl (VOp.cutTo tok rfl rfl rfl (fun _ => rfl) rfl (by omega)) ?_
      | refine AL.v rfl rfl (VOp.cutFrom tok rfl rfl rfl (fun _ => rfl) rfl (by omega)) ?_
      | refine AL.v rfl rfl (VOp.cutS tok rfl rfl rfl rfl (by omega) (by omega)) ?_
      | refine AL.v rfl rfl (VOp.cutSF tok rfl rfl rfl (by omega)) ?_
      | refine AL.v rfl rfl (VOp.cutST tok rfl rfl rfl (by omega)) ?_
      | refine AL.v rfl rfl (VOp.joinS rfl rfl (by omega)) ?_
      | refine AL.idxON tok rfl rfl rfl rfl rfl rfl rfl rfl (by first | omega | (simp; omega) | (simp; done) | decide) ?_
      | refine AL.loadRM tok rfl rfl rfl rfl (by first | omega | (simp; omega)) rfl ?_
      | refine AL.loadR tok rfl rfl rfl rfl rfl rfl ?_
      | refine AL.sidxN tok rfl rfl rfl rfl rfl (by omega) ?_
      | refine AL.sidx tok rfl rfl rfl rfl rfl (by omega) (by omega) ?_
      | refine AL.range tok rfl rfl rfl rfl ?_
      | refine AW.block ?_
      | refine AW.exit ?_
      | refine AW.skip ?_)
        refine AW.cond rfl (fun hg => by simp at hg; omega) (fun hg => ?_)
        repeat (first
      | refine AL.do tok rfl rfl ?_
      | refine AL.nil ?_
      | refine AW.seq fun K hK => ?_
      | refine AW.region ?_
      | refine AL.no rfl rfl ?_
      | (refine hK _ ?_; clear hK)
      | (clear hK; refine hK _ ?_; clear hK)
      | (clear hK; clear hK; refine hK _ ?_; clear hK)
      | refine AL.add rfl rfl rfl rfl (by constructor <;> omega) ?_
      | refine AL.sub rfl rfl rfl rfl (by constructor <;> omega) ?_
      | refine AL.neg rfl rfl rfl (by constructor <;> omega) ?_
      | refine AL.eq tok rfl rfl rfl rfl rfl (by kernel_rfl) ?_
      | refine AL.neq tok rfl rfl rfl rfl rfl (by kernel_rfl) ?_
      | refine AL.max rfl rfl rfl rfl ?_
      | refine AL.buildSlice tok rfl rfl rfl rfl rfl rfl rfl rfl ?_
      | refine AL.min rfl rfl rfl rfl ?_
      | refine AL.idxM tok rfl rfl rfl rfl rfl rfl (fun _ => rfl) (by first | omega | decide) ?_
      | refine AL.idxMI tok rfl rfl rfl rfl rfl rfl (fun _ => rfl) (by omega) (by omega) ?_
      | refine AL.v rfl rfl (VOp.cutTo tok rfl rfl rfl (fun _ => rfl) rfl (by omega)) ?_
      | refine AL.v rfl rfl (VOp.cutFrom tok rfl rfl rfl (fun _ => rfl) rfl (by omega)) ?_
      | refine AL.v rfl rfl (VOp.cutS tok rfl rfl rfl rfl (by omega) (by omega)) ?_
      | refine AL.v rfl rfl (VOp.cutSF tok rfl rfl rfl (by omega)) ?_
      | refine AL.v rfl rfl (VOp.cutST tok rfl rfl rfl (by omega)) ?_
      | refine AL.v rfl rfl (VOp.joinS rfl rfl (by omega)) ?_
      | refine AL.idxON tok rfl rfl rfl rfl rfl rfl rfl rfl (by first | omega | (simp; omega) | (simp; done) | decide) ?_
      | refine AL.loadRM tok rfl rfl rfl rfl (by first | omega | (simp; omega)) rfl ?_
      | refine AL.loadR tok rfl rfl rfl rfl rfl rfl ?_
      | refine AL.sidxN tok rfl rfl rfl rfl rfl (by omega) ?_
      | refine AL.sidx tok rfl rfl rfl rfl rfl (by omega) (by omega) ?_
      | refine AL.range tok rfl rfl rfl rfl ?_
      | refine AW.block ?_
      | refine AW.exit ?_
      | refine AW.skip ?_)
        have hkk : k = N := by omega
        refine hK1 _ (r + 1, G, z) ⟨by simp only; omega, hG, by rw [hGl, hkk]; simp, fun hN => by rw [hrk2 hN, hkk, Nat.add_mod_right]⟩ (by simp only; omega) ?_
        (refine Imp.weak id (fun _ _ _ _ h => h) (by first | assumption | (intro b hb; cases hb)) ?_ ?_ <;> (repeat' (first
      | exact trivial
      | exact Nat.lt_of_lt_of_le (Nat.lt_succ_self _) (Nat.le_of_ble_eq_true rfl)
      | exact rfl
      | exact Or.inl ⟨rfl, rfl⟩
      | exact Or.inr ⟨rfl, LF.fn _ _ ‹_›⟩
      | refine ⟨?_, ?_⟩)))
    · repeat (first
      | refine AL.do tok rfl rfl ?_
      | refine AL.nil ?_
      | refine AW.seq fun K hK => ?_
      | refine AW.region ?_
      | refine AL.no rfl rfl ?_
      | (refine hK _ ?_; clear hK)
      | (clear hK; refine hK _ ?_; clear hK)
      | (clear hK; clear hK; refine hK _ ?_; clear hK)
      | refine AL.add rfl rfl rfl rfl (by constructor <;> omega) ?_
      | refine AL.sub rfl rfl rfl rfl (by constructor <;> omega) ?_
      | refine AL.neg rfl rfl rfl (by constructor <;> omega) ?_
      | refine AL.eq tok rfl rfl rfl rfl rfl (by kernel_rfl) ?_
      | refine AL.neq tok rfl rfl rfl rfl rfl (by kernel_rfl) ?_
      | refine AL.max rfl rfl rfl rfl ?_
      | refine AL.buildSlice tok rfl rfl rfl rfl rfl rfl rfl rfl ?_
      | refine AL.min rfl rfl rfl rfl ?_
      | refine AL.idxM tok rfl rfl rfl rfl rfl rfl (fun _ => rfl) (by first | omega | decide) ?_
      | refine AL.idxMI tok rfl rfl rfl rfl rfl rfl (fun _ => rfl) (by omega) (by omega) ?_
      | refine AL.v rfl rfl (VOp.cutTo tok rfl rfl rfl (fun _ => rfl) rfl (by omega)) ?_
      | refine AL.v rfl rfl (VOp.cutFrom tok rfl rfl rfl (fun _ => rfl) rfl (by omega)) ?_
      | refine AL.v rfl rfl (VOp.cutS tok rfl rfl rfl rfl (by omega) (by omega)) ?_
      | refine AL.v rfl rfl (VOp.cutSF tok rfl rfl rfl (by omega)) ?_
      | refine AL.v rfl rfl (VOp.cutST tok rfl rfl rfl (by omega)) ?_
      | refine AL.v rfl rfl (VOp.joinS rfl rfl (by omega)) ?_
      | refine AL.idxON tok rfl rfl rfl rfl rfl rfl rfl rfl (by first | omega | (simp; omega) | (simp; done) | decide) ?_
      | refine AL.loadRM tok rfl rfl rfl rfl (by first | omega | (simp; omega)) rfl ?_
      | refine AL.loadR tok rfl rfl rfl rfl rfl rfl ?_
      | refine AL.sidxN tok rfl rfl rfl rfl rfl (by omega) ?_
      | refine AL.sidx tok rfl rfl rfl rfl rfl (by omega) (by omega) ?_
      | refine AL.range tok rfl rfl rfl rfl ?_
      | refine AW.block ?_
      | refine AW.exit ?_
      | refine AW.skip ?_)
      refine AW.cond rfl (fun hg => by simp at hg; omega) (fun hg => ?_)
      repeat (first
      | refine AL.do tok rfl rfl ?_
      | refine AL.nil ?_
      | refine AW.seq fun K hK => ?_
      | refine AW.region ?_
      | refine AL.no rfl rfl ?_
      | (refine hK _ ?_; clear hK)
      | (clear hK; refine hK _ ?_; clear hK)
      | (clear hK; clear hK; refine hK _ ?_; clear hK)
      | refine AL.add rfl rfl rfl rfl (by constructor <;> omega) ?_
      | refine AL.sub rfl rfl rfl rfl (by constructor <;> omega) ?_
      | refine AL.neg rfl rfl rfl (by constructor <;> omega) ?_
      | refine AL.eq tok rfl rfl rfl rfl rfl (by kernel_rfl) ?_
      | refine AL.neq tok rfl rfl rfl rfl rfl (by kernel_rfl) ?_
      | refine AL.max rfl rfl rfl rfl ?_
      | refine AL.buildSlice tok rfl rfl rfl rfl rfl rfl rfl rfl ?_
      | refine AL.min rfl rfl rfl rfl ?_
      | refine AL.idxM tok rfl rfl rfl rfl rfl rfl (fun _ => rfl) (by first | omega | decide) ?_
      | refine AL.idxMI tok rfl rfl rfl rfl rfl rfl (fun _ => rfl) (by omega) (by omega) ?_
      | refine AL.v rfl rfl (VOp.cutTo tok rfl rfl rfl (fun _ => rfl) rfl (by omega)) ?_
      | refine AL.v rfl rfl (VOp.cutFrom tok rfl rfl rfl (fun _ => rfl) rfl (by omega)) ?_
      | refine AL.v rfl rfl (VOp.cutS tok rfl rfl rfl rfl (by omega) (by omega)) ?_
      | refine AL.v rfl rfl (VOp.cutSF tok rfl rfl rfl (by omega)) ?_
      | refine AL.v rfl rfl (VOp.cutST tok rfl rfl rfl (by omega)) ?_
      | refine AL.v rfl rfl (VOp.joinS rfl rfl (by omega)) ?_
      | refine AL.idxON tok rfl rfl rfl rfl rfl rfl rfl rfl (by first | omega | (simp; omega) | (simp; done) | decide) ?_
      | refine AL.loadRM tok rfl rfl rfl rfl (by first | omega | (simp; omega)) rfl ?_
      | refine AL.loadR tok rfl rfl rfl rfl rfl rfl ?_
      | refine AL.sidxN tok rfl rfl rfl rfl rfl (by omega) ?_
      | refine AL.sidx tok rfl rfl rfl rfl rfl (by omega) (by omega) ?_
      | refine AL.range tok rfl rfl rfl rfl ?_
      | refine AW.block ?_
      | refine AW.exit ?_
      | refine AW.skip ?_)
      refine H2 _ x ?_
      (refine Imp.weak id (fun _ _ _ _ h => h) (by first | assumption | (intro b hb; cases hb)) ?_ ?_ <;> (repeat' (first
      | exact trivial
      | exact Nat.lt_of_lt_of_le (Nat.lt_succ_self _) (Nat.le_of_ble_eq_true rfl)
      | exact rfl
      | exact Or.inl ⟨rfl, rfl⟩
      | exact Or.inr ⟨rfl, LF.fn _ _ ‹_›⟩
      | refine ⟨?_, ?_⟩)))))
  clear hK
  refine AW.loop (ι := Nat) (fun i => ⟨143, [(25, i64 i), (24, i64 l.length), (23, rowC l), (7, i64 (cntM q l i : Nat)), (6, bo false), (0, rowC l), (1, st q), (2, i64 last0)], [], [], 0⟩)
    (fun i => i ≤ l.length ∧ DistT l i) (fun i => l.length - i) 0 (And.intro (Nat.zero_le _) (fun j k hj hk h1 h2 => by omega)) ?_ ?_
  · (refine Imp.weak id (fun _ _ _ _ h => h) (by first | assumption | (intro b hb; cases hb)) ?_ ?_ <;> (repeat' (first
      | exact trivial
      | exact Nat.lt_of_lt_of_le (Nat.lt_succ_self _) (Nat.le_of_ble_eq_true rfl)
      | exact rfl
      | exact Or.inl ⟨rfl, rfl⟩
      | exact Or.inr ⟨rfl, LF.fn _ _ ‹_›⟩
      | refine ⟨?_, ?_⟩)))
  rintro i ⟨hi, hd⟩ K1 hK1
  have hcl : cntM q l i ≤ 32 := by
    have := List.countP_le_length (p := mayB q) (l := l.take i)
    simp at this
    unfold cntM
    omega
  by_cases hlt : i < l.length
  · repeat (first
      | refine AL.do tok rfl rfl ?_
      | refine AL.nil ?_
      | refine AW.seq fun K hK => ?_
      | refine AW.region ?_
      | refine AL.no rfl rfl ?_
      | (refine hK _ ?_; clear hK)
      | (clear hK; refine hK _ ?_; clear hK)
      | (clear hK; clear hK; refine hK _ ?_; clear hK)
      | refine AL.add rfl rfl rfl rfl (by constructor <;> omega) ?_
      | refine AL.sub rfl rfl rfl rfl (by constructor <;> omega) ?_
      | refine AL.neg rfl rfl rfl (by constructor <;> omega) ?_
      | refine AL.eq tok rfl rfl rfl rfl rfl (by kernel_rfl) ?_
      | refine AL.neq tok rfl rfl rfl rfl rfl (by kernel_rfl) ?_
      | refine AL.max rfl rfl rfl rfl ?_
      | refine AL.buildSlice tok rfl rfl rfl rfl rfl rfl rfl rfl ?_
      | refine AL.min rfl rfl rfl rfl ?_
      | refine AL.idxM tok rfl rfl rfl rfl rfl rfl (fun _ => rfl) (by first | omega | decide) ?_
      | refine AL.idxMI tok rfl rfl rfl rfl rfl rfl (fun _ => rfl) (by omega) (by omega) ?_
      | refine AL.v rfl rfl (VOp.cutTo tok rfl rfl rfl (fun _ => rfl) rfl (by omega)) ?_
      | refine AL.v rfl rfl (VOp.cutFrom tok rfl rfl rfl (fun _ => rfl) rfl (by omega)) ?_
      | refine AL.v rfl rfl (VOp.cutS tok rfl rfl rfl rfl (by omega) (by omega)) ?_
      | refine AL.v rfl rfl (VOp.cutSF tok rfl rfl rfl (by omega)) ?_
      | refine AL.v rfl rfl (VOp.cutST tok rfl rfl rfl (by omega)) ?_
      | refine AL.v rfl rfl (VOp.joinS rfl rfl (by omega)) ?_
      | refine AL.idxON tok rfl rfl rfl rfl rfl rfl rfl rfl (by first | omega | (simp; omega) | (simp; done) | decide) ?_
      | refine AL.loadRM tok rfl rfl rfl rfl (by first | omega | (simp; omega)) rfl ?_
      | refine AL.loadR tok rfl rfl rfl rfl rfl rfl ?_
      | refine AL.sidxN tok rfl rfl rfl rfl rfl (by omega) ?_
      | refine AL.sidx tok rfl rfl rfl rfl rfl (by omega) (by omega) ?_
      | refine AL.range tok rfl rfl rfl rfl ?_
      | refine AW.block ?_
      | refine AW.exit ?_
      | refine AW.skip ?_)
    refine AW.cond rfl (fun hg => ?_) (fun hg => by simp at hg; omega)
    repeat (first
      | refine AL.do tok rfl rfl ?_
      | refine AL.nil ?_
      | refine AW.seq fun K hK => ?_
      | refine AW.region ?_
      | refine AL.no rfl rfl ?_
      | (refine hK _ ?_; clear hK)
      | (clear hK; refine hK _ ?_; clear hK)
      | (clear hK; clear hK; refine hK _ ?_; clear hK)
      | refine AL.add rfl rfl rfl rfl (by constructor <;> omega) ?_
      | refine AL.sub rfl rfl rfl rfl (by constructor <;> omega) ?_
      | refine AL.neg rfl rfl rfl (by constructor <;> omega) ?_
      | refine AL.eq tok rfl rfl rfl rfl rfl (by kernel_rfl) ?_
      | refine AL.neq tok rfl rfl rfl rfl rfl (by kernel_rfl) ?_
      | refine AL.max rfl rfl rfl rfl ?_
      | refine AL.buildSlice tok rfl rfl rfl rfl rfl rfl rfl rfl ?_
      | refine AL.min rfl rfl rfl rfl ?_
      | refine AL.idxM tok rfl rfl rfl rfl rfl rfl (fun _ => rfl) (by first | omega | decide) ?_
      | refine AL.idxMI tok rfl rfl rfl rfl rfl rfl (fun _ => rfl) (by omega) (by omega) ?_
      | refine AL.v rfl rfl (VOp.cutTo tok rfl rfl rfl (fun _ => rfl) rfl (by omega)) ?_
      | refine AL.v rfl rfl (VOp.cutFrom tok rfl rfl rfl (fun _ => rfl) rfl (by omega)) ?_
      | refine AL.v rfl rfl (VOp.cutS tok rfl rfl rfl rfl (by omega) (by omega)) ?_
      | refine AL.v rfl rfl (VOp.cutSF tok rfl rfl rfl (by omega)) ?_
      | refine AL.v rfl rfl (VOp.cutST tok rfl rfl rfl (by omega)) ?_
      | refine AL.v rfl rfl (VOp.joinS rfl rfl (by omega)) ?_
      | refine AL.idxON tok rfl rfl rfl rfl rfl rfl rfl rfl (by first | omega | (simp; omega) | (simp; done) | decide) ?_
      | refine AL.loadRM tok rfl rfl rfl rfl (by first | omega | (simp; omega)) rfl ?_
      | refine AL.loadR tok rfl rfl rfl rfl rfl rfl ?_
      | refine AL.sidxN tok rfl rfl rfl rfl rfl (by omega) ?_
      | refine AL.sidx tok rfl rfl rfl rfl rfl (by omega) (by omega) ?_
      | refine AL.range tok rfl rfl rfl rfl ?_
      | refine AW.block ?_
      | refine AW.exit ?_
      | refine AW.skip ?_)
    simp only [List.length_map, List.length_take, Nat.min_eq_left hi]
    have hit : (l.take i).length = i := by simp; omega
    refine AW.loop (ι := Nat) (fun k => ⟨143, [(34, i64 k), (33, i64 i), (32, rowC (l.take i)), (9, .ptr (.loc 0) 0), (25, i64 i), (24, i64 l.length), (23, rowC l), (7, i64 (cntM q l i : Nat)), (6, bo false), (0, rowC l), (1, st q), (2, i64 last0)], [(0, some (.box 25 [i64 l[i].tag, i64 l[i].conn, st l[i].queue, i64 l[i].prefetch, i64 l[i].unacked]))], [], 1⟩)
      (fun k => k ≤ i ∧ ∀ j (hj : j < l.length), j < k → l[j].tag ≠ l[i].tag) (fun k => i - k) 0 (And.intro (Nat.zero_le _) (fun j hj h => by omega)) ?_ ?_
    · (refine Imp.weak id (fun _ _ _ _ h => h) (by first | assumption | (intro b hb; cases hb)) ?_ ?_ <;> (repeat' (first
      | exact trivial
      | exact Nat.lt_of_lt_of_le (Nat.lt_succ_self _) (Nat.le_of_ble_eq_true rfl)
      | exact rfl
      | exact Or.inl ⟨rfl, rfl⟩
      | exact Or.inr ⟨rfl, LF.fn _ _ ‹_›⟩
      | refine ⟨?_, ?_⟩)))
    rintro k ⟨hk, hkd⟩ K2 hK2
    by_cases hki : k < i
    · have hkl : k < l.length := by omega
      repeat (first
      | refine AL.do tok rfl rfl ?_
      | refine AL.nil ?_
      | refine AW.seq fun K hK => ?_
      | refine AW.region ?_
      | refine AL.no rfl rfl ?_
      | (refine hK _ ?_; clear hK)
      | (clear hK; refine hK _ ?_; clear hK)
      | (clear hK; clear hK; refine hK _ ?_; clear hK)
      | refine AL.add rfl rfl rfl rfl (by constructor <;> omega) ?_
      | refine AL.sub rfl rfl rfl rfl (by constructor <;> omega) ?_
      | refine AL.neg rfl rfl rfl (by constructor <;> omega) ?_
      | refine AL.eq tok rfl rfl rfl rfl rfl (by kernel_rfl) ?_
      | refine AL.neq tok rfl rfl rfl rfl rfl (by kernel_rfl) ?_
      | refine AL.max rfl rfl rfl rfl ?_
      | refine AL.buildSlice tok rfl rfl rfl rfl rfl rfl rfl rfl ?_
      | refine AL.min rfl rfl rfl rfl ?_
      | refine AL.idxM tok rfl rfl rfl rfl rfl rfl (fun _ => rfl) (by first | omega | decide) ?_
      | refine AL.idxMI tok rfl rfl rfl rfl rfl rfl (fun _ => rfl) (by omega) (by omega) ?_
      | refine AL.v rfl rfl (VOp.cutTo tok rfl rfl rfl (fun _ => rfl) rfl (by omega)) ?_
      | refine AL.v rfl rfl (VOp.cutFrom tok rfl rfl rfl (fun _ => rfl) rfl (by omega)) ?_
      | refine AL.v rfl rfl (VOp.cutS tok rfl rfl rfl rfl (by omega) (by omega)) ?_
      | refine AL.v rfl rfl (VOp.cutSF tok rfl rfl rfl (by omega)) ?_
      | refine AL.v rfl rfl (VOp.cutST tok rfl rfl rfl (by omega)) ?_
      | refine AL.v rfl rfl (VOp.joinS rfl rfl (by omega)) ?_
      | refine AL.idxON tok rfl rfl rfl rfl rfl rfl rfl rfl (by first | omega | (simp; omega) | (simp; done) | decide) ?_
      | refine AL.loadRM tok rfl rfl rfl rfl (by first | omega | (simp; omega)) rfl ?_
      | refine AL.loadR tok rfl rfl rfl rfl rfl rfl ?_
      | refine AL.sidxN tok rfl rfl rfl rfl rfl (by omega) ?_
      | refine AL.sidx tok rfl rfl rfl rfl rfl (by omega) (by omega) ?_
      | refine AL.range tok rfl rfl rfl rfl ?_
      | refine AW.block ?_
      | refine AW.exit ?_
      | refine AW.skip ?_)
      refine AW.cond rfl (fun hg => ?_) (fun hg => by simp at hg; omega)
      repeat (first
      | refine AL.do tok rfl rfl ?_
      | refine AL.nil ?_
      | refine AW.seq fun K hK => ?_
      | refine AW.region ?_
      | refine AL.no rfl rfl ?_
      | (refine hK _ ?_; clear hK)
      | (clear hK; refine hK _ ?_; clear hK)
      | (clear hK; clear hK; refine hK _ ?_; clear hK)
      | refine AL.add rfl rfl rfl rfl (by constructor <;> omega) ?_
      | refine AL.sub rfl rfl rfl rfl (by constructor <;> omega) ?_
      | refine AL.neg rfl rfl rfl (by constructor <;> omega) ?_
      | refine AL.eq tok rfl rfl rfl rfl rfl (by kernel_rfl) ?_
      | refine AL.neq tok rfl rfl rfl rfl rfl (by kernel_rfl) ?_
      | refine AL.max rfl rfl rfl rfl ?_
      | refine AL.buildSlice tok rfl rfl rfl rfl rfl rfl rfl rfl ?_
      | refine AL.min rfl rfl rfl rfl ?_
      | refine AL.idxM tok rfl rfl rfl rfl rfl rfl (fun _ => rfl) (by first | omega | decide) ?_
      | refine AL.idxMI tok rfl rfl rfl rfl rfl rfl (fun _ => rfl) (by omega) (by omega) ?_
      | refine AL.v rfl rfl (VOp.cutTo tok rfl rfl rfl (fun _ => rfl) rfl (by omega)) ?_
      | refine AL.v rfl rfl (VOp.cutFrom tok rfl rfl rfl (fun _ => rfl) rfl (by omega)) ?_
      | refine AL.v rfl rfl (VOp.cutS tok rfl rfl rfl rfl (by omega) (by omega)) ?_
      | refine AL.v rfl rfl (VOp.cutSF tok rfl rfl rfl (by omega)) ?_
      | refine AL.v rfl rfl (VOp.cutST tok rfl rfl rfl (by omega)) ?_
      | refine AL.v rfl rfl (VOp.joinS rfl rfl (by omega)) ?_
      | refine AL.idxON tok rfl rfl rfl rfl rfl rfl rfl rfl (by first | omega | (simp; omega) | (simp; done) | decide) ?_
      | refine AL.loadRM tok rfl rfl rfl rfl (by first | omega | (simp; omega)) rfl ?_
      | refine AL.loadR tok rfl rfl rfl rfl rfl rfl ?_
      | refine AL.sidxN tok rfl rfl rfl rfl rfl (by omega) ?_
      | refine AL.sidx tok rfl rfl rfl rfl rfl (by omega) (by omega) ?_
      | refine AL.range tok rfl rfl rfl rfl ?_
      | refine AW.block ?_
      | refine AW.exit ?_
      | refine AW.skip ?_)
      have hkt : (l.take i)[k] = l[k] := List.getElem_take
      repeat' (first
      | refine AL.do tok rfl rfl ?_
      | refine AL.nil ?_
      | refine AW.seq fun K hK => ?_
      | refine AW.region ?_
      | refine AL.no rfl rfl ?_
      | (refine hK _ ?_; clear hK)
      | (clear hK; refine hK _ ?_; clear hK)
      | (clear hK; clear hK; refine hK _ ?_; clear hK)
      | refine AL.add rfl rfl rfl rfl (by constructor <;> omega) ?_
      | refine AL.sub rfl rfl rfl rfl (by constructor <;> omega) ?_
      | refine AL.neg rfl rfl rfl (by constructor <;> omega) ?_
      | refine AL.eq tok rfl rfl rfl rfl rfl (by kernel_rfl) ?_
      | refine AL.neq tok rfl rfl rfl rfl rfl (by kernel_rfl) ?_
      | refine AL.max rfl rfl rfl rfl ?_
      | refine AL.buildSlice tok rfl rfl rfl rfl rfl rfl rfl rfl ?_
      | refine AL.min rfl rfl rfl rfl ?_
      | refine AL.idxM tok rfl rfl rfl rfl rfl rfl (fun _ => rfl) (by first | omega | decide) ?_
      | refine AL.idxMI tok rfl rfl rfl rfl rfl rfl (fun _ => rfl) (by omega) (by omega) ?_
      | refine AL.v rfl rfl (VOp.cutTo tok rfl rfl rfl (fun _ => rfl) rfl (by omega)) ?_
      | refine AL.v rfl rfl (VOp.cutFrom tok rfl rfl rfl (fun _ => rfl) rfl (by omega)) ?_
      | refine AL.v rfl rfl (VOp.cutS tok rfl rfl rfl rfl (by omega) (by omega)) ?_
      | refine AL.v rfl rfl (VOp.cutSF tok rfl rfl rfl (by omega)) ?_
      | refine AL.v rfl rfl (VOp.cutST tok rfl rfl rfl (by omega)) ?_
      | refine AL.v rfl rfl (VOp.joinS rfl rfl (by omega)) ?_
      | refine AL.idxON tok rfl rfl rfl rfl rfl rfl rfl rfl (by first | omega | (simp; omega) | (simp; done) | decide) ?_
      | refine AL.loadRM tok rfl rfl rfl rfl (by first | omega | (simp; omega)) rfl ?_
      | refine AL.loadR tok rfl rfl rfl rfl rfl rfl ?_
      | refine AL.sidxN tok rfl rfl rfl rfl rfl (by omega) ?_
      | refine AL.sidx tok rfl rfl rfl rfl rfl (by omega) (by omega) ?_
      | refine AL.range tok rfl rfl rfl rfl ?_
      | refine AW.block ?_
      | refine AW.exit ?_
      | refine AW.skip ?_
      | refine AL.callS rfl rfl rfl rfl rfl rfl (example_calls ..) rfl ?_
      | refine AL.callP rfl rfl rfl rfl rfl (example_calls ..) ?_
      | ((fail_if_success (refine AL.guard (b := true) rfl rfl ?_ ?_)); (fail_if_success (refine AL.guard (b := false) rfl rfl ?_ ?_)); refine AL.guard rfl rfl (fun hg => ?_) (fun hg => ?_) <;> ((try simp only [decide_eq_true_eq, decide_eq_false_iff_not, Bool.not_eq_true', Bool.not_eq_false', Bool.and_eq_true, Bool.or_eq_true, Bool.and_eq_false_iff, Bool.or_eq_false_iff, Bool.false_eq_true, Bool.true_eq_false, not_true_eq_false, not_false_eq_true, true_iff, iff_true, false_iff, iff_false, Int.toNat_zero, Int.toNat_natCast, Int.not_lt, Int.not_le] at hg) <;> (try first | (exfalso; omega) | exact absurd trivial hg | exact False.elim hg | exact absurd rfl hg)))
      | refine AW.condT rfl ?_
      | refine AW.condF rfl ?_
      | (refine AW.cond rfl (fun hg => ?_) (fun hg => ?_) <;> ((try simp only [decide_eq_true_eq, decide_eq_false_iff_not, Bool.not_eq_true', Bool.not_eq_false', Bool.and_eq_true, Bool.or_eq_true, Bool.and_eq_false_iff, Bool.or_eq_false_iff, Bool.false_eq_true, Bool.true_eq_false, not_true_eq_false, not_false_eq_true, true_iff, iff_true, false_iff, iff_false, Int.toNat_zero, Int.toNat_natCast, Int.not_lt, Int.not_le] at hg) <;> (try first | (exfalso; omega) | exact absurd trivial hg | exact False.elim hg | exact absurd rfl hg)))
      | refine AW.ret ?_)
      · refine ⟨_, _, _, _, rfl, Out.pure rfl ⟨?_, rfl⟩ rfl⟩
        rfl
      · refine hK2 _ (k + 1) (And.intro (by omega) (fun j hj hjk => ?_)) (by omega) ?_
        · by_cases e : j = k
          · subst e
            rw [← hkt]
            exact hg
          · exact hkd j hj (by omega)
        · (refine Imp.weak id (fun _ _ _ _ h => h) (by first | assumption | (intro b hb; cases hb)) ?_ ?_ <;> (repeat' (first
      | exact trivial
      | exact Nat.lt_of_lt_of_le (Nat.lt_succ_self _) (Nat.le_of_ble_eq_true rfl)
      | exact rfl
      | exact Or.inl ⟨rfl, rfl⟩
      | exact Or.inr ⟨rfl, LF.fn _ _ ‹_›⟩
      | refine ⟨?_, ?_⟩)))
    · have hd2 : DistT l (i + 1) := fun j k' hj hk' h1 h2 => by
        by_cases e : k' = i
        · subst e
          exact hkd j hj (by omega)
        · exact hd j k' hj hk' h1 (by omega)
      have hmb : mayB q l[i] = (decide (l[i].queue = q) && (decide (l[i].prefetch = 0) || decide (l[i].unacked < l[i].prefetch))) := rfl
      have hcs := cntM_succ (q := q) hlt
      repeat (first
      | refine AL.do tok rfl rfl ?_
      | refine AL.nil ?_
      | refine AW.seq fun K hK => ?_
      | refine AW.region ?_
      | refine AL.no rfl rfl ?_
      | (refine hK _ ?_; clear hK)
      | (clear hK; refine hK _ ?_; clear hK)
      | (clear hK; clear hK; refine hK _ ?_; clear hK)
      | refine AL.add rfl rfl rfl rfl (by constructor <;> omega) ?_
      | refine AL.sub rfl rfl rfl rfl (by constructor <;> omega) ?_
      | refine AL.neg rfl rfl rfl (by constructor <;> omega) ?_
      | refine AL.eq tok rfl rfl rfl rfl rfl (by kernel_rfl) ?_
      | refine AL.neq tok rfl rfl rfl rfl rfl (by kernel_rfl) ?_
      | refine AL.max rfl rfl rfl rfl ?_
      | refine AL.buildSlice tok rfl rfl rfl rfl rfl rfl rfl rfl ?_
      | refine AL.min rfl rfl rfl rfl ?_
      | refine AL.idxM tok rfl rfl rfl rfl rfl rfl (fun _ => rfl) (by first | omega | decide) ?_
      | refine AL.idxMI tok rfl rfl rfl rfl rfl rfl (fun _ => rfl) (by omega) (by omega) ?_
      | refine AL.v rfl rfl (VOp.cutTo tok rfl rfl rfl (fun _ => rfl) rfl (by omega)) ?_
      | refine AL.v rfl rfl (VOp.cutFrom tok rfl rfl rfl (fun _ => rfl) rfl (by omega)) ?_
      | refine AL.v rfl rfl (VOp.cutS tok rfl rfl rfl rfl (by omega) (by omega)) ?_
      | refine AL.v rfl rfl (VOp.cutSF tok rfl rfl rfl (by omega)) ?_
      | refine AL.v rfl rfl (VOp.cutST tok rfl rfl rfl (by omega)) ?_
      | refine AL.v rfl rfl (VOp.joinS rfl rfl (by omega)) ?_
      | refine AL.idxON tok rfl rfl rfl rfl rfl rfl rfl rfl (by first | omega | (simp; omega) | (simp; done) | decide) ?_
      | refine AL.loadRM tok rfl rfl rfl rfl (by first | omega | (simp; omega)) rfl ?_
      | refine AL.loadR tok rfl rfl rfl rfl rfl rfl ?_
      | refine AL.sidxN tok rfl rfl rfl rfl rfl (by omega) ?_
      | refine AL.sidx tok rfl rfl rfl rfl rfl (by omega) (by omega) ?_
      | refine AL.range tok rfl rfl rfl rfl ?_
      | refine AW.block ?_
      | refine AW.exit ?_
      | refine AW.skip ?_)
      refine AW.cond rfl (fun hg => by simp at hg; omega) (fun hg => ?_)
      repeat (first
      | refine AL.do tok rfl rfl ?_
      | refine AL.nil ?_
      | refine AW.seq fun K hK => ?_
      | refine AW.region ?_
      | refine AL.no rfl rfl ?_
      | (refine hK _ ?_; clear hK)
      | (clear hK; refine hK _ ?_; clear hK)
      | (clear hK; clear hK; refine hK _ ?_; clear hK)
      | refine AL.add rfl rfl rfl rfl (by constructor <;> omega) ?_
      | refine AL.sub rfl rfl rfl rfl (by constructor <;> omega) ?_
      | refine AL.neg rfl rfl rfl (by constructor <;> omega) ?_
      | refine AL.eq tok rfl rfl rfl rfl rfl (by kernel_rfl) ?_
      | refine AL.neq tok rfl rfl rfl rfl rfl (by kernel_rfl) ?_
      | refine AL.max rfl rfl rfl rfl ?_
      | refine AL.buildSlice tok rfl rfl rfl rfl rfl rfl rfl rfl ?_
      | refine AL.min rfl rfl rfl rfl ?_
      | refine AL.idxM tok rfl rfl rfl rfl rfl rfl (fun _ => rfl) (by first | omega | decide) ?_
      | refine AL.idxMI tok rfl rfl rfl rfl rfl rfl (fun _ => rfl) (by omega) (by omega) ?_
      | refine AL.v rfl rfl (VOp.cutTo tok rfl rfl rfl (fun _ => rfl) rfl (by omega)) ?_
      | refine AL.v rfl rfl (VOp.cutFrom tok rfl rfl rfl (fun _ => rfl) rfl (by omega)) ?_
      | refine AL.v rfl rfl (VOp.cutS tok rfl rfl rfl rfl (by omega) (by omega)) ?_
      | refine AL.v rfl rfl (VOp.cutSF tok rfl rfl rfl (by omega)) ?_
      | refine AL.v rfl rfl (VOp.cutST tok rfl rfl rfl (by omega)) ?_
      | refine AL.v rfl rfl (VOp.joinS rfl rfl (by omega)) ?_
      | refine AL.idxON tok rfl rfl rfl rfl rfl rfl rfl rfl (by first | omega | (simp; omega) | (simp; done) | decide) ?_
      | refine AL.loadRM tok rfl rfl rfl rfl (by first | omega | (simp; omega)) rfl ?_
      | refine AL.loadR tok rfl rfl rfl rfl rfl rfl ?_
      | refine AL.sidxN tok rfl rfl rfl rfl rfl (by omega) ?_
      | refine AL.sidx tok rfl rfl rfl rfl rfl (by omega) (by omega) ?_
      | refine AL.range tok rfl rfl rfl rfl ?_
      | refine AW.block ?_
      | refine AW.exit ?_
      | refine AW.skip ?_)
      repeat' (first
      | refine AL.do tok rfl rfl ?_
      | refine AL.nil ?_
      | refine AW.seq fun K hK => ?_
      | refine AW.region ?_
      | refine AL.no rfl rfl ?_
      | (refine hK _ ?_; clear hK)
      | (clear hK; refine hK _ ?_; clear hK)
      | (clear hK; clear hK; refine hK _ ?_; clear hK)
      | refine AL.add rfl rfl rfl rfl (by constructor <;> omega) ?_
      | refine AL.sub rfl rfl rfl rfl (by constructor <;> omega) ?_
      | refine AL.neg rfl rfl rfl (by constructor <;> omega) ?_
      | refine AL.eq tok rfl rfl rfl rfl rfl (by kernel_rfl) ?_
      | refine AL.neq tok rfl rfl rfl rfl rfl (by kernel_rfl) ?_
      | refine AL.max rfl rfl rfl rfl ?_
      | refine AL.buildSlice tok rfl rfl rfl rfl rfl rfl rfl rfl ?_
      | refine AL.min rfl rfl rfl rfl ?_
      | refine AL.idxM tok rfl rfl rfl rfl rfl rfl (fun _ => rfl) (by first | omega | decide) ?_
      | refine AL.idxMI tok rfl rfl rfl rfl rfl rfl (fun _ => rfl) (by omega) (by omega) ?_
      | refine AL.v rfl rfl (VOp.cutTo tok rfl rfl rfl (fun _ => rfl) rfl (by omega)) ?_
      | refine AL.v rfl rfl (VOp.cutFrom tok rfl rfl rfl (fun _ => rfl) rfl (by omega)) ?_
      | refine AL.v rfl rfl (VOp.cutS tok rfl rfl rfl rfl (by omega) (by omega)) ?_
      | refine AL.v rfl rfl (VOp.cutSF tok rfl rfl rfl (by omega)) ?_
      | refine AL.v rfl rfl (VOp.cutST tok rfl rfl rfl (by omega)) ?_
      | refine AL.v rfl rfl (VOp.joinS rfl rfl (by omega)) ?_
      | refine AL.idxON tok rfl rfl rfl rfl rfl rfl rfl rfl (by first | omega | (simp; omega) | (simp; done) | decide) ?_
      | refine AL.loadRM tok rfl rfl rfl rfl (by first | omega | (simp; omega)) rfl ?_
      | refine AL.loadR tok rfl rfl rfl rfl rfl rfl ?_
      | refine AL.sidxN tok rfl rfl rfl rfl rfl (by omega) ?_
      | refine AL.sidx tok rfl rfl rfl rfl rfl (by omega) (by omega) ?_
      | refine AL.range tok rfl rfl rfl rfl ?_
      | refine AW.block ?_
      | refine AW.exit ?_
      | refine AW.skip ?_
      | refine AL.callS rfl rfl rfl rfl rfl rfl (refReady_calls ..) rfl ?_
      | refine AL.callP rfl rfl rfl rfl rfl (refReady_calls ..) ?_
      | ((fail_if_success (refine AL.guard (b := true) rfl rfl ?_ ?_)); (fail_if_success (refine AL.guard (b := false) rfl rfl ?_ ?_)); refine AL.guard rfl rfl (fun hg => ?_) (fun hg => ?_) <;> ((try simp only [decide_eq_true_eq, decide_eq_false_iff_not, Bool.not_eq_true', Bool.not_eq_false', Bool.and_eq_true, Bool.or_eq_true, Bool.and_eq_false_iff, Bool.or_eq_false_iff, Bool.false_eq_true, Bool.true_eq_false, not_true_eq_false, not_false_eq_true, true_iff, iff_true, false_iff, iff_false, Int.toNat_zero, Int.toNat_natCast, Int.not_lt, Int.not_le] at hg) <;> (try first | (exfalso; omega) | exact absurd trivial hg | exact False.elim hg | exact absurd rfl hg)))
      | refine AW.condT rfl ?_
      | refine AW.condF rfl ?_
      | (refine AW.cond rfl (fun hg => ?_) (fun hg => ?_) <;> ((try simp only [decide_eq_true_eq, decide_eq_false_iff_not, Bool.not_eq_true', Bool.not_eq_false', Bool.and_eq_true, Bool.or_eq_true, Bool.and_eq_false_iff, Bool.or_eq_false_iff, Bool.false_eq_true, Bool.true_eq_false, not_true_eq_false, not_false_eq_true, true_iff, iff_true, false_iff, iff_false, Int.toNat_zero, Int.toNat_natCast, Int.not_lt, Int.not_le] at hg) <;> (try first | (exfalso; omega) | exact absurd trivial hg | exact False.elim hg | exact absurd rfl hg)))
      | refine AW.ret ?_)
      · have hm : mayB q l[i] = true := by rw [hmb]; simp [*]
        have e : ((cntM q l i : Nat) : Int) + 1 = ((cntM q l (i + 1) : Nat) : Int) := by rw [hcs, hm]; simp
        rw [e]
        refine hK1 _ (i + 1) (And.intro (by omega) hd2) (by omega) ?_
        (refine Imp.weak id (fun _ _ _ _ h => h) (by first | assumption | (intro b hb; cases hb)) ?_ ?_ <;> (repeat' (first
      | exact trivial
      | exact Nat.lt_of_lt_of_le (Nat.lt_succ_self _) (Nat.le_of_ble_eq_true rfl)
      | exact rfl
      | exact Or.inl ⟨rfl, rfl⟩
      | exact Or.inr ⟨rfl, LF.fn _ _ ‹_›⟩
      | refine ⟨?_, ?_⟩)))
      · have hm : mayB q l[i] = false := by rw [hmb, Bool.eq_false_iff]; simp [*]
        have e : cntM q l i = cntM q l (i + 1) := by rw [hcs, hm]; simp
        rw [e]
        refine hK1 _ (i + 1) (And.intro (by omega) hd2) (by omega) ?_
        (refine Imp.weak id (fun _ _ _ _ h => h) (by first | assumption | (intro b hb; cases hb)) ?_ ?_ <;> (repeat' (first
      | exact trivial
      | exact Nat.lt_of_lt_of_le (Nat.lt_succ_self _) (Nat.le_of_ble_eq_true rfl)
      | exact rfl
      | exact Or.inl ⟨rfl, rfl⟩
      | exact Or.inr ⟨rfl, LF.fn _ _ ‹_›⟩
      | refine ⟨?_, ?_⟩)))
      · have hm : mayB q l[i] = false := by rw [hmb, Bool.eq_false_iff]; simp [*]
        have e : cntM q l i = cntM q l (i + 1) := by rw [hcs, hm]; simp
        rw [e]
        refine hK1 _ (i + 1) (And.intro (by omega) hd2) (by omega) ?_
        (refine Imp.weak id (fun _ _ _ _ h => h) (by first | assumption | (intro b hb; cases hb)) ?_ ?_ <;> (repeat' (first
      | exact trivial
      | exact Nat.lt_of_lt_of_le (Nat.lt_succ_self _) (Nat.le_of_ble_eq_true rfl)
      | exact rfl
      | exact Or.inl ⟨rfl, rfl⟩
      | exact Or.inr ⟨rfl, LF.fn _ _ ‹_›⟩
      | refine ⟨?_, ?_⟩)))
  · have hil : i = l.length := by omega
    subst hil
    repeat (first
      | refine AL.do tok rfl rfl ?_
      | refine AL.nil ?_
      | refine AW.seq fun K hK => ?_
      | refine AW.region ?_
      | refine AL.no rfl rfl ?_
      | (refine hK _ ?_; clear hK)
      | (clear hK; refine hK _ ?_; clear hK)
      | (clear hK; clear hK; refine hK _ ?_; clear hK)
      | refine AL.add rfl rfl rfl rfl (by constructor <;> omega) ?_
      | refine AL.sub rfl rfl rfl rfl (by constructor <;> omega) ?_
      | refine AL.neg rfl rfl rfl (by constructor <;> omega) ?_
      | refine AL.eq tok rfl rfl rfl rfl rfl (by kernel_rfl) ?_
      | refine AL.neq tok rfl rfl rfl rfl rfl (by kernel_rfl) ?_
      | refine AL.max rfl rfl rfl rfl ?_
      | refine AL.buildSlice tok rfl rfl rfl rfl rfl rfl rfl rfl ?_
      | refine AL.min rfl rfl rfl rfl ?_
      | refine AL.idxM tok rfl rfl rfl rfl rfl rfl (fun _ => rfl) (by first | omega | decide) ?_
      | refine AL.idxMI tok rfl rfl rfl rfl rfl rfl (fun _ => rfl) (by omega) (by omega) ?_
      | refine AL.v rfl rfl (VOp.cutTo tok rfl rfl rfl (fun _ => rfl) rfl (by omega)) ?_
      | refine AL.v rfl rfl (VOp.cutFrom tok rfl rfl rfl (fun _ => rfl) rfl (by omega)) ?_
      | refine AL.v rfl rfl (VOp.cutS tok rfl rfl rfl rfl (by omega) (by omega)) ?_
      | refine AL.v rfl rfl (VOp.cutSF tok rfl rfl rfl (by omega)) ?_
      | refine AL.v rfl rfl (VOp.cutST tok rfl rfl rfl (by omega)) ?_
      | refine AL.v rfl rfl (VOp.joinS rfl rfl (by omega)) ?_
      | refine AL.idxON tok rfl rfl rfl rfl rfl rfl rfl rfl (by first | omega | (simp; omega) | (simp; done) | decide) ?_
      | refine AL.loadRM tok rfl rfl rfl rfl (by first | omega | (simp; omega)) rfl ?_
      | refine AL.loadR tok rfl rfl rfl rfl rfl rfl ?_
      | refine AL.sidxN tok rfl rfl rfl rfl rfl (by omega) ?_
      | refine AL.sidx tok rfl rfl rfl rfl rfl (by omega) (by omega) ?_
      | refine AL.range tok rfl rfl rfl rfl ?_
      | refine AW.block ?_
      | refine AW.exit ?_
      | refine AW.skip ?_)
    refine AW.cond rfl (fun hg => by simp at hg) (fun hg => ?_)
    repeat (first
      | refine AL.do tok rfl rfl ?_
      | refine AL.nil ?_
      | refine AW.seq fun K hK => ?_
      | refine AW.region ?_
      | refine AL.no rfl rfl ?_
      | (refine hK _ ?_; clear hK)
      | (clear hK; refine hK _ ?_; clear hK)
      | (clear hK; clear hK; refine hK _ ?_; clear hK)
      | refine AL.add rfl rfl rfl rfl (by constructor <;> omega) ?_
      | refine AL.sub rfl rfl rfl rfl (by constructor <;> omega) ?_
      | refine AL.neg rfl rfl rfl (by constructor <;> omega) ?_
      | refine AL.eq tok rfl rfl rfl rfl rfl (by kernel_rfl) ?_
      | refine AL.neq tok rfl rfl rfl rfl rfl (by kernel_rfl) ?_
      | refine AL.max rfl rfl rfl rfl ?_
      | refine AL.buildSlice tok rfl rfl rfl rfl rfl rfl rfl rfl ?_
      | refine AL.min rfl rfl rfl rfl ?_
      | refine AL.idxM tok rfl rfl rfl rfl rfl rfl (fun _ => rfl) (by first | omega | decide) ?_
      | refine AL.idxMI tok rfl rfl rfl rfl rfl rfl (fun _ => rfl) (by omega) (by omega) ?_
      | refine AL.v rfl rfl (VOp.cutTo tok rfl rfl rfl (fun _ => rfl) rfl (by omega)) ?_
      | refine AL.v rfl rfl (VOp.cutFrom tok rfl rfl rfl (fun _ => rfl) rfl (by omega)) ?_
      | refine AL.v rfl rfl (VOp.cutS tok rfl rfl rfl rfl (by omega) (by omega)) ?_
      | refine AL.v rfl rfl (VOp.cutSF tok rfl rfl rfl (by omega)) ?_
      | refine AL.v rfl rfl (VOp.cutST tok rfl rfl rfl (by omega)) ?_
      | refine AL.v rfl rfl (VOp.joinS rfl rfl (by omega)) ?_
      | refine AL.idxON tok rfl rfl rfl rfl rfl rfl rfl rfl (by first | omega | (simp; omega) | (simp; done) | decide) ?_
      | refine AL.loadRM tok rfl rfl rfl rfl (by first | omega | (simp; omega)) rfl ?_
      | refine AL.loadR tok rfl rfl rfl rfl rfl rfl ?_
      | refine AL.sidxN tok rfl rfl rfl rfl rfl (by omega) ?_
      | refine AL.sidx tok rfl rfl rfl rfl rfl (by omega) (by omega) ?_
      | refine AL.range tok rfl rfl rfl rfl ?_
      | refine AW.block ?_
      | refine AW.exit ?_
      | refine AW.skip ?_)
    rw [cntM_len q l (Nat.le_refl _)]
    refine H _ hd ?_
    (refine Imp.weak id (fun _ _ _ _ h => h) (by first | assumption | (intro b hb; cases hb)) ?_ ?_ <;> (repeat' (first
      | exact trivial
      | exact Nat.lt_of_lt_of_le (Nat.lt_succ_self _) (Nat.le_of_ble_eq_true rfl)
      | exact rfl
      | exact Or.inl ⟨rfl, rfl⟩
      | exact Or.inr ⟨rfl, LF.fn _ _ ‹_›⟩
      | refine ⟨?_, ?_⟩)))
end Go.Proofs.Try
