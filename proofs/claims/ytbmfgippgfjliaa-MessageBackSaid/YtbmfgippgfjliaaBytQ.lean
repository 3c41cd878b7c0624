/- Messages in bytes: the reference's Take; it reads what the layer reads. -/
import Derived.Test.YtbmfgippgfjliaaBytP
import Derived.Test.YtbmfgippgfjliaaAMD
set_option linter.unusedSimpArgs false
set_option linter.unusedVariables false
namespace Go.Proofs.Try
open Go Go.AM

theorem rNum_zero (b : List Nat) (s : Int × Int) (h : (rNum b s).2.2 ≠ 0) : (rNum b s).1 = 0 := by
  unfold rNum at *
  split
  · rename_i h1
    rw [if_pos h1] at h
    exact ((numR_in b s.1).2.2.2 h).1
  · rfl
theorem rTxt_err (b : List Nat) (l : Int) (s : Int × Int) (h : s.2 ≠ 0) : (rTxt b l s).2 = s := by
  unfold rTxt
  rw [if_neg h]
theorem rNum_err (b : List Nat) (s : Int × Int) (h : s.2 ≠ 0) : (rNum b s).2 = s := by
  unfold rNum
  rw [if_neg h]
theorem rdPs_err (b : List Nat) (f : Nat) (s : Int × Int) (h : s.2 ≠ 0) : rdPs b f s = ([], s) := by
  cases f with
  | zero => rfl
  | succ f => rw [rdPs, if_neg h]
theorem bel_must (r : Int × Int × Int) (h : r.2.2 ≠ 0 → r.1 = 0) : rBelS 2 r = mustR (is01 r.1 1) 2 r.2 ∧ decide ((if (rBelS 2 r).2 ≠ 0 then 0 else r.1) = 1) = decide (r.1 = 1) := by
  obtain ⟨n, a, e⟩ := r
  unfold rBelS mustR is01
  simp only at h ⊢
  by_cases he : e = 0
  · subst he
    by_cases h1 : n < 0 ∨ 2 ≤ n
    · have h2 : (decide (0 ≤ n) && decide (n ≤ 1)) = false := by simp; omega
      have h3 : ¬ n = 1 := by omega
      simp [h1, h2, h3]
    · have h2 : (decide (0 ≤ n) && decide (n ≤ 1)) = true := by simp; omega
      simp [h1, h2]
  · have := h he
    subst this
    simp [he]
/-- What is read where the number of elements may be wrong. -/
theorem cnt_must (b : List Nat) (m : List Pr → Ms) (s : Int × Int) :
    finR (m (rdPs b (rCnt b 8 s).1.toNat (rCnt b 8 s).2).1) (rdPs b (rCnt b 8 s).1.toNat (rCnt b 8 s).2).2 =
    finR (m (rdPs b (rNum b s).1.toNat (mustR (decide ((rNum b s).1 ≤ 8)) 5 (mustR (decide (0 ≤ (rNum b s).1)) 2 (rNum b s).2))).1) (rdPs b (rNum b s).1.toNat (mustR (decide ((rNum b s).1 ≤ 8)) 5 (mustR (decide (0 ≤ (rNum b s).1)) 2 (rNum b s).2))).2 := by
  have fe : ∀ m m' : Ms, ∀ s s' : Int × Int, s.2 ≠ 0 → s.2 = s'.2 → finR m s = finR m' s' := by
    intro m m' s s' h1 h2
    have h3 : s'.2 ≠ 0 := h2 ▸ h1
    unfold finR
    rw [if_neg h1, if_neg h3, if_neg h1, if_neg h3, h2]
  by_cases he : s.2 = 0
  · unfold rCnt rNum cntR
    rw [if_pos he, if_pos he]
    generalize numR b s.1 = r
    obtain ⟨n, nx, e⟩ := r
    by_cases h1 : e = 0
    · subst h1
      by_cases h2 : n < 0
      · have e1 : (mustR (decide (n ≤ 8)) 5 (mustR (decide (0 ≤ n)) 2 ((if (0 : Int) = 0 then nx else s.1), (0 : Int)))).2 = 2 := by
          have : ¬ 0 ≤ n := by omega
          simp [mustR, this]
        simp only [if_true, h2] at e1 ⊢
        rw [rdPs_err b _ (_, _) (by simp), rdPs_err b _ _ (by rw [e1]; decide)]
        exact fe _ _ _ _ (by simp) (by rw [e1])
      · by_cases h3 : 8 < n
        · have e1 : (mustR (decide (n ≤ 8)) 5 (mustR (decide (0 ≤ n)) 2 ((if (0 : Int) = 0 then nx else s.1), (0 : Int)))).2 = 5 := by
            have h4 : 0 ≤ n := by omega
            have h5 : ¬ n ≤ 8 := by omega
            simp [mustR, h4, h5]
          simp only [if_true, h2, h3, if_false] at e1 ⊢
          rw [rdPs_err b _ (_, _) (by simp), rdPs_err b _ _ (by rw [e1]; decide)]
          exact fe _ _ _ _ (by simp) (by rw [e1])
        · have h4 : 0 ≤ n := by omega
          have h5 : n ≤ 8 := by omega
          simp [mustR, h2, h3, h4, h5]
    · have e1 : (mustR (decide (n ≤ 8)) 5 (mustR (decide (0 ≤ n)) 2 ((if e = 0 then nx else s.1), e))).2 = e := by simp [mustR, h1]
      simp only [h1, if_false] at e1 ⊢
      rw [rdPs_err b _ (_, _) (by simpa using h1), rdPs_err b _ _ (by rw [e1]; exact h1)]
      exact fe _ _ _ _ (by simpa using h1) (by rw [e1])
  · have e1 : (rNum b s).2 = s := rNum_err b s he
    have e2 : (rCnt b 8 s).2 = s := by unfold rCnt; rw [if_neg he]
    have e3 : mustR (decide ((rNum b s).1 ≤ 8)) 5 (mustR (decide (0 ≤ (rNum b s).1)) 2 (rNum b s).2) = s := by
      rw [e1]
      simp [mustR, he]
    rw [e2, e3, rdPs_err b _ _ he, rdPs_err b _ _ he]
theorem ref_take (b : List Nat) (p : Int) : finR (rdMs b (p, 0)).1 (rdMs b (p, 0)).2 = takeS b p := by
  unfold rdMs takeS
  simp only
  have hbm := bel_must (rNum b (rNum b (rTxt b 256 (rTxt b 64 (p, 0)).2).2).2) (rNum_zero b _)
  rw [show (rBel b 2 (rNum b (rTxt b 256 (rTxt b 64 (p, 0)).2).2).2).2 = rBelS 2 (rNum b (rNum b (rTxt b 256 (rTxt b 64 (p, 0)).2).2).2) from rfl, show (rBel b 2 (rNum b (rTxt b 256 (rTxt b 64 (p, 0)).2).2).2).1 = (if (rBelS 2 (rNum b (rNum b (rTxt b 256 (rTxt b 64 (p, 0)).2).2).2)).2 ≠ 0 then 0 else (rNum b (rNum b (rTxt b 256 (rTxt b 64 (p, 0)).2).2).2).1) from rfl, hbm.1, ← hbm.1, hbm.2, hbm.1]
  exact cnt_must b (fun ps => ⟨_, _, _, _, _, _, _, _, ps⟩) _
set_option maxHeartbeats 16000000 in
set_option maxRecDepth 10000 in
theorem refTake_calls (b : List Nat) (p : Int) (hb : OkU b) (hl : b.length ≤ 1000000) : ACallP Try.prog 32 [rowU b, i64 p] (.tup [aggM (takeS b p).1, i64 (takeS b p).2.1, i64 (takeS b p).2.2]) := by
  refine ACallPR.nilR ?_
  rw [← ref_take]
  have c1 := refRMs_calls b (p, 0) hb hl
  have ht : (rdMs b (p, 0)).1.topic.size ≤ b.length := rTxt_size b 64 (p, 0)
  generalize rdMs b (p, 0) = r at *
  obtain ⟨m, pa, pe⟩ := r
  simp only at ht c1 ⊢
  have kc := refCheckM_calls m (by omega)
  have hr1 : pe ≠ 0 → finR m (pa, pe) = (ms0, 0, pe) := fun h => by simp [finR, h]
  have hr2 : pe = 0 → checkM m ≠ 0 → finR m (pa, pe) = (ms0, 0, checkM m) := fun h h2 => by simp [finR, h, h2]
  have hr3 : pe = 0 → checkM m = 0 → finR m (pa, pe) = (m, pa, 0) := fun h h2 => by simp [finR, h, h2]
  generalize finR m (pa, pe) = z at *
  generalize checkM m = ce at *
  refine ACalls.body tok Try.func32 rfl (by kernel_rfl) (by rw [Try.ntmps32]; simp) ?_
  simp only [Try.ntmps32, Try.results32, argT]
  repeat (first|refine AL.do tok rfl rfl ?_|refine AL.nil ?_|refine AW.seq fun K hK => ?_|refine AW.region ?_|refine AL.no rfl rfl ?_|(refine hK _ ?_; clear hK)|(clear hK; refine hK _ ?_; clear hK)|(clear hK; clear hK; refine hK _ ?_; clear hK)|refine qa7 qv1 ?_|refine qa7 qv2 ?_|refine qa7 qv3 ?_|refine qa7 (qv4 tok) ?_|refine qa7 (qv5 tok) ?_|refine qa7 qv6 ?_|refine qa7 qv7 ?_|refine qa7 (qv8 tok) ?_|refine qa7 (qv9 tok) ?_|refine qa7 (qv10 tok) ?_|refine qa7 (qv11 tok) ?_|refine qa7 (qv12 tok) ?_|refine qa7 (qv13 tok) ?_|refine qa7 (qv14 tok) ?_|refine qa7 (qv15 tok) ?_|refine qa7 (qv16 tok) ?_|refine qa7 qv17 ?_|refine qa7 (qv18 tok) ?_|refine qa7 qv19 ?_|refine qa7 (qv20 tok) ?_|refine qa7 (qv21 tok) ?_|refine qa7 (qv22 tok) ?_|refine qa7 (qv23 tok) ?_|refine qa7 (qv24 tok) ?_|refine qa7 qv26 ?_|refine qa7 qv27 ?_|refine qa7 (qv28 tok) ?_|refine qa1 tok ?_|refine qa2 tok ?_|refine qa3 tok ?_|refine AL.loadR tok rfl rfl rfl rfl rfl rfl ?_|refine qa4 tok ?_|refine qa5 tok ?_|refine AW.block ?_|refine AW.exit ?_|refine AW.skip ?_)
  refine AL.callM rfl rfl rfl (.loc 1) (c1) rfl rfl rfl rfl rfl rfl rfl rfl ?_
  by_cases he : pe = 0
  · by_cases h2 : ce = 0
    · have hz := hr3 he h2
      subst hz
      repeat' (first|refine AL.do tok rfl rfl ?_|refine AL.nil ?_|refine AW.seq fun K hK => ?_|refine AW.region ?_|refine AL.no rfl rfl ?_|(refine hK _ ?_; clear hK)|(clear hK; refine hK _ ?_; clear hK)|(clear hK; clear hK; refine hK _ ?_; clear hK)|refine qa7 qv1 ?_|refine qa7 qv2 ?_|refine qa7 qv3 ?_|refine qa7 (qv4 tok) ?_|refine qa7 (qv5 tok) ?_|refine qa7 qv6 ?_|refine qa7 qv7 ?_|refine qa7 (qv8 tok) ?_|refine qa7 (qv9 tok) ?_|refine qa7 (qv10 tok) ?_|refine qa7 (qv11 tok) ?_|refine qa7 (qv12 tok) ?_|refine qa7 (qv13 tok) ?_|refine qa7 (qv14 tok) ?_|refine qa7 (qv15 tok) ?_|refine qa7 (qv16 tok) ?_|refine qa7 qv17 ?_|refine qa7 (qv18 tok) ?_|refine qa7 qv19 ?_|refine qa7 (qv20 tok) ?_|refine qa7 (qv21 tok) ?_|refine qa7 (qv22 tok) ?_|refine qa7 (qv23 tok) ?_|refine qa7 (qv24 tok) ?_|refine qa7 qv26 ?_|refine qa7 qv27 ?_|refine qa7 (qv28 tok) ?_|refine qa1 tok ?_|refine qa2 tok ?_|refine qa3 tok ?_|refine AL.loadR tok rfl rfl rfl rfl rfl rfl ?_|refine qa4 tok ?_|refine qa5 tok ?_|refine AW.block ?_|refine AW.exit ?_|refine AW.skip ?_|refine qc1 (kc ..) ?_|refine qc2 (kc ..) ?_|((fail_if_success (refine AL.guard (b := true) rfl rfl ?_ ?_)); (fail_if_success (refine AL.guard (b := false) rfl rfl ?_ ?_)); refine AL.guard rfl rfl (fun hg => ?_) (fun hg => ?_) <;> ((try simp only [DX] at hg) <;> (try first|(exfalso; omega)|exact absurd trivial hg|exact False.elim hg|exact absurd rfl hg)))|refine AW.condT rfl ?_|refine AW.condF rfl ?_|(refine AW.cond rfl (fun hg => ?_) (fun hg => ?_) <;> ((try simp only [DX] at hg) <;> (try first|(exfalso; omega)|exact absurd trivial hg|exact False.elim hg|exact absurd rfl hg))))
      all_goals try (exfalso; (try simp only [DX] at *); omega)
      all_goals
        refine AW.anyN mix [[], [], [1], [1, 2], [1, 2, 3], [0], [0, 1, 2, 3, 4, 5], [0, 1, 2, 3, 4, 5, 6]] [[36, 37, 38, 39], [35], [35], [35], [35], [36, 37, 38, 39], [], []] [[], [0], [0], [0], [0], [], [], []] [(5, 0)] 3 11 rfl (by rfl) (by decide +kernel) rfl (by first|assumption|(intro b hb; cases hb)) ?_ <;> repeat' (first|refine AR.step rfl rfl (by first|exact OSp.do tok rfl rfl rfl|exact OSp.no rfl rfl|exact OSp.noN rfl|exact OSp.v rfl rfl qv1|exact OSp.v rfl rfl qv2|exact OSp.v rfl rfl qv3|exact OSp.v rfl rfl (qv4 tok)|exact OSp.v rfl rfl (qv5 tok)|exact OSp.v rfl rfl qv6|exact OSp.v rfl rfl qv7|exact OSp.v rfl rfl (qv8 tok)|exact OSp.v rfl rfl (qv9 tok)|exact OSp.v rfl rfl (qv10 tok)|exact OSp.v rfl rfl (qv11 tok)|exact OSp.v rfl rfl (qv12 tok)|exact OSp.v rfl rfl (qv13 tok)|exact OSp.v rfl rfl (qv14 tok)|exact OSp.v rfl rfl (qv15 tok)|exact OSp.v rfl rfl (qv16 tok)|exact OSp.v rfl rfl qv17|exact OSp.v rfl rfl (qv18 tok)|exact OSp.v rfl rfl qv19|exact OSp.v rfl rfl (qv20 tok)|exact OSp.v rfl rfl (qv21 tok)|exact OSp.v rfl rfl (qv22 tok)|exact OSp.v rfl rfl (qv23 tok)|exact OSp.v rfl rfl (qv24 tok)|exact OSp.v rfl rfl qv26|exact OSp.v rfl rfl qv27|exact OSp.v rfl rfl (qv28 tok)|exact OSp.copy tok rfl rfl rfl rfl rfl rfl rfl (by (first | (intro x hx; obtain ⟨_, _, rfl⟩ := List.mem_map.1 hx; rfl) | (intro x hx; replace hx := List.mem_of_mem_take (List.mem_of_mem_drop hx); obtain ⟨_, _, rfl⟩ := List.mem_map.1 hx; rfl) | (simp; done))) rfl rfl rfl rfl|exact OSp.buildSlice tok rfl rfl rfl rfl rfl rfl rfl rfl|exact OSp.append tok rfl rfl rfl rfl rfl rfl rfl rfl rfl rfl rfl (by first|(intro x hx; obtain ⟨_, _, rfl⟩ := List.mem_map.1 hx; rfl)|(simp; done)) (by simp; omega) (by simp; omega)|exact OSp.alloc tok rfl rfl rfl rfl|exact OSp.box tok rfl rfl rfl rfl rfl|exact OSp.boxC tok rfl rfl rfl rfl rfl|exact OSp.store tok rfl rfl rfl rfl rfl rfl rfl rfl|exact OSp.appIn tok rfl rfl rfl rfl rfl (by first|assumption|(intro e; have := congrArg List.length e; simp at this; omega)) rfl rfl (by (first | (intro x hx; obtain ⟨_, _, rfl⟩ := List.mem_map.1 hx; rfl) | (intro x hx; replace hx := List.mem_of_mem_take (List.mem_of_mem_drop hx); obtain ⟨_, _, rfl⟩ := List.mem_map.1 hx; rfl) | (simp; done))) rfl rfl rfl rfl (by first|omega|(simp; omega))|exact OSp.copyX tok rfl rfl rfl rfl rfl rfl rfl rfl (by first|omega|(simp; omega)) (by first|omega|(simp; omega)) (by first|omega|(simp; omega)) (by first|omega|(simp; omega)) (by first|omega|(simp; omega))) (by rfl) (by rfl) ?_|refine AR.done rfl rfl ?_|(refine AR.guard rfl rfl rfl rfl (fun hg => ?_) (fun hg => ?_) <;> ((try simp only [DX] at hg) <;> (try first|(exfalso; omega)|exact absurd trivial hg|exact False.elim hg|exact absurd rfl hg))))
        repeat' (first|refine AL.do tok rfl rfl ?_|refine AL.nil ?_|refine AW.seq fun K hK => ?_|refine AW.region ?_|refine AL.no rfl rfl ?_|(refine hK _ ?_; clear hK)|(clear hK; refine hK _ ?_; clear hK)|(clear hK; clear hK; refine hK _ ?_; clear hK)|refine qa7 qv1 ?_|refine qa7 qv2 ?_|refine qa7 qv3 ?_|refine qa7 (qv4 tok) ?_|refine qa7 (qv5 tok) ?_|refine qa7 qv6 ?_|refine qa7 qv7 ?_|refine qa7 (qv8 tok) ?_|refine qa7 (qv9 tok) ?_|refine qa7 (qv10 tok) ?_|refine qa7 (qv11 tok) ?_|refine qa7 (qv12 tok) ?_|refine qa7 (qv13 tok) ?_|refine qa7 (qv14 tok) ?_|refine qa7 (qv15 tok) ?_|refine qa7 (qv16 tok) ?_|refine qa7 qv17 ?_|refine qa7 (qv18 tok) ?_|refine qa7 qv19 ?_|refine qa7 (qv20 tok) ?_|refine qa7 (qv21 tok) ?_|refine qa7 (qv22 tok) ?_|refine qa7 (qv23 tok) ?_|refine qa7 (qv24 tok) ?_|refine qa7 qv26 ?_|refine qa7 qv27 ?_|refine qa7 (qv28 tok) ?_|refine qa1 tok ?_|refine qa2 tok ?_|refine qa3 tok ?_|refine AL.loadR tok rfl rfl rfl rfl rfl rfl ?_|refine qa4 tok ?_|refine qa5 tok ?_|refine AW.block ?_|refine AW.exit ?_|refine AW.skip ?_|((fail_if_success (refine AL.guard (b := true) rfl rfl ?_ ?_)); (fail_if_success (refine AL.guard (b := false) rfl rfl ?_ ?_)); refine AL.guard rfl rfl (fun hg => ?_) (fun hg => ?_) <;> ((try simp only [DX] at hg) <;> (try first|(exfalso; omega)|exact absurd trivial hg|exact False.elim hg|exact absurd rfl hg)))|refine AW.condT rfl ?_|refine AW.condF rfl ?_|(refine AW.cond rfl (fun hg => ?_) (fun hg => ?_) <;> ((try simp only [DX] at hg) <;> (try first|(exfalso; omega)|exact absurd trivial hg|exact False.elim hg|exact absurd rfl hg)))|refine AW.ret ?_)
        all_goals (refine ⟨_, _, _, _, rfl, Out.pure rfl ⟨?_, rfl⟩ rfl⟩; rfl)
    · have hz := hr2 he h2
      subst hz
      repeat' (first|refine AL.do tok rfl rfl ?_|refine AL.nil ?_|refine AW.seq fun K hK => ?_|refine AW.region ?_|refine AL.no rfl rfl ?_|(refine hK _ ?_; clear hK)|(clear hK; refine hK _ ?_; clear hK)|(clear hK; clear hK; refine hK _ ?_; clear hK)|refine qa7 qv1 ?_|refine qa7 qv2 ?_|refine qa7 qv3 ?_|refine qa7 (qv4 tok) ?_|refine qa7 (qv5 tok) ?_|refine qa7 qv6 ?_|refine qa7 qv7 ?_|refine qa7 (qv8 tok) ?_|refine qa7 (qv9 tok) ?_|refine qa7 (qv10 tok) ?_|refine qa7 (qv11 tok) ?_|refine qa7 (qv12 tok) ?_|refine qa7 (qv13 tok) ?_|refine qa7 (qv14 tok) ?_|refine qa7 (qv15 tok) ?_|refine qa7 (qv16 tok) ?_|refine qa7 qv17 ?_|refine qa7 (qv18 tok) ?_|refine qa7 qv19 ?_|refine qa7 (qv20 tok) ?_|refine qa7 (qv21 tok) ?_|refine qa7 (qv22 tok) ?_|refine qa7 (qv23 tok) ?_|refine qa7 (qv24 tok) ?_|refine qa7 qv26 ?_|refine qa7 qv27 ?_|refine qa7 (qv28 tok) ?_|refine qa1 tok ?_|refine qa2 tok ?_|refine qa3 tok ?_|refine AL.loadR tok rfl rfl rfl rfl rfl rfl ?_|refine qa4 tok ?_|refine qa5 tok ?_|refine AW.block ?_|refine AW.exit ?_|refine AW.skip ?_|refine qc1 (kc ..) ?_|refine qc2 (kc ..) ?_|((fail_if_success (refine AL.guard (b := true) rfl rfl ?_ ?_)); (fail_if_success (refine AL.guard (b := false) rfl rfl ?_ ?_)); refine AL.guard rfl rfl (fun hg => ?_) (fun hg => ?_) <;> ((try simp only [DX] at hg) <;> (try first|(exfalso; omega)|exact absurd trivial hg|exact False.elim hg|exact absurd rfl hg)))|refine AW.condT rfl ?_|refine AW.condF rfl ?_|(refine AW.cond rfl (fun hg => ?_) (fun hg => ?_) <;> ((try simp only [DX] at hg) <;> (try first|(exfalso; omega)|exact absurd trivial hg|exact False.elim hg|exact absurd rfl hg))))
      all_goals try (exfalso; (try simp only [DX] at *); omega)
      all_goals
        refine AW.anyN mix [[], [], [1], [1, 2], [1, 2, 3], [0], [0, 5], [0, 1, 2, 3, 4, 5, 6]] [[31, 32, 33, 34], [5, 30], [5, 30], [5, 30], [5, 30], [31, 32, 33, 34], [31, 32, 33, 34], []] [[], [0], [0], [0], [0], [], [], []] [(5, 0)] 3 11 rfl (by rfl) (by decide +kernel) rfl (by first|assumption|(intro b hb; cases hb)) ?_ <;> repeat' (first|refine AR.step rfl rfl (by first|exact OSp.do tok rfl rfl rfl|exact OSp.no rfl rfl|exact OSp.noN rfl|exact OSp.v rfl rfl qv1|exact OSp.v rfl rfl qv2|exact OSp.v rfl rfl qv3|exact OSp.v rfl rfl (qv4 tok)|exact OSp.v rfl rfl (qv5 tok)|exact OSp.v rfl rfl qv6|exact OSp.v rfl rfl qv7|exact OSp.v rfl rfl (qv8 tok)|exact OSp.v rfl rfl (qv9 tok)|exact OSp.v rfl rfl (qv10 tok)|exact OSp.v rfl rfl (qv11 tok)|exact OSp.v rfl rfl (qv12 tok)|exact OSp.v rfl rfl (qv13 tok)|exact OSp.v rfl rfl (qv14 tok)|exact OSp.v rfl rfl (qv15 tok)|exact OSp.v rfl rfl (qv16 tok)|exact OSp.v rfl rfl qv17|exact OSp.v rfl rfl (qv18 tok)|exact OSp.v rfl rfl qv19|exact OSp.v rfl rfl (qv20 tok)|exact OSp.v rfl rfl (qv21 tok)|exact OSp.v rfl rfl (qv22 tok)|exact OSp.v rfl rfl (qv23 tok)|exact OSp.v rfl rfl (qv24 tok)|exact OSp.v rfl rfl qv26|exact OSp.v rfl rfl qv27|exact OSp.v rfl rfl (qv28 tok)|exact OSp.copy tok rfl rfl rfl rfl rfl rfl rfl (by (first | (intro x hx; obtain ⟨_, _, rfl⟩ := List.mem_map.1 hx; rfl) | (intro x hx; replace hx := List.mem_of_mem_take (List.mem_of_mem_drop hx); obtain ⟨_, _, rfl⟩ := List.mem_map.1 hx; rfl) | (simp; done))) rfl rfl rfl rfl|exact OSp.buildSlice tok rfl rfl rfl rfl rfl rfl rfl rfl|exact OSp.append tok rfl rfl rfl rfl rfl rfl rfl rfl rfl rfl rfl (by first|(intro x hx; obtain ⟨_, _, rfl⟩ := List.mem_map.1 hx; rfl)|(simp; done)) (by simp; omega) (by simp; omega)|exact OSp.alloc tok rfl rfl rfl rfl|exact OSp.box tok rfl rfl rfl rfl rfl|exact OSp.boxC tok rfl rfl rfl rfl rfl|exact OSp.store tok rfl rfl rfl rfl rfl rfl rfl rfl|exact OSp.appIn tok rfl rfl rfl rfl rfl (by first|assumption|(intro e; have := congrArg List.length e; simp at this; omega)) rfl rfl (by (first | (intro x hx; obtain ⟨_, _, rfl⟩ := List.mem_map.1 hx; rfl) | (intro x hx; replace hx := List.mem_of_mem_take (List.mem_of_mem_drop hx); obtain ⟨_, _, rfl⟩ := List.mem_map.1 hx; rfl) | (simp; done))) rfl rfl rfl rfl (by first|omega|(simp; omega))|exact OSp.copyX tok rfl rfl rfl rfl rfl rfl rfl rfl (by first|omega|(simp; omega)) (by first|omega|(simp; omega)) (by first|omega|(simp; omega)) (by first|omega|(simp; omega)) (by first|omega|(simp; omega))) (by rfl) (by rfl) ?_|refine AR.done rfl rfl ?_|(refine AR.guard rfl rfl rfl rfl (fun hg => ?_) (fun hg => ?_) <;> ((try simp only [DX] at hg) <;> (try first|(exfalso; omega)|exact absurd trivial hg|exact False.elim hg|exact absurd rfl hg))))
        repeat' (first|refine AL.do tok rfl rfl ?_|refine AL.nil ?_|refine AW.seq fun K hK => ?_|refine AW.region ?_|refine AL.no rfl rfl ?_|(refine hK _ ?_; clear hK)|(clear hK; refine hK _ ?_; clear hK)|(clear hK; clear hK; refine hK _ ?_; clear hK)|refine qa7 qv1 ?_|refine qa7 qv2 ?_|refine qa7 qv3 ?_|refine qa7 (qv4 tok) ?_|refine qa7 (qv5 tok) ?_|refine qa7 qv6 ?_|refine qa7 qv7 ?_|refine qa7 (qv8 tok) ?_|refine qa7 (qv9 tok) ?_|refine qa7 (qv10 tok) ?_|refine qa7 (qv11 tok) ?_|refine qa7 (qv12 tok) ?_|refine qa7 (qv13 tok) ?_|refine qa7 (qv14 tok) ?_|refine qa7 (qv15 tok) ?_|refine qa7 (qv16 tok) ?_|refine qa7 qv17 ?_|refine qa7 (qv18 tok) ?_|refine qa7 qv19 ?_|refine qa7 (qv20 tok) ?_|refine qa7 (qv21 tok) ?_|refine qa7 (qv22 tok) ?_|refine qa7 (qv23 tok) ?_|refine qa7 (qv24 tok) ?_|refine qa7 qv26 ?_|refine qa7 qv27 ?_|refine qa7 (qv28 tok) ?_|refine qa1 tok ?_|refine qa2 tok ?_|refine qa3 tok ?_|refine AL.loadR tok rfl rfl rfl rfl rfl rfl ?_|refine qa4 tok ?_|refine qa5 tok ?_|refine AW.block ?_|refine AW.exit ?_|refine AW.skip ?_|((fail_if_success (refine AL.guard (b := true) rfl rfl ?_ ?_)); (fail_if_success (refine AL.guard (b := false) rfl rfl ?_ ?_)); refine AL.guard rfl rfl (fun hg => ?_) (fun hg => ?_) <;> ((try simp only [DX] at hg) <;> (try first|(exfalso; omega)|exact absurd trivial hg|exact False.elim hg|exact absurd rfl hg)))|refine AW.condT rfl ?_|refine AW.condF rfl ?_|(refine AW.cond rfl (fun hg => ?_) (fun hg => ?_) <;> ((try simp only [DX] at hg) <;> (try first|(exfalso; omega)|exact absurd trivial hg|exact False.elim hg|exact absurd rfl hg)))|refine AW.ret ?_)
        all_goals (refine ⟨_, _, _, _, rfl, Out.pure rfl ⟨?_, rfl⟩ rfl⟩; rfl)
  · have hz := hr1 he
    subst hz
    repeat' (first|refine AL.do tok rfl rfl ?_|refine AL.nil ?_|refine AW.seq fun K hK => ?_|refine AW.region ?_|refine AL.no rfl rfl ?_|(refine hK _ ?_; clear hK)|(clear hK; refine hK _ ?_; clear hK)|(clear hK; clear hK; refine hK _ ?_; clear hK)|refine qa7 qv1 ?_|refine qa7 qv2 ?_|refine qa7 qv3 ?_|refine qa7 (qv4 tok) ?_|refine qa7 (qv5 tok) ?_|refine qa7 qv6 ?_|refine qa7 qv7 ?_|refine qa7 (qv8 tok) ?_|refine qa7 (qv9 tok) ?_|refine qa7 (qv10 tok) ?_|refine qa7 (qv11 tok) ?_|refine qa7 (qv12 tok) ?_|refine qa7 (qv13 tok) ?_|refine qa7 (qv14 tok) ?_|refine qa7 (qv15 tok) ?_|refine qa7 (qv16 tok) ?_|refine qa7 qv17 ?_|refine qa7 (qv18 tok) ?_|refine qa7 qv19 ?_|refine qa7 (qv20 tok) ?_|refine qa7 (qv21 tok) ?_|refine qa7 (qv22 tok) ?_|refine qa7 (qv23 tok) ?_|refine qa7 (qv24 tok) ?_|refine qa7 qv26 ?_|refine qa7 qv27 ?_|refine qa7 (qv28 tok) ?_|refine qa1 tok ?_|refine qa2 tok ?_|refine qa3 tok ?_|refine AL.loadR tok rfl rfl rfl rfl rfl rfl ?_|refine qa4 tok ?_|refine qa5 tok ?_|refine AW.block ?_|refine AW.exit ?_|refine AW.skip ?_|refine qc1 (kc ..) ?_|refine qc2 (kc ..) ?_|((fail_if_success (refine AL.guard (b := true) rfl rfl ?_ ?_)); (fail_if_success (refine AL.guard (b := false) rfl rfl ?_ ?_)); refine AL.guard rfl rfl (fun hg => ?_) (fun hg => ?_) <;> ((try simp only [DX] at hg) <;> (try first|(exfalso; omega)|exact absurd trivial hg|exact False.elim hg|exact absurd rfl hg)))|refine AW.condT rfl ?_|refine AW.condF rfl ?_|(refine AW.cond rfl (fun hg => ?_) (fun hg => ?_) <;> ((try simp only [DX] at hg) <;> (try first|(exfalso; omega)|exact absurd trivial hg|exact False.elim hg|exact absurd rfl hg))))
    all_goals try (exfalso; (try simp only [DX] at *); omega)
    all_goals
      refine AW.anyN mix [[], [], [1], [1, 2], [1, 2, 3], [0], [0, 5], [0, 1, 2, 3, 4, 5, 6]] [[31, 32, 33, 34], [5, 30], [5, 30], [5, 30], [5, 30], [31, 32, 33, 34], [31, 32, 33, 34], []] [[], [0], [0], [0], [0], [], [], []] [(5, 0)] 3 11 rfl (by rfl) (by decide +kernel) rfl (by first|assumption|(intro b hb; cases hb)) ?_ <;> repeat' (first|refine AR.step rfl rfl (by first|exact OSp.do tok rfl rfl rfl|exact OSp.no rfl rfl|exact OSp.noN rfl|exact OSp.v rfl rfl qv1|exact OSp.v rfl rfl qv2|exact OSp.v rfl rfl qv3|exact OSp.v rfl rfl (qv4 tok)|exact OSp.v rfl rfl (qv5 tok)|exact OSp.v rfl rfl qv6|exact OSp.v rfl rfl qv7|exact OSp.v rfl rfl (qv8 tok)|exact OSp.v rfl rfl (qv9 tok)|exact OSp.v rfl rfl (qv10 tok)|exact OSp.v rfl rfl (qv11 tok)|exact OSp.v rfl rfl (qv12 tok)|exact OSp.v rfl rfl (qv13 tok)|exact OSp.v rfl rfl (qv14 tok)|exact OSp.v rfl rfl (qv15 tok)|exact OSp.v rfl rfl (qv16 tok)|exact OSp.v rfl rfl qv17|exact OSp.v rfl rfl (qv18 tok)|exact OSp.v rfl rfl qv19|exact OSp.v rfl rfl (qv20 tok)|exact OSp.v rfl rfl (qv21 tok)|exact OSp.v rfl rfl (qv22 tok)|exact OSp.v rfl rfl (qv23 tok)|exact OSp.v rfl rfl (qv24 tok)|exact OSp.v rfl rfl qv26|exact OSp.v rfl rfl qv27|exact OSp.v rfl rfl (qv28 tok)|exact OSp.copy tok rfl rfl rfl rfl rfl rfl rfl (by (first | (intro x hx; obtain ⟨_, _, rfl⟩ := List.mem_map.1 hx; rfl) | (intro x hx; replace hx := List.mem_of_mem_take (List.mem_of_mem_drop hx); obtain ⟨_, _, rfl⟩ := List.mem_map.1 hx; rfl) | (simp; done))) rfl rfl rfl rfl|exact OSp.buildSlice tok rfl rfl rfl rfl rfl rfl rfl rfl|exact OSp.append tok rfl rfl rfl rfl rfl rfl rfl rfl rfl rfl rfl (by first|(intro x hx; obtain ⟨_, _, rfl⟩ := List.mem_map.1 hx; rfl)|(simp; done)) (by simp; omega) (by simp; omega)|exact OSp.alloc tok rfl rfl rfl rfl|exact OSp.box tok rfl rfl rfl rfl rfl|exact OSp.boxC tok rfl rfl rfl rfl rfl|exact OSp.store tok rfl rfl rfl rfl rfl rfl rfl rfl|exact OSp.appIn tok rfl rfl rfl rfl rfl (by first|assumption|(intro e; have := congrArg List.length e; simp at this; omega)) rfl rfl (by (first | (intro x hx; obtain ⟨_, _, rfl⟩ := List.mem_map.1 hx; rfl) | (intro x hx; replace hx := List.mem_of_mem_take (List.mem_of_mem_drop hx); obtain ⟨_, _, rfl⟩ := List.mem_map.1 hx; rfl) | (simp; done))) rfl rfl rfl rfl (by first|omega|(simp; omega))|exact OSp.copyX tok rfl rfl rfl rfl rfl rfl rfl rfl (by first|omega|(simp; omega)) (by first|omega|(simp; omega)) (by first|omega|(simp; omega)) (by first|omega|(simp; omega)) (by first|omega|(simp; omega))) (by rfl) (by rfl) ?_|refine AR.done rfl rfl ?_|(refine AR.guard rfl rfl rfl rfl (fun hg => ?_) (fun hg => ?_) <;> ((try simp only [DX] at hg) <;> (try first|(exfalso; omega)|exact absurd trivial hg|exact False.elim hg|exact absurd rfl hg))))
      repeat' (first|refine AL.do tok rfl rfl ?_|refine AL.nil ?_|refine AW.seq fun K hK => ?_|refine AW.region ?_|refine AL.no rfl rfl ?_|(refine hK _ ?_; clear hK)|(clear hK; refine hK _ ?_; clear hK)|(clear hK; clear hK; refine hK _ ?_; clear hK)|refine qa7 qv1 ?_|refine qa7 qv2 ?_|refine qa7 qv3 ?_|refine qa7 (qv4 tok) ?_|refine qa7 (qv5 tok) ?_|refine qa7 qv6 ?_|refine qa7 qv7 ?_|refine qa7 (qv8 tok) ?_|refine qa7 (qv9 tok) ?_|refine qa7 (qv10 tok) ?_|refine qa7 (qv11 tok) ?_|refine qa7 (qv12 tok) ?_|refine qa7 (qv13 tok) ?_|refine qa7 (qv14 tok) ?_|refine qa7 (qv15 tok) ?_|refine qa7 (qv16 tok) ?_|refine qa7 qv17 ?_|refine qa7 (qv18 tok) ?_|refine qa7 qv19 ?_|refine qa7 (qv20 tok) ?_|refine qa7 (qv21 tok) ?_|refine qa7 (qv22 tok) ?_|refine qa7 (qv23 tok) ?_|refine qa7 (qv24 tok) ?_|refine qa7 qv26 ?_|refine qa7 qv27 ?_|refine qa7 (qv28 tok) ?_|refine qa1 tok ?_|refine qa2 tok ?_|refine qa3 tok ?_|refine AL.loadR tok rfl rfl rfl rfl rfl rfl ?_|refine qa4 tok ?_|refine qa5 tok ?_|refine AW.block ?_|refine AW.exit ?_|refine AW.skip ?_|((fail_if_success (refine AL.guard (b := true) rfl rfl ?_ ?_)); (fail_if_success (refine AL.guard (b := false) rfl rfl ?_ ?_)); refine AL.guard rfl rfl (fun hg => ?_) (fun hg => ?_) <;> ((try simp only [DX] at hg) <;> (try first|(exfalso; omega)|exact absurd trivial hg|exact False.elim hg|exact absurd rfl hg)))|refine AW.condT rfl ?_|refine AW.condF rfl ?_|(refine AW.cond rfl (fun hg => ?_) (fun hg => ?_) <;> ((try simp only [DX] at hg) <;> (try first|(exfalso; omega)|exact absurd trivial hg|exact False.elim hg|exact absurd rfl hg)))|refine AW.ret ?_)
      all_goals (refine ⟨_, _, _, _, rfl, Out.pure rfl ⟨?_, rfl⟩ rfl⟩; rfl)
end Go.Proofs.Try
