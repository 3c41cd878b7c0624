/- lease: the laws LeaseChecks, LeaseBacks. -/
import Derived.Test.YtlpnpjlnoeacnaaLeaK
import Derived.Test.YtlpnpjlnoeacnaaWk
set_option linter.unusedSimpArgs false
set_option linter.unusedVariables false
namespace Go.Proofs.Try
open Go Go.AM

set_option maxHeartbeats 16000000 in
set_option maxRecDepth 10000 in
theorem leaseChecks_law (x0 x1 : AV) (h0 : AT ts 22 x0) (h1 : AT ts 3 x1) : ACallP Try.prog 3 [x0, x1] (bo true) := by
  obtain ⟨l, rfl, ho, ht, hl⟩ := at_Ls h0
  obtain ⟨a, rfl, _⟩ := at_int h1
  have hlm : (l.map encL).length = l.length := List.length_map ..
  have ke := example_calls
  by_cases hs : l.length ≤ 60
  · have k1 := checkL_calls l ho
    have k2 := refCheckL_calls l ho
    have k3 := count_calls l a (by omega)
    have k4 := refCount_calls l a (by omega) ho ht
    generalize checkLs l = c at *
    generalize (l.filter (isOwn a)).length = m at *
    refine ACalls.body tok Try.func3 rfl (by kernel_rfl) (by rw [Try.ntmps3]; simp) ?_
    simp only [Try.ntmps3, Try.results3, argT]
    repeat' (first|refine AL.do tok rfl rfl ?_|refine AL.nil ?_|refine AW.seq fun K hK => ?_|refine AW.region ?_|refine AL.no rfl rfl ?_|(refine hK _ ?_; clear hK)|(clear hK; refine hK _ ?_; clear hK)|(clear hK; clear hK; refine hK _ ?_; clear hK)|refine qaW ?_|refine qa1 tok ?_|refine qa2 tok ?_|refine qa3 tok ?_|refine AL.loadR tok rfl rfl rfl rfl rfl rfl ?_|refine qa4 tok ?_|refine qa5 tok ?_|refine AW.block ?_|refine AW.exit ?_|refine AW.skip ?_|refine qc1 (k1 ..) ?_|refine qc2 (k1 ..) ?_|refine qc1 (k2 ..) ?_|refine qc2 (k2 ..) ?_|refine qc1 (k3 ..) ?_|refine qc2 (k3 ..) ?_|refine qc1 (k4 ..) ?_|refine qc2 (k4 ..) ?_|refine qc1 (ke ..) ?_|refine qc2 (ke ..) ?_|((fail_if_success (refine AL.guard (b := true) rfl rfl ?_ ?_)); (fail_if_success (refine AL.guard (b := false) rfl rfl ?_ ?_)); refine AL.guard rfl rfl (fun hg => ?_) (fun hg => ?_) <;> ((try simp only [DX] at hg) <;> (try first|(exfalso; omega)|exact absurd trivial hg|exact False.elim hg|exact absurd rfl hg)))|refine AW.condT rfl ?_|refine AW.condF rfl ?_|(refine AW.cond rfl (fun hg => ?_) (fun hg => ?_) <;> ((try simp only [DX] at hg) <;> (try first|(exfalso; omega)|exact absurd trivial hg|exact False.elim hg|exact absurd rfl hg))))
    all_goals (try simp only [DX] at *)
    all_goals try (exfalso; first | exact hg | exact hg rfl | omega)
    all_goals
      refine AW.ret ?_
      refine ⟨_, _, _, _, rfl, Out.pure rfl ⟨?_, rfl⟩ rfl⟩
      rfl
  · refine ACalls.body tok Try.func3 rfl (by kernel_rfl) (by rw [Try.ntmps3]; simp) ?_
    simp only [Try.ntmps3, Try.results3, argT]
    repeat' (first|refine AL.do tok rfl rfl ?_|refine AL.nil ?_|refine AW.seq fun K hK => ?_|refine AW.region ?_|refine AL.no rfl rfl ?_|(refine hK _ ?_; clear hK)|(clear hK; refine hK _ ?_; clear hK)|(clear hK; clear hK; refine hK _ ?_; clear hK)|refine qaW ?_|refine qa1 tok ?_|refine qa2 tok ?_|refine qa3 tok ?_|refine AL.loadR tok rfl rfl rfl rfl rfl rfl ?_|refine qa4 tok ?_|refine qa5 tok ?_|refine AW.block ?_|refine AW.exit ?_|refine AW.skip ?_|refine qc1 (ke ..) ?_|refine qc2 (ke ..) ?_|((fail_if_success (refine AL.guard (b := true) rfl rfl ?_ ?_)); (fail_if_success (refine AL.guard (b := false) rfl rfl ?_ ?_)); refine AL.guard rfl rfl (fun hg => ?_) (fun hg => ?_) <;> ((try simp only [DX] at hg) <;> (try first|(exfalso; omega)|exact absurd trivial hg|exact False.elim hg|exact absurd rfl hg)))|refine AW.condT rfl ?_|refine AW.condF rfl ?_|(refine AW.cond rfl (fun hg => ?_) (fun hg => ?_) <;> ((try simp only [DX] at hg) <;> (try first|(exfalso; omega)|exact absurd trivial hg|exact False.elim hg|exact absurd rfl hg))))
    all_goals (try simp only [DX] at *)
    all_goals try (exfalso; first | exact hg | exact hg rfl | omega)
    all_goals
      refine AW.ret ?_
      refine ⟨_, _, _, _, rfl, Out.pure rfl ⟨?_, rfl⟩ rfl⟩
      rfl
theorem backL_ok (s : ByteArray) : ∀ (l : List Le) (q : Qu), OkQ q → OkL l → OkQ (backL s q l).1
  | [], q, h, _ => h
  | x :: r, q, h, hl => by
    rw [backL]
    split
    · split
      · exact backL_ok s r _ (ret_ok h (hl x (by simp))) fun y hy => hl y (by simp [hy])
      · intro e he; simp [zeroQ] at he
    · exact backL_ok s r _ h fun y hy => hl y (by simp [hy])
set_option maxHeartbeats 16000000 in
set_option maxRecDepth 10000 in
theorem leaseBacks_law (x0 x1 : AV) (h0 : AT ts 32 x0) (h1 : AT ts 22 x1) : ACallP Try.prog 4 [x0, x1] (bo true) := by
  obtain ⟨q, rfl, hoq⟩ := at_Q h0
  obtain ⟨l, rfl, ho, ht, hl⟩ := at_Ls h1
  have hlm : (l.map encL).length = l.length := List.length_map ..
  have hrm : (q.ready.map encE).length = q.ready.length := List.length_map ..
  have ke := example_calls
  have kv := refValid_calls25 q hoq
  have kc := refCheckL_calls l ho
  by_cases hv : validS q = 0
  · have hg := goodQ_iff.1 hv
    have k1 := back_calls q l hg hoq ho
    have k2 := refBack_calls q l hg hoq ho
    generalize backL q.spec.name q l = r at *
    have k3 := sameQ_t r.1
    rw [hv] at kv
    generalize checkLs l = c at *
    clear hg
    refine ACalls.body tok Try.func4 rfl (by kernel_rfl) (by rw [Try.ntmps4]; simp) ?_
    simp only [Try.ntmps4, Try.results4, argT]
    repeat' (first|refine AL.do tok rfl rfl ?_|refine AL.nil ?_|refine AW.seq fun K hK => ?_|refine AW.region ?_|refine AL.no rfl rfl ?_|(refine hK _ ?_; clear hK)|(clear hK; refine hK _ ?_; clear hK)|(clear hK; clear hK; refine hK _ ?_; clear hK)|refine qaW ?_|refine qa1 tok ?_|refine qa2 tok ?_|refine qa3 tok ?_|refine AL.loadR tok rfl rfl rfl rfl rfl rfl ?_|refine qa4 tok ?_|refine qa5 tok ?_|refine AW.block ?_|refine AW.exit ?_|refine AW.skip ?_|refine qc1 (kv ..) ?_|refine qc2 (kv ..) ?_|refine qc1 (kc ..) ?_|refine qc2 (kc ..) ?_|refine qc1 (k1 ..) ?_|refine qc2 (k1 ..) ?_|refine qc1 (k2 ..) ?_|refine qc2 (k2 ..) ?_|refine qc1 (k3 ..) ?_|refine qc2 (k3 ..) ?_|refine qc1 (ke ..) ?_|refine qc2 (ke ..) ?_|((fail_if_success (refine AL.guard (b := true) rfl rfl ?_ ?_)); (fail_if_success (refine AL.guard (b := false) rfl rfl ?_ ?_)); refine AL.guard rfl rfl (fun hg => ?_) (fun hg => ?_) <;> ((try simp only [DX] at hg) <;> (try first|(exfalso; omega)|exact absurd trivial hg|exact False.elim hg|exact absurd rfl hg)))|refine AW.condT rfl ?_|refine AW.condF rfl ?_|(refine AW.cond rfl (fun hg => ?_) (fun hg => ?_) <;> ((try simp only [DX] at hg) <;> (try first|(exfalso; omega)|exact absurd trivial hg|exact False.elim hg|exact absurd rfl hg))))
    all_goals (try simp only [DX] at *)
    all_goals try (exfalso; first | exact hg | exact hg rfl | omega)
    all_goals
      refine AW.ret ?_
      refine ⟨_, _, _, _, rfl, Out.pure rfl ⟨?_, rfl⟩ rfl⟩
      (try simp)
  · generalize validS q = v at *
    generalize checkLs l = c at *
    refine ACalls.body tok Try.func4 rfl (by kernel_rfl) (by rw [Try.ntmps4]; simp) ?_
    simp only [Try.ntmps4, Try.results4, argT]
    repeat' (first|refine AL.do tok rfl rfl ?_|refine AL.nil ?_|refine AW.seq fun K hK => ?_|refine AW.region ?_|refine AL.no rfl rfl ?_|(refine hK _ ?_; clear hK)|(clear hK; refine hK _ ?_; clear hK)|(clear hK; clear hK; refine hK _ ?_; clear hK)|refine qaW ?_|refine qa1 tok ?_|refine qa2 tok ?_|refine qa3 tok ?_|refine AL.loadR tok rfl rfl rfl rfl rfl rfl ?_|refine qa4 tok ?_|refine qa5 tok ?_|refine AW.block ?_|refine AW.exit ?_|refine AW.skip ?_|refine qc1 (kv ..) ?_|refine qc2 (kv ..) ?_|refine qc1 (kc ..) ?_|refine qc2 (kc ..) ?_|refine qc1 (ke ..) ?_|refine qc2 (ke ..) ?_|((fail_if_success (refine AL.guard (b := true) rfl rfl ?_ ?_)); (fail_if_success (refine AL.guard (b := false) rfl rfl ?_ ?_)); refine AL.guard rfl rfl (fun hg => ?_) (fun hg => ?_) <;> ((try simp only [DX] at hg) <;> (try first|(exfalso; omega)|exact absurd trivial hg|exact False.elim hg|exact absurd rfl hg)))|refine AW.condT rfl ?_|refine AW.condF rfl ?_|(refine AW.cond rfl (fun hg => ?_) (fun hg => ?_) <;> ((try simp only [DX] at hg) <;> (try first|(exfalso; omega)|exact absurd trivial hg|exact False.elim hg|exact absurd rfl hg))))
    all_goals (try simp only [DX] at *)
    all_goals try (exfalso; first | exact hg | exact hg rfl | omega | contradiction)
    all_goals
      refine AW.ret ?_
      refine ⟨_, _, _, _, rfl, Out.pure rfl ⟨?_, rfl⟩ rfl⟩
      (try simp)
end Go.Proofs.Try
