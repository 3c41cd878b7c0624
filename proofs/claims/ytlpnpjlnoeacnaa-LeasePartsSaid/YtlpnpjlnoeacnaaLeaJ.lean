/- lease: Give. -/
import Derived.Test.YtlpnpjlnoeacnaaLeaI
import Derived.Test.YtlpnpjlnoeacnaaAMD
import Derived.Test.YtlpnpjlnoeacnaaWk
set_option linter.unusedSimpArgs false
set_option linter.unusedVariables false
namespace Go.Proofs.Try
open Go Go.AM

theorem ent27_zero {s : ByteArray} {e : En} {lo hi : Int} (h : ent27 s e lo hi = 0) : nameS s = true ∧ inS e.num 1 1099511627775 = true ∧ inS e.arr 0 1099511627776 = true ∧ inS e.att lo hi = true ∧ checkM e.msg = 0 := by
  unfold ent27 at h
  generalize nameS s = c4 at *
  generalize inS e.num 1 1099511627775 = c5 at *
  generalize inS e.arr 0 1099511627776 = c6 at *
  generalize inS e.att lo hi = c7 at *
  cases c4 <;> cases c5 <;> cases c6 <;> cases c7 <;> first | (exfalso; simp at h; done) | exact ⟨rfl, rfl, rfl, rfl, by simpa using h⟩
set_option maxHeartbeats 16000000 in
set_option maxRecDepth 10000 in
theorem give_pr (l : List Le) (tag own : Int) (s : ByteArray) (e : En) (hl : l.length ≤ 1000000) (ho : OkL l) (hm : OkM e.msg) : ACallPR Try.prog 17 [rowL l, i64 tag, i64 own, st s, aggE e] fun r' => nd3 r' = giveAV (giveS l tag own s e) := by
  have hlm : (l.map encL).length = l.length := List.length_map ..
  have k1 := within_calls tag 1 1099511627776
  have k2 := within_calls own 0 1099511627776
  have k3 := name_calls s
  have k4 := within_calls e.num 1 1099511627775
  have k5 := within_calls e.arr 0 1099511627776
  have k6 := within_calls e.att 0 1099511627775
  have k7 := checkM_calls e.msg (by have := hm.1; omega)
  have k8 := contL_calls l s e
  have k9 := copyL_calls (giveL tag own s e) hm
  have ks := split1_calls l (fun _ => false) 50 [] [] hl ho (fun x hx => by simp at hx) (fun b hb => by
    rcases List.mem_cons.1 hb with rfl | hb
    · intro x hx
      rw [List.mem_singleton.1 hx]
      exact .fn _ _ fun y hy => by simp at hy
    · simp at hb) (fun x _ => never_calls x _)
  rw [show l.filter (fun x => !false) = l from List.filter_eq_self.2 (fun _ _ => rfl), show l.filter (fun _ => false) = [] from List.filter_eq_nil_iff.2 (fun _ _ => by simp)] at ks
  have hat := ent_att (s := s) (e := e) (lo := 0) (hi := 1099511627775)
  unfold giveS
  generalize inS tag 1 1099511627776 = c1 at *
  generalize inS own 0 1099511627776 = c2 at *
  generalize hasS l s e.num = c8 at *
  cases c1 with
  | false =>
    refine ACalls.body tok Try.func17 rfl (by kernel_rfl) (by rw [Try.ntmps17]; simp) ?_
    simp only [Try.ntmps17, Try.results17, argT]
    repeat' (first|refine AL.do tok rfl rfl ?_|refine AL.nil ?_|refine AW.seq fun K hK => ?_|refine AW.region ?_|refine AL.no rfl rfl ?_|(refine hK _ ?_; clear hK)|(clear hK; refine hK _ ?_; clear hK)|(clear hK; clear hK; refine hK _ ?_; clear hK)|refine qaW ?_|refine qa1 tok ?_|refine qa2 tok ?_|refine qa3 tok ?_|refine AL.loadR tok rfl rfl rfl rfl rfl rfl ?_|refine qa4 tok ?_|refine qa5 tok ?_|refine AW.block ?_|refine AW.exit ?_|refine AW.skip ?_|refine qc1 (k1 ..) ?_|refine qc2 (k1 ..) ?_|((fail_if_success (refine AL.guard (b := true) rfl rfl ?_ ?_)); (fail_if_success (refine AL.guard (b := false) rfl rfl ?_ ?_)); refine AL.guard rfl rfl (fun hg => ?_) (fun hg => ?_) <;> ((try simp only [DX] at hg) <;> (try first|(exfalso; omega)|exact absurd trivial hg|exact False.elim hg|exact absurd rfl hg)))|refine AW.condT rfl ?_|refine AW.condF rfl ?_|(refine AW.cond rfl (fun hg => ?_) (fun hg => ?_) <;> ((try simp only [DX] at hg) <;> (try first|(exfalso; omega)|exact absurd trivial hg|exact False.elim hg|exact absurd rfl hg))))
    all_goals (try simp only [DX] at *)
    all_goals try (exfalso; first | exact hg | exact hg rfl | omega | contradiction)
    all_goals
      refine AW.ret ?_
      refine ⟨_, _, _, _, rfl, Out.pure rfl ⟨?_, rfl⟩ rfl⟩
      first | rfl | (simp; rfl)
  | true =>
  cases c2 with
  | false =>
    refine ACalls.body tok Try.func17 rfl (by kernel_rfl) (by rw [Try.ntmps17]; simp) ?_
    simp only [Try.ntmps17, Try.results17, argT]
    repeat' (first|refine AL.do tok rfl rfl ?_|refine AL.nil ?_|refine AW.seq fun K hK => ?_|refine AW.region ?_|refine AL.no rfl rfl ?_|(refine hK _ ?_; clear hK)|(clear hK; refine hK _ ?_; clear hK)|(clear hK; clear hK; refine hK _ ?_; clear hK)|refine qaW ?_|refine qa1 tok ?_|refine qa2 tok ?_|refine qa3 tok ?_|refine AL.loadR tok rfl rfl rfl rfl rfl rfl ?_|refine qa4 tok ?_|refine qa5 tok ?_|refine AW.block ?_|refine AW.exit ?_|refine AW.skip ?_|refine qc1 (k1 ..) ?_|refine qc2 (k1 ..) ?_|refine qc1 (k2 ..) ?_|refine qc2 (k2 ..) ?_|((fail_if_success (refine AL.guard (b := true) rfl rfl ?_ ?_)); (fail_if_success (refine AL.guard (b := false) rfl rfl ?_ ?_)); refine AL.guard rfl rfl (fun hg => ?_) (fun hg => ?_) <;> ((try simp only [DX] at hg) <;> (try first|(exfalso; omega)|exact absurd trivial hg|exact False.elim hg|exact absurd rfl hg)))|refine AW.condT rfl ?_|refine AW.condF rfl ?_|(refine AW.cond rfl (fun hg => ?_) (fun hg => ?_) <;> ((try simp only [DX] at hg) <;> (try first|(exfalso; omega)|exact absurd trivial hg|exact False.elim hg|exact absurd rfl hg))))
    all_goals (try simp only [DX] at *)
    all_goals try (exfalso; first | exact hg | exact hg rfl | omega | contradiction)
    all_goals
      refine AW.ret ?_
      refine ⟨_, _, _, _, rfl, Out.pure rfl ⟨?_, rfl⟩ rfl⟩
      first | rfl | (simp; rfl)
  | true =>
  by_cases h3 : ent27 s e 0 1099511627775 = 0
  rotate_left
  · unfold ent27 at h3 ⊢
    generalize nameS s = c3 at *
    generalize inS e.num 1 1099511627775 = c4 at *
    generalize inS e.arr 0 1099511627776 = c5 at *
    generalize inS e.att 0 1099511627775 = c6 at *
    generalize checkM e.msg = c7 at *
    cases c3 with
    | false =>
      refine ACalls.body tok Try.func17 rfl (by kernel_rfl) (by rw [Try.ntmps17]; simp) ?_
      simp only [Try.ntmps17, Try.results17, argT]
      repeat' (first|refine AL.do tok rfl rfl ?_|refine AL.nil ?_|refine AW.seq fun K hK => ?_|refine AW.region ?_|refine AL.no rfl rfl ?_|(refine hK _ ?_; clear hK)|(clear hK; refine hK _ ?_; clear hK)|(clear hK; clear hK; refine hK _ ?_; clear hK)|refine qaW ?_|refine qa1 tok ?_|refine qa2 tok ?_|refine qa3 tok ?_|refine AL.loadR tok rfl rfl rfl rfl rfl rfl ?_|refine qa4 tok ?_|refine qa5 tok ?_|refine AW.block ?_|refine AW.exit ?_|refine AW.skip ?_|refine qc1 (k1 ..) ?_|refine qc2 (k1 ..) ?_|refine qc1 (k2 ..) ?_|refine qc2 (k2 ..) ?_|refine qc1 (k3 ..) ?_|refine qc2 (k3 ..) ?_|((fail_if_success (refine AL.guard (b := true) rfl rfl ?_ ?_)); (fail_if_success (refine AL.guard (b := false) rfl rfl ?_ ?_)); refine AL.guard rfl rfl (fun hg => ?_) (fun hg => ?_) <;> ((try simp only [DX] at hg) <;> (try first|(exfalso; omega)|exact absurd trivial hg|exact False.elim hg|exact absurd rfl hg)))|refine AW.condT rfl ?_|refine AW.condF rfl ?_|(refine AW.cond rfl (fun hg => ?_) (fun hg => ?_) <;> ((try simp only [DX] at hg) <;> (try first|(exfalso; omega)|exact absurd trivial hg|exact False.elim hg|exact absurd rfl hg))))
      all_goals (try simp only [DX] at *)
      all_goals try (exfalso; first | exact hg | exact hg rfl | omega | contradiction)
      all_goals
        refine AW.ret ?_
        refine ⟨_, _, _, _, rfl, Out.pure rfl ⟨?_, rfl⟩ rfl⟩
        first | rfl | (simp; rfl)
    | true =>
    cases c4 with
    | false =>
      refine ACalls.body tok Try.func17 rfl (by kernel_rfl) (by rw [Try.ntmps17]; simp) ?_
      simp only [Try.ntmps17, Try.results17, argT]
      repeat' (first|refine AL.do tok rfl rfl ?_|refine AL.nil ?_|refine AW.seq fun K hK => ?_|refine AW.region ?_|refine AL.no rfl rfl ?_|(refine hK _ ?_; clear hK)|(clear hK; refine hK _ ?_; clear hK)|(clear hK; clear hK; refine hK _ ?_; clear hK)|refine qaW ?_|refine qa1 tok ?_|refine qa2 tok ?_|refine qa3 tok ?_|refine AL.loadR tok rfl rfl rfl rfl rfl rfl ?_|refine qa4 tok ?_|refine qa5 tok ?_|refine AW.block ?_|refine AW.exit ?_|refine AW.skip ?_|refine qc1 (k1 ..) ?_|refine qc2 (k1 ..) ?_|refine qc1 (k2 ..) ?_|refine qc2 (k2 ..) ?_|refine qc1 (k3 ..) ?_|refine qc2 (k3 ..) ?_|refine qc1 (k4 ..) ?_|refine qc2 (k4 ..) ?_|((fail_if_success (refine AL.guard (b := true) rfl rfl ?_ ?_)); (fail_if_success (refine AL.guard (b := false) rfl rfl ?_ ?_)); refine AL.guard rfl rfl (fun hg => ?_) (fun hg => ?_) <;> ((try simp only [DX] at hg) <;> (try first|(exfalso; omega)|exact absurd trivial hg|exact False.elim hg|exact absurd rfl hg)))|refine AW.condT rfl ?_|refine AW.condF rfl ?_|(refine AW.cond rfl (fun hg => ?_) (fun hg => ?_) <;> ((try simp only [DX] at hg) <;> (try first|(exfalso; omega)|exact absurd trivial hg|exact False.elim hg|exact absurd rfl hg))))
      all_goals (try simp only [DX] at *)
      all_goals try (exfalso; first | exact hg | exact hg rfl | omega | contradiction)
      all_goals
        refine AW.ret ?_
        refine ⟨_, _, _, _, rfl, Out.pure rfl ⟨?_, rfl⟩ rfl⟩
        first | rfl | (simp; rfl)
    | true =>
    cases c5 with
    | false =>
      refine ACalls.body tok Try.func17 rfl (by kernel_rfl) (by rw [Try.ntmps17]; simp) ?_
      simp only [Try.ntmps17, Try.results17, argT]
      repeat' (first|refine AL.do tok rfl rfl ?_|refine AL.nil ?_|refine AW.seq fun K hK => ?_|refine AW.region ?_|refine AL.no rfl rfl ?_|(refine hK _ ?_; clear hK)|(clear hK; refine hK _ ?_; clear hK)|(clear hK; clear hK; refine hK _ ?_; clear hK)|refine qaW ?_|refine qa1 tok ?_|refine qa2 tok ?_|refine qa3 tok ?_|refine AL.loadR tok rfl rfl rfl rfl rfl rfl ?_|refine qa4 tok ?_|refine qa5 tok ?_|refine AW.block ?_|refine AW.exit ?_|refine AW.skip ?_|refine qc1 (k1 ..) ?_|refine qc2 (k1 ..) ?_|refine qc1 (k2 ..) ?_|refine qc2 (k2 ..) ?_|refine qc1 (k3 ..) ?_|refine qc2 (k3 ..) ?_|refine qc1 (k4 ..) ?_|refine qc2 (k4 ..) ?_|refine qc1 (k5 ..) ?_|refine qc2 (k5 ..) ?_|((fail_if_success (refine AL.guard (b := true) rfl rfl ?_ ?_)); (fail_if_success (refine AL.guard (b := false) rfl rfl ?_ ?_)); refine AL.guard rfl rfl (fun hg => ?_) (fun hg => ?_) <;> ((try simp only [DX] at hg) <;> (try first|(exfalso; omega)|exact absurd trivial hg|exact False.elim hg|exact absurd rfl hg)))|refine AW.condT rfl ?_|refine AW.condF rfl ?_|(refine AW.cond rfl (fun hg => ?_) (fun hg => ?_) <;> ((try simp only [DX] at hg) <;> (try first|(exfalso; omega)|exact absurd trivial hg|exact False.elim hg|exact absurd rfl hg))))
      all_goals (try simp only [DX] at *)
      all_goals try (exfalso; first | exact hg | exact hg rfl | omega | contradiction)
      all_goals
        refine AW.ret ?_
        refine ⟨_, _, _, _, rfl, Out.pure rfl ⟨?_, rfl⟩ rfl⟩
        first | rfl | (simp; rfl)
    | true =>
    cases c6 with
    | false =>
      refine ACalls.body tok Try.func17 rfl (by kernel_rfl) (by rw [Try.ntmps17]; simp) ?_
      simp only [Try.ntmps17, Try.results17, argT]
      repeat' (first|refine AL.do tok rfl rfl ?_|refine AL.nil ?_|refine AW.seq fun K hK => ?_|refine AW.region ?_|refine AL.no rfl rfl ?_|(refine hK _ ?_; clear hK)|(clear hK; refine hK _ ?_; clear hK)|(clear hK; clear hK; refine hK _ ?_; clear hK)|refine qaW ?_|refine qa1 tok ?_|refine qa2 tok ?_|refine qa3 tok ?_|refine AL.loadR tok rfl rfl rfl rfl rfl rfl ?_|refine qa4 tok ?_|refine qa5 tok ?_|refine AW.block ?_|refine AW.exit ?_|refine AW.skip ?_|refine qc1 (k1 ..) ?_|refine qc2 (k1 ..) ?_|refine qc1 (k2 ..) ?_|refine qc2 (k2 ..) ?_|refine qc1 (k3 ..) ?_|refine qc2 (k3 ..) ?_|refine qc1 (k4 ..) ?_|refine qc2 (k4 ..) ?_|refine qc1 (k5 ..) ?_|refine qc2 (k5 ..) ?_|refine qc1 (k6 ..) ?_|refine qc2 (k6 ..) ?_|((fail_if_success (refine AL.guard (b := true) rfl rfl ?_ ?_)); (fail_if_success (refine AL.guard (b := false) rfl rfl ?_ ?_)); refine AL.guard rfl rfl (fun hg => ?_) (fun hg => ?_) <;> ((try simp only [DX] at hg) <;> (try first|(exfalso; omega)|exact absurd trivial hg|exact False.elim hg|exact absurd rfl hg)))|refine AW.condT rfl ?_|refine AW.condF rfl ?_|(refine AW.cond rfl (fun hg => ?_) (fun hg => ?_) <;> ((try simp only [DX] at hg) <;> (try first|(exfalso; omega)|exact absurd trivial hg|exact False.elim hg|exact absurd rfl hg))))
      all_goals (try simp only [DX] at *)
      all_goals try (exfalso; first | exact hg | exact hg rfl | omega | contradiction)
      all_goals
        refine AW.ret ?_
        refine ⟨_, _, _, _, rfl, Out.pure rfl ⟨?_, rfl⟩ rfl⟩
        first | rfl | (simp; rfl)
    | true =>
    have h7 : c7 ≠ 0 := fun h => h3 (by rw [h]; rfl)
    refine ACalls.body tok Try.func17 rfl (by kernel_rfl) (by rw [Try.ntmps17]; simp) ?_
    simp only [Try.ntmps17, Try.results17, argT]
    repeat' (first|refine AL.do tok rfl rfl ?_|refine AL.nil ?_|refine AW.seq fun K hK => ?_|refine AW.region ?_|refine AL.no rfl rfl ?_|(refine hK _ ?_; clear hK)|(clear hK; refine hK _ ?_; clear hK)|(clear hK; clear hK; refine hK _ ?_; clear hK)|refine qaW ?_|refine qa1 tok ?_|refine qa2 tok ?_|refine qa3 tok ?_|refine AL.loadR tok rfl rfl rfl rfl rfl rfl ?_|refine qa4 tok ?_|refine qa5 tok ?_|refine AW.block ?_|refine AW.exit ?_|refine AW.skip ?_|refine qc1 (k1 ..) ?_|refine qc2 (k1 ..) ?_|refine qc1 (k2 ..) ?_|refine qc2 (k2 ..) ?_|refine qc1 (k3 ..) ?_|refine qc2 (k3 ..) ?_|refine qc1 (k4 ..) ?_|refine qc2 (k4 ..) ?_|refine qc1 (k5 ..) ?_|refine qc2 (k5 ..) ?_|refine qc1 (k6 ..) ?_|refine qc2 (k6 ..) ?_|refine qc1 (k7 ..) ?_|refine qc2 (k7 ..) ?_|((fail_if_success (refine AL.guard (b := true) rfl rfl ?_ ?_)); (fail_if_success (refine AL.guard (b := false) rfl rfl ?_ ?_)); refine AL.guard rfl rfl (fun hg => ?_) (fun hg => ?_) <;> ((try simp only [DX] at hg) <;> (try first|(exfalso; omega)|exact absurd trivial hg|exact False.elim hg|exact absurd rfl hg)))|refine AW.condT rfl ?_|refine AW.condF rfl ?_|(refine AW.cond rfl (fun hg => ?_) (fun hg => ?_) <;> ((try simp only [DX] at hg) <;> (try first|(exfalso; omega)|exact absurd trivial hg|exact False.elim hg|exact absurd rfl hg))))
    all_goals (try simp only [DX] at *)
    all_goals try (exfalso; first | exact hg | exact hg rfl | omega | contradiction)
    all_goals
      refine AW.ret ?_
      refine ⟨_, _, _, _, rfl, Out.pure rfl ⟨?_, rfl⟩ rfl⟩
      first | (simp [h7]; done) | (simp [h7]; rfl)
  have hat := hat h3
  obtain ⟨e3, e4, e5, e6, e7⟩ := ent27_zero h3
  rw [e3] at k3
  rw [e4] at k4
  rw [e5] at k5
  rw [e6] at k6
  rw [e7] at k7
  clear e3 e4 e5 e6 e7
  rw [if_pos (show (true && true) = true from rfl), if_pos h3]
  clear h3
  have hix : (((l.map encL).length : Int) - 1).toNat = l.length - 1 := by omega
  have hlt2 : ∀ m : Nat, m = l.length - 1 → ∀ h : m < l.length, l[m].tag = (l[l.length - 1]'(by omega)).tag := fun m h1 h2 => by subst h1; rfl
  by_cases hz : l.length = 0
  · have hord : ordS l tag = false := by unfold ordS; rw [dif_neg (by omega)]
    rw [hord, if_neg (by decide)]
    clear hlt2 hix
    have hlt2 : True → True → True := fun _ _ => trivial
    have hix : True := trivial
    cases c8 with
    | true =>
      rw [if_pos rfl]
      refine ACalls.body tok Try.func17 rfl (by kernel_rfl) (by rw [Try.ntmps17]; simp) ?_
      simp only [Try.ntmps17, Try.results17, argT]
      repeat' (first|refine AL.do tok rfl rfl ?_|refine AL.nil ?_|refine AW.seq fun K hK => ?_|refine AW.region ?_|refine AL.no rfl rfl ?_|(refine hK _ ?_; clear hK)|(clear hK; refine hK _ ?_; clear hK)|(clear hK; clear hK; refine hK _ ?_; clear hK)|refine qaW ?_|refine qa1 tok ?_|refine qa2 tok ?_|refine qa3 tok ?_|refine AL.loadR tok rfl rfl rfl rfl rfl rfl ?_|refine qa4 tok ?_|refine qa5 tok ?_|refine AW.block ?_|refine AW.exit ?_|refine AW.skip ?_|refine qc1 (k1 ..) ?_|refine qc2 (k1 ..) ?_|refine qc1 (k2 ..) ?_|refine qc2 (k2 ..) ?_|refine qc1 (k3 ..) ?_|refine qc2 (k3 ..) ?_|refine qc1 (k4 ..) ?_|refine qc2 (k4 ..) ?_|refine qc1 (k5 ..) ?_|refine qc2 (k5 ..) ?_|refine qc1 (k6 ..) ?_|refine qc2 (k6 ..) ?_|refine qc1 (k7 ..) ?_|refine qc2 (k7 ..) ?_|((fail_if_success (refine AL.guard (b := true) rfl rfl ?_ ?_)); (fail_if_success (refine AL.guard (b := false) rfl rfl ?_ ?_)); refine AL.guard rfl rfl (fun hg => ?_) (fun hg => ?_) <;> ((try simp only [DX] at hg) <;> (try first|(exfalso; omega)|exact absurd trivial hg|exact False.elim hg|exact absurd rfl hg)))|refine AW.condT rfl ?_|refine AW.condF rfl ?_|(refine AW.cond rfl (fun hg => ?_) (fun hg => ?_) <;> ((try simp only [DX] at hg) <;> (try first|(exfalso; omega)|exact absurd trivial hg|exact False.elim hg|exact absurd rfl hg))))
      all_goals (try simp only [DX] at *)
      all_goals try (exfalso; first | exact hg | exact hg rfl | omega)
      refine AL.callU rfl rfl rfl rfl [.loc 0, .loc 1] (ys := [rowL l, .fn 48 [.ptr (.par 0) 0, .ptr (.par 1) 0]]) (HpC := [boxS s, boxE e]) rfl rfl (by decide) rfl rfl k8 (fun r hr => ?_)
      subst hr
      repeat (first|refine AL.do tok rfl rfl ?_|refine AL.nil ?_|refine AW.seq fun K hK => ?_|refine AW.region ?_|refine AL.no rfl rfl ?_|(refine hK _ ?_; clear hK)|(clear hK; refine hK _ ?_; clear hK)|(clear hK; clear hK; refine hK _ ?_; clear hK)|refine qaW ?_|refine qa1 tok ?_|refine qa2 tok ?_|refine qa3 tok ?_|refine AL.loadR tok rfl rfl rfl rfl rfl rfl ?_|refine qa4 tok ?_|refine qa5 tok ?_|refine AW.block ?_|refine AW.exit ?_|refine AW.skip ?_)
      refine AW.cond rfl (fun _ => ?_) (fun hg => by cases hg)
      repeat (first|refine AL.do tok rfl rfl ?_|refine AL.nil ?_|refine AW.seq fun K hK => ?_|refine AW.region ?_|refine AL.no rfl rfl ?_|(refine hK _ ?_; clear hK)|(clear hK; refine hK _ ?_; clear hK)|(clear hK; clear hK; refine hK _ ?_; clear hK)|refine qaW ?_|refine qa1 tok ?_|refine qa2 tok ?_|refine qa3 tok ?_|refine AL.loadR tok rfl rfl rfl rfl rfl rfl ?_|refine qa4 tok ?_|refine qa5 tok ?_|refine AW.block ?_|refine AW.exit ?_|refine AW.skip ?_)
      refine AW.ret ?_
      refine ⟨_, _, _, _, rfl, Out.pure rfl ⟨?_, rfl⟩ rfl⟩
      rfl
    | false =>
      rw [if_neg (by decide)]
      by_cases hfull : 4096 ≤ l.length
      · exfalso
        omega
      · rw [if_neg hfull]
        refine ACalls.body tok Try.func17 rfl (by kernel_rfl) (by rw [Try.ntmps17]; simp) ?_
        simp only [Try.ntmps17, Try.results17, argT]
        repeat' (first|refine AL.do tok rfl rfl ?_|refine AL.nil ?_|refine AW.seq fun K hK => ?_|refine AW.region ?_|refine AL.no rfl rfl ?_|(refine hK _ ?_; clear hK)|(clear hK; refine hK _ ?_; clear hK)|(clear hK; clear hK; refine hK _ ?_; clear hK)|refine qaW ?_|refine qa1 tok ?_|refine qa2 tok ?_|refine qa3 tok ?_|refine AL.loadR tok rfl rfl rfl rfl rfl rfl ?_|refine qa4 tok ?_|refine qa5 tok ?_|refine AW.block ?_|refine AW.exit ?_|refine AW.skip ?_|refine qc1 (k1 ..) ?_|refine qc2 (k1 ..) ?_|refine qc1 (k2 ..) ?_|refine qc2 (k2 ..) ?_|refine qc1 (k3 ..) ?_|refine qc2 (k3 ..) ?_|refine qc1 (k4 ..) ?_|refine qc2 (k4 ..) ?_|refine qc1 (k5 ..) ?_|refine qc2 (k5 ..) ?_|refine qc1 (k6 ..) ?_|refine qc2 (k6 ..) ?_|refine qc1 (k7 ..) ?_|refine qc2 (k7 ..) ?_|((fail_if_success (refine AL.guard (b := true) rfl rfl ?_ ?_)); (fail_if_success (refine AL.guard (b := false) rfl rfl ?_ ?_)); refine AL.guard rfl rfl (fun hg => ?_) (fun hg => ?_) <;> ((try simp only [DX] at hg) <;> (try first|(exfalso; omega)|exact absurd trivial hg|exact False.elim hg|exact absurd rfl hg)))|refine AW.condT rfl ?_|refine AW.condF rfl ?_|(refine AW.cond rfl (fun hg => ?_) (fun hg => ?_) <;> ((try simp only [DX] at hg) <;> (try first|(exfalso; omega)|exact absurd trivial hg|exact False.elim hg|exact absurd rfl hg))))
        all_goals (try simp only [DX] at *)
        all_goals try (exfalso; first | exact hg | exact hg rfl | omega)
        refine AL.callU rfl rfl rfl rfl [.loc 0, .loc 1] (ys := [rowL l, .fn 48 [.ptr (.par 0) 0, .ptr (.par 1) 0]]) (HpC := [boxS s, boxE e]) rfl rfl (by decide) rfl rfl k8 (fun r hr => ?_)
        subst hr
        repeat (first|refine AL.do tok rfl rfl ?_|refine AL.nil ?_|refine AW.seq fun K hK => ?_|refine AW.region ?_|refine AL.no rfl rfl ?_|(refine hK _ ?_; clear hK)|(clear hK; refine hK _ ?_; clear hK)|(clear hK; clear hK; refine hK _ ?_; clear hK)|refine qaW ?_|refine qa1 tok ?_|refine qa2 tok ?_|refine qa3 tok ?_|refine AL.loadR tok rfl rfl rfl rfl rfl rfl ?_|refine qa4 tok ?_|refine qa5 tok ?_|refine AW.block ?_|refine AW.exit ?_|refine AW.skip ?_)
        refine AW.cond rfl (fun hg => by cases hg) (fun _ => ?_)
        repeat (first|refine AL.do tok rfl rfl ?_|refine AL.nil ?_|refine AW.seq fun K hK => ?_|refine AW.region ?_|refine AL.no rfl rfl ?_|(refine hK _ ?_; clear hK)|(clear hK; refine hK _ ?_; clear hK)|(clear hK; clear hK; refine hK _ ?_; clear hK)|refine qaW ?_|refine qa1 tok ?_|refine qa2 tok ?_|refine qa3 tok ?_|refine AL.loadR tok rfl rfl rfl rfl rfl rfl ?_|refine qa4 tok ?_|refine qa5 tok ?_|refine AW.block ?_|refine AW.exit ?_|refine AW.skip ?_)
        refine AW.cond rfl (fun hg => by simp at hg; omega) (fun hg => ?_)
        repeat (first|refine AL.do tok rfl rfl ?_|refine AL.nil ?_|refine AW.seq fun K hK => ?_|refine AW.region ?_|refine AL.no rfl rfl ?_|(refine hK _ ?_; clear hK)|(clear hK; refine hK _ ?_; clear hK)|(clear hK; clear hK; refine hK _ ?_; clear hK)|refine qaW ?_|refine qa1 tok ?_|refine qa2 tok ?_|refine qa3 tok ?_|refine AL.loadR tok rfl rfl rfl rfl rfl rfl ?_|refine qa4 tok ?_|refine qa5 tok ?_|refine AW.block ?_|refine AW.exit ?_|refine AW.skip ?_)
        refine AL.buildF tok rfl rfl rfl rfl rfl rfl rfl rfl rfl rfl ?_
        repeat (first|refine AL.do tok rfl rfl ?_|refine AL.nil ?_|refine AW.seq fun K hK => ?_|refine AW.region ?_|refine AL.no rfl rfl ?_|(refine hK _ ?_; clear hK)|(clear hK; refine hK _ ?_; clear hK)|(clear hK; clear hK; refine hK _ ?_; clear hK)|refine qaW ?_|refine qa1 tok ?_|refine qa2 tok ?_|refine qa3 tok ?_|refine AL.loadR tok rfl rfl rfl rfl rfl rfl ?_|refine qa4 tok ?_|refine qa5 tok ?_|refine AW.block ?_|refine AW.exit ?_|refine AW.skip ?_)
        refine AL.callN [.loc 4] ks rfl rfl rfl rfl rfl rfl (by decide) rfl rfl (fun r Hr hr => ?_)
        obtain ⟨rfl, rfl⟩ := hr
        refine ⟨rfl, ?_⟩
        repeat (first|refine AL.do tok rfl rfl ?_|refine AL.nil ?_|refine AW.seq fun K hK => ?_|refine AW.region ?_|refine AL.no rfl rfl ?_|(refine hK _ ?_; clear hK)|(clear hK; refine hK _ ?_; clear hK)|(clear hK; clear hK; refine hK _ ?_; clear hK)|refine qaW ?_|refine qa1 tok ?_|refine qa2 tok ?_|refine qa3 tok ?_|refine AL.loadR tok rfl rfl rfl rfl rfl rfl ?_|refine qa4 tok ?_|refine qa5 tok ?_|refine AW.block ?_|refine AW.exit ?_|refine AW.skip ?_)
        refine AW.imp (σ' := ⟨99, [(15, .own (.loc 5)), (14, .ptr (.loc 3) 0), (11, .ptr (.loc 2) 0)], [(5, some (.row 47 16 (l.map encL))), (3, some (.box 47 (cellsL (giveL tag own s e)))), (2, some (.box 47 [i64 0, i64 0, st ⟨#[]⟩, i64 0, i64 0, i64 0, i64 0, st ⟨#[]⟩, st ⟨#[]⟩, i64 0, bo false, i64 0, i64 0, st ⟨#[]⟩, i64 0, .nilrow]))], [], 7⟩) ?_ ?_
        · (refine Imp.weak id (fun _ _ _ _ h => h) (by first|assumption|(intro b hb; cases hb)) ?_ ?_ <;> (repeat' (first|exact trivial|exact Nat.lt_of_lt_of_le (Nat.lt_succ_self _) (Nat.le_of_ble_eq_true rfl)|exact rfl|exact Or.inl ⟨rfl, rfl⟩|exact Or.inr ⟨rfl, LF.fn _ _ ‹_›⟩|refine ⟨?_, ?_⟩)))
        refine AW.anyN mix [[], [], [1], [1, 2], [0, 1, 2, 3], [], [0, 1, 2, 3, 4, 5], [0, 1, 2, 3, 4, 5, 6], [0, 1, 2, 3, 4, 5, 6, 7], [0, 1, 2, 3, 4, 5, 6, 7, 8]] [[93, 94, 95, 97], [92, 97], [92, 97], [92, 97], [97], [92, 93, 94, 95, 96], [], [], [], []] [[], [], [], [], [], [5, 7], [], [], [], []] [(8, 2), (4, 5), (4, 7)] 7 17 rfl (by rfl) (by decide +kernel) rfl (by first|assumption|(intro b hb; cases hb)) ?_ <;> repeat' (first|refine AR.step rfl rfl (by first|exact OSp.do tok rfl rfl rfl|exact OSp.no rfl rfl|exact OSp.noN rfl|exact qoW|exact OSp.copy tok rfl rfl rfl rfl rfl rfl rfl (by (first | (intro x hx; obtain ⟨_, _, rfl⟩ := List.mem_map.1 hx; rfl) | (intro x hx; replace hx := List.mem_of_mem_take (List.mem_of_mem_drop hx); obtain ⟨_, _, rfl⟩ := List.mem_map.1 hx; rfl) | (simp; done))) rfl rfl rfl rfl|exact OSp.buildSlice tok rfl rfl rfl rfl rfl rfl rfl rfl|exact OSp.append tok rfl rfl rfl rfl rfl rfl rfl rfl rfl rfl rfl (by first|(intro x hx; obtain ⟨_, _, rfl⟩ := List.mem_map.1 hx; rfl)|(simp; done)) (by simp; omega) (by simp; omega)|exact OSp.alloc tok rfl rfl rfl rfl|exact OSp.box tok rfl rfl rfl rfl rfl|exact OSp.boxC tok rfl rfl rfl rfl rfl|exact OSp.store tok rfl rfl rfl rfl rfl rfl rfl rfl|exact OSp.appIn tok rfl rfl rfl rfl rfl (by first|assumption|(intro e; have := congrArg List.length e; simp at this; omega)) rfl rfl (by (first | (intro x hx; obtain ⟨_, _, rfl⟩ := List.mem_map.1 hx; rfl) | (intro x hx; replace hx := List.mem_of_mem_take (List.mem_of_mem_drop hx); obtain ⟨_, _, rfl⟩ := List.mem_map.1 hx; rfl) | (simp; done))) rfl rfl rfl rfl (by first|omega|(simp; omega))|exact OSp.copyX tok rfl rfl rfl rfl rfl rfl rfl rfl (by first|omega|(simp; omega)) (by first|omega|(simp; omega)) (by first|omega|(simp; omega)) (by first|omega|(simp; omega)) (by first|omega|(simp; omega))|exact OSp.idxO tok rfl rfl rfl rfl rfl rfl rfl rfl (by first|omega|(simp; omega))|exact OSp.loadR tok rfl rfl rfl rfl (by first|omega|(simp; omega)) rfl|exact OSp.callS rfl rfl rfl rfl rfl rfl (k9 ..) rfl|exact OSp.callP rfl rfl rfl rfl rfl (k9 ..)|exact OSp.callO rfl rfl rfl rfl rfl (k9 ..)|exact OSp.callO rfl rfl rfl rfl rfl k9|exact OSp.callG2 rfl rfl rfl rfl (k9 ..) rfl rfl rfl rfl rfl) (by rfl) (by rfl) ?_|refine AR.done rfl rfl ?_|(refine AR.guard rfl rfl rfl rfl (fun hg => ?_) (fun hg => ?_) <;> ((try simp only [DX] at hg) <;> (try first|(exfalso; omega)|exact absurd trivial hg|exact False.elim hg|exact absurd rfl hg))))
        repeat (first|refine AL.do tok rfl rfl ?_|refine AL.nil ?_|refine AW.seq fun K hK => ?_|refine AW.region ?_|refine AL.no rfl rfl ?_|(refine hK _ ?_; clear hK)|(clear hK; refine hK _ ?_; clear hK)|(clear hK; clear hK; refine hK _ ?_; clear hK)|refine qaW ?_|refine qa1 tok ?_|refine qa2 tok ?_|refine qa3 tok ?_|refine AL.loadR tok rfl rfl rfl rfl rfl rfl ?_|refine qa4 tok ?_|refine qa5 tok ?_|refine AW.block ?_|refine AW.exit ?_|refine AW.skip ?_)
        refine AW.frz 11 rfl rfl rfl ?_
        refine AW.ret ?_
        refine ⟨_, _, _, _, rfl, Out.pure rfl ⟨?_, rfl⟩ rfl⟩
        have ea : (l ++ [giveL tag own s e]).map encL = l.map encL ++ [encL (giveL tag own s e)] := List.map_append ..
        show _ = AV.tup [.d (.row ((l ++ [giveL tag own s e]).map encL)), aggL (giveL tag own s e), i64 0]
        rw [ea]
        rfl
  · by_cases hle : tag ≤ (l[l.length - 1]'(by omega)).tag
    · have hord : ordS l tag = true := by unfold ordS; rw [dif_pos (by omega)]; simpa using hle
      rw [hord, if_pos rfl]
      refine ACalls.body tok Try.func17 rfl (by kernel_rfl) (by rw [Try.ntmps17]; simp) ?_
      simp only [Try.ntmps17, Try.results17, argT]
      repeat' (first|refine AL.do tok rfl rfl ?_|refine AL.nil ?_|refine AW.seq fun K hK => ?_|refine AW.region ?_|refine AL.no rfl rfl ?_|(refine hK _ ?_; clear hK)|(clear hK; refine hK _ ?_; clear hK)|(clear hK; clear hK; refine hK _ ?_; clear hK)|refine qaW ?_|refine qa1 tok ?_|refine qa2 tok ?_|refine qa3 tok ?_|refine AL.loadR tok rfl rfl rfl rfl rfl rfl ?_|refine qa4 tok ?_|refine qa5 tok ?_|refine AW.block ?_|refine AW.exit ?_|refine AW.skip ?_|refine qc1 (k1 ..) ?_|refine qc2 (k1 ..) ?_|refine qc1 (k2 ..) ?_|refine qc2 (k2 ..) ?_|refine qc1 (k3 ..) ?_|refine qc2 (k3 ..) ?_|refine qc1 (k4 ..) ?_|refine qc2 (k4 ..) ?_|refine qc1 (k5 ..) ?_|refine qc2 (k5 ..) ?_|refine qc1 (k6 ..) ?_|refine qc2 (k6 ..) ?_|refine qc1 (k7 ..) ?_|refine qc2 (k7 ..) ?_|((fail_if_success (refine AL.guard (b := true) rfl rfl ?_ ?_)); (fail_if_success (refine AL.guard (b := false) rfl rfl ?_ ?_)); refine AL.guard rfl rfl (fun hg => ?_) (fun hg => ?_) <;> ((try simp only [DX] at hg) <;> (try first|(exfalso; omega)|exact absurd trivial hg|exact False.elim hg|exact absurd rfl hg)))|refine AW.condT rfl ?_|refine AW.condF rfl ?_|(refine AW.cond rfl (fun hg => ?_) (fun hg => ?_) <;> ((try simp only [DX] at hg) <;> (try first|(exfalso; omega)|exact absurd trivial hg|exact False.elim hg|exact absurd rfl hg))))
      all_goals (try simp only [DX] at *)
      all_goals try (exfalso; first | exact hg | exact hg rfl | omega | (have := hlt2 _ hix (by omega); omega))
      all_goals
        refine AW.ret ?_
        refine ⟨_, _, _, _, rfl, Out.pure rfl ⟨?_, rfl⟩ rfl⟩
        rfl
    · have hord : ordS l tag = false := by unfold ordS; rw [dif_pos (by omega)]; simpa using hle
      rw [hord, if_neg (by decide)]
      cases c8 with
      | true =>
        rw [if_pos rfl]
        refine ACalls.body tok Try.func17 rfl (by kernel_rfl) (by rw [Try.ntmps17]; simp) ?_
        simp only [Try.ntmps17, Try.results17, argT]
        repeat' (first|refine AL.do tok rfl rfl ?_|refine AL.nil ?_|refine AW.seq fun K hK => ?_|refine AW.region ?_|refine AL.no rfl rfl ?_|(refine hK _ ?_; clear hK)|(clear hK; refine hK _ ?_; clear hK)|(clear hK; clear hK; refine hK _ ?_; clear hK)|refine qaW ?_|refine qa1 tok ?_|refine qa2 tok ?_|refine qa3 tok ?_|refine AL.loadR tok rfl rfl rfl rfl rfl rfl ?_|refine qa4 tok ?_|refine qa5 tok ?_|refine AW.block ?_|refine AW.exit ?_|refine AW.skip ?_|refine qc1 (k1 ..) ?_|refine qc2 (k1 ..) ?_|refine qc1 (k2 ..) ?_|refine qc2 (k2 ..) ?_|refine qc1 (k3 ..) ?_|refine qc2 (k3 ..) ?_|refine qc1 (k4 ..) ?_|refine qc2 (k4 ..) ?_|refine qc1 (k5 ..) ?_|refine qc2 (k5 ..) ?_|refine qc1 (k6 ..) ?_|refine qc2 (k6 ..) ?_|refine qc1 (k7 ..) ?_|refine qc2 (k7 ..) ?_|((fail_if_success (refine AL.guard (b := true) rfl rfl ?_ ?_)); (fail_if_success (refine AL.guard (b := false) rfl rfl ?_ ?_)); refine AL.guard rfl rfl (fun hg => ?_) (fun hg => ?_) <;> ((try simp only [DX] at hg) <;> (try first|(exfalso; omega)|exact absurd trivial hg|exact False.elim hg|exact absurd rfl hg)))|refine AW.condT rfl ?_|refine AW.condF rfl ?_|(refine AW.cond rfl (fun hg => ?_) (fun hg => ?_) <;> ((try simp only [DX] at hg) <;> (try first|(exfalso; omega)|exact absurd trivial hg|exact False.elim hg|exact absurd rfl hg))))
        all_goals (try simp only [DX] at *)
        all_goals try (exfalso; first | exact hg | exact hg rfl | omega | (have := hlt2 _ hix (by omega); omega))
        refine AL.callU rfl rfl rfl rfl [.loc 0, .loc 1] (ys := [rowL l, .fn 48 [.ptr (.par 0) 0, .ptr (.par 1) 0]]) (HpC := [boxS s, boxE e]) rfl rfl (by decide) rfl rfl k8 (fun r hr => ?_)
        subst hr
        repeat (first|refine AL.do tok rfl rfl ?_|refine AL.nil ?_|refine AW.seq fun K hK => ?_|refine AW.region ?_|refine AL.no rfl rfl ?_|(refine hK _ ?_; clear hK)|(clear hK; refine hK _ ?_; clear hK)|(clear hK; clear hK; refine hK _ ?_; clear hK)|refine qaW ?_|refine qa1 tok ?_|refine qa2 tok ?_|refine qa3 tok ?_|refine AL.loadR tok rfl rfl rfl rfl rfl rfl ?_|refine qa4 tok ?_|refine qa5 tok ?_|refine AW.block ?_|refine AW.exit ?_|refine AW.skip ?_)
        refine AW.cond rfl (fun _ => ?_) (fun hg => by cases hg)
        repeat (first|refine AL.do tok rfl rfl ?_|refine AL.nil ?_|refine AW.seq fun K hK => ?_|refine AW.region ?_|refine AL.no rfl rfl ?_|(refine hK _ ?_; clear hK)|(clear hK; refine hK _ ?_; clear hK)|(clear hK; clear hK; refine hK _ ?_; clear hK)|refine qaW ?_|refine qa1 tok ?_|refine qa2 tok ?_|refine qa3 tok ?_|refine AL.loadR tok rfl rfl rfl rfl rfl rfl ?_|refine qa4 tok ?_|refine qa5 tok ?_|refine AW.block ?_|refine AW.exit ?_|refine AW.skip ?_)
        refine AW.ret ?_
        refine ⟨_, _, _, _, rfl, Out.pure rfl ⟨?_, rfl⟩ rfl⟩
        rfl
      | false =>
        rw [if_neg (by decide)]
        by_cases hfull : 4096 ≤ l.length
        · rw [if_pos hfull]
          refine ACalls.body tok Try.func17 rfl (by kernel_rfl) (by rw [Try.ntmps17]; simp) ?_
          simp only [Try.ntmps17, Try.results17, argT]
          repeat' (first|refine AL.do tok rfl rfl ?_|refine AL.nil ?_|refine AW.seq fun K hK => ?_|refine AW.region ?_|refine AL.no rfl rfl ?_|(refine hK _ ?_; clear hK)|(clear hK; refine hK _ ?_; clear hK)|(clear hK; clear hK; refine hK _ ?_; clear hK)|refine qaW ?_|refine qa1 tok ?_|refine qa2 tok ?_|refine qa3 tok ?_|refine AL.loadR tok rfl rfl rfl rfl rfl rfl ?_|refine qa4 tok ?_|refine qa5 tok ?_|refine AW.block ?_|refine AW.exit ?_|refine AW.skip ?_|refine qc1 (k1 ..) ?_|refine qc2 (k1 ..) ?_|refine qc1 (k2 ..) ?_|refine qc2 (k2 ..) ?_|refine qc1 (k3 ..) ?_|refine qc2 (k3 ..) ?_|refine qc1 (k4 ..) ?_|refine qc2 (k4 ..) ?_|refine qc1 (k5 ..) ?_|refine qc2 (k5 ..) ?_|refine qc1 (k6 ..) ?_|refine qc2 (k6 ..) ?_|refine qc1 (k7 ..) ?_|refine qc2 (k7 ..) ?_|((fail_if_success (refine AL.guard (b := true) rfl rfl ?_ ?_)); (fail_if_success (refine AL.guard (b := false) rfl rfl ?_ ?_)); refine AL.guard rfl rfl (fun hg => ?_) (fun hg => ?_) <;> ((try simp only [DX] at hg) <;> (try first|(exfalso; omega)|exact absurd trivial hg|exact False.elim hg|exact absurd rfl hg)))|refine AW.condT rfl ?_|refine AW.condF rfl ?_|(refine AW.cond rfl (fun hg => ?_) (fun hg => ?_) <;> ((try simp only [DX] at hg) <;> (try first|(exfalso; omega)|exact absurd trivial hg|exact False.elim hg|exact absurd rfl hg))))
          all_goals (try simp only [DX] at *)
          all_goals try (exfalso; first | exact hg | exact hg rfl | omega | (have := hlt2 _ hix (by omega); omega))
          refine AL.callU rfl rfl rfl rfl [.loc 0, .loc 1] (ys := [rowL l, .fn 48 [.ptr (.par 0) 0, .ptr (.par 1) 0]]) (HpC := [boxS s, boxE e]) rfl rfl (by decide) rfl rfl k8 (fun r hr => ?_)
          subst hr
          repeat (first|refine AL.do tok rfl rfl ?_|refine AL.nil ?_|refine AW.seq fun K hK => ?_|refine AW.region ?_|refine AL.no rfl rfl ?_|(refine hK _ ?_; clear hK)|(clear hK; refine hK _ ?_; clear hK)|(clear hK; clear hK; refine hK _ ?_; clear hK)|refine qaW ?_|refine qa1 tok ?_|refine qa2 tok ?_|refine qa3 tok ?_|refine AL.loadR tok rfl rfl rfl rfl rfl rfl ?_|refine qa4 tok ?_|refine qa5 tok ?_|refine AW.block ?_|refine AW.exit ?_|refine AW.skip ?_)
          refine AW.cond rfl (fun hg => by cases hg) (fun _ => ?_)
          repeat (first|refine AL.do tok rfl rfl ?_|refine AL.nil ?_|refine AW.seq fun K hK => ?_|refine AW.region ?_|refine AL.no rfl rfl ?_|(refine hK _ ?_; clear hK)|(clear hK; refine hK _ ?_; clear hK)|(clear hK; clear hK; refine hK _ ?_; clear hK)|refine qaW ?_|refine qa1 tok ?_|refine qa2 tok ?_|refine qa3 tok ?_|refine AL.loadR tok rfl rfl rfl rfl rfl rfl ?_|refine qa4 tok ?_|refine qa5 tok ?_|refine AW.block ?_|refine AW.exit ?_|refine AW.skip ?_)
          refine AW.cond rfl (fun hg => ?_) (fun hg => by simp at hg; omega)
          repeat (first|refine AL.do tok rfl rfl ?_|refine AL.nil ?_|refine AW.seq fun K hK => ?_|refine AW.region ?_|refine AL.no rfl rfl ?_|(refine hK _ ?_; clear hK)|(clear hK; refine hK _ ?_; clear hK)|(clear hK; clear hK; refine hK _ ?_; clear hK)|refine qaW ?_|refine qa1 tok ?_|refine qa2 tok ?_|refine qa3 tok ?_|refine AL.loadR tok rfl rfl rfl rfl rfl rfl ?_|refine qa4 tok ?_|refine qa5 tok ?_|refine AW.block ?_|refine AW.exit ?_|refine AW.skip ?_)
          refine AW.ret ?_
          refine ⟨_, _, _, _, rfl, Out.pure rfl ⟨?_, rfl⟩ rfl⟩
          rfl
        · rw [if_neg hfull]
          refine ACalls.body tok Try.func17 rfl (by kernel_rfl) (by rw [Try.ntmps17]; simp) ?_
          simp only [Try.ntmps17, Try.results17, argT]
          repeat' (first|refine AL.do tok rfl rfl ?_|refine AL.nil ?_|refine AW.seq fun K hK => ?_|refine AW.region ?_|refine AL.no rfl rfl ?_|(refine hK _ ?_; clear hK)|(clear hK; refine hK _ ?_; clear hK)|(clear hK; clear hK; refine hK _ ?_; clear hK)|refine qaW ?_|refine qa1 tok ?_|refine qa2 tok ?_|refine qa3 tok ?_|refine AL.loadR tok rfl rfl rfl rfl rfl rfl ?_|refine qa4 tok ?_|refine qa5 tok ?_|refine AW.block ?_|refine AW.exit ?_|refine AW.skip ?_|refine qc1 (k1 ..) ?_|refine qc2 (k1 ..) ?_|refine qc1 (k2 ..) ?_|refine qc2 (k2 ..) ?_|refine qc1 (k3 ..) ?_|refine qc2 (k3 ..) ?_|refine qc1 (k4 ..) ?_|refine qc2 (k4 ..) ?_|refine qc1 (k5 ..) ?_|refine qc2 (k5 ..) ?_|refine qc1 (k6 ..) ?_|refine qc2 (k6 ..) ?_|refine qc1 (k7 ..) ?_|refine qc2 (k7 ..) ?_|((fail_if_success (refine AL.guard (b := true) rfl rfl ?_ ?_)); (fail_if_success (refine AL.guard (b := false) rfl rfl ?_ ?_)); refine AL.guard rfl rfl (fun hg => ?_) (fun hg => ?_) <;> ((try simp only [DX] at hg) <;> (try first|(exfalso; omega)|exact absurd trivial hg|exact False.elim hg|exact absurd rfl hg)))|refine AW.condT rfl ?_|refine AW.condF rfl ?_|(refine AW.cond rfl (fun hg => ?_) (fun hg => ?_) <;> ((try simp only [DX] at hg) <;> (try first|(exfalso; omega)|exact absurd trivial hg|exact False.elim hg|exact absurd rfl hg))))
          all_goals (try simp only [DX] at *)
          all_goals try (exfalso; first | exact hg | exact hg rfl | omega | (have := hlt2 _ hix (by omega); omega))
          refine AL.callU rfl rfl rfl rfl [.loc 0, .loc 1] (ys := [rowL l, .fn 48 [.ptr (.par 0) 0, .ptr (.par 1) 0]]) (HpC := [boxS s, boxE e]) rfl rfl (by decide) rfl rfl k8 (fun r hr => ?_)
          subst hr
          repeat (first|refine AL.do tok rfl rfl ?_|refine AL.nil ?_|refine AW.seq fun K hK => ?_|refine AW.region ?_|refine AL.no rfl rfl ?_|(refine hK _ ?_; clear hK)|(clear hK; refine hK _ ?_; clear hK)|(clear hK; clear hK; refine hK _ ?_; clear hK)|refine qaW ?_|refine qa1 tok ?_|refine qa2 tok ?_|refine qa3 tok ?_|refine AL.loadR tok rfl rfl rfl rfl rfl rfl ?_|refine qa4 tok ?_|refine qa5 tok ?_|refine AW.block ?_|refine AW.exit ?_|refine AW.skip ?_)
          refine AW.cond rfl (fun hg => by cases hg) (fun _ => ?_)
          repeat (first|refine AL.do tok rfl rfl ?_|refine AL.nil ?_|refine AW.seq fun K hK => ?_|refine AW.region ?_|refine AL.no rfl rfl ?_|(refine hK _ ?_; clear hK)|(clear hK; refine hK _ ?_; clear hK)|(clear hK; clear hK; refine hK _ ?_; clear hK)|refine qaW ?_|refine qa1 tok ?_|refine qa2 tok ?_|refine qa3 tok ?_|refine AL.loadR tok rfl rfl rfl rfl rfl rfl ?_|refine qa4 tok ?_|refine qa5 tok ?_|refine AW.block ?_|refine AW.exit ?_|refine AW.skip ?_)
          refine AW.cond rfl (fun hg => by simp at hg; omega) (fun hg => ?_)
          repeat (first|refine AL.do tok rfl rfl ?_|refine AL.nil ?_|refine AW.seq fun K hK => ?_|refine AW.region ?_|refine AL.no rfl rfl ?_|(refine hK _ ?_; clear hK)|(clear hK; refine hK _ ?_; clear hK)|(clear hK; clear hK; refine hK _ ?_; clear hK)|refine qaW ?_|refine qa1 tok ?_|refine qa2 tok ?_|refine qa3 tok ?_|refine AL.loadR tok rfl rfl rfl rfl rfl rfl ?_|refine qa4 tok ?_|refine qa5 tok ?_|refine AW.block ?_|refine AW.exit ?_|refine AW.skip ?_)
          refine AL.buildF tok rfl rfl rfl rfl rfl rfl rfl rfl rfl rfl ?_
          repeat (first|refine AL.do tok rfl rfl ?_|refine AL.nil ?_|refine AW.seq fun K hK => ?_|refine AW.region ?_|refine AL.no rfl rfl ?_|(refine hK _ ?_; clear hK)|(clear hK; refine hK _ ?_; clear hK)|(clear hK; clear hK; refine hK _ ?_; clear hK)|refine qaW ?_|refine qa1 tok ?_|refine qa2 tok ?_|refine qa3 tok ?_|refine AL.loadR tok rfl rfl rfl rfl rfl rfl ?_|refine qa4 tok ?_|refine qa5 tok ?_|refine AW.block ?_|refine AW.exit ?_|refine AW.skip ?_)
          refine AL.callN [.loc 4] ks rfl rfl rfl rfl rfl rfl (by decide) rfl rfl (fun r Hr hr => ?_)
          obtain ⟨rfl, rfl⟩ := hr
          refine ⟨rfl, ?_⟩
          repeat (first|refine AL.do tok rfl rfl ?_|refine AL.nil ?_|refine AW.seq fun K hK => ?_|refine AW.region ?_|refine AL.no rfl rfl ?_|(refine hK _ ?_; clear hK)|(clear hK; refine hK _ ?_; clear hK)|(clear hK; clear hK; refine hK _ ?_; clear hK)|refine qaW ?_|refine qa1 tok ?_|refine qa2 tok ?_|refine qa3 tok ?_|refine AL.loadR tok rfl rfl rfl rfl rfl rfl ?_|refine qa4 tok ?_|refine qa5 tok ?_|refine AW.block ?_|refine AW.exit ?_|refine AW.skip ?_)
          refine AW.imp (σ' := ⟨99, [(15, .own (.loc 5)), (14, .ptr (.loc 3) 0), (11, .ptr (.loc 2) 0)], [(5, some (.row 47 16 (l.map encL))), (3, some (.box 47 (cellsL (giveL tag own s e)))), (2, some (.box 47 [i64 0, i64 0, st ⟨#[]⟩, i64 0, i64 0, i64 0, i64 0, st ⟨#[]⟩, st ⟨#[]⟩, i64 0, bo false, i64 0, i64 0, st ⟨#[]⟩, i64 0, .nilrow]))], [], 7⟩) ?_ ?_
          · (refine Imp.weak id (fun _ _ _ _ h => h) (by first|assumption|(intro b hb; cases hb)) ?_ ?_ <;> (repeat' (first|exact trivial|exact Nat.lt_of_lt_of_le (Nat.lt_succ_self _) (Nat.le_of_ble_eq_true rfl)|exact rfl|exact Or.inl ⟨rfl, rfl⟩|exact Or.inr ⟨rfl, LF.fn _ _ ‹_›⟩|refine ⟨?_, ?_⟩)))
          refine AW.anyN mix [[], [], [1], [1, 2], [0, 1, 2, 3], [], [0, 1, 2, 3, 4, 5], [0, 1, 2, 3, 4, 5, 6], [0, 1, 2, 3, 4, 5, 6, 7], [0, 1, 2, 3, 4, 5, 6, 7, 8]] [[93, 94, 95, 97], [92, 97], [92, 97], [92, 97], [97], [92, 93, 94, 95, 96], [], [], [], []] [[], [], [], [], [], [5, 7], [], [], [], []] [(8, 2), (4, 5), (4, 7)] 7 17 rfl (by rfl) (by decide +kernel) rfl (by first|assumption|(intro b hb; cases hb)) ?_ <;> repeat' (first|refine AR.step rfl rfl (by first|exact OSp.do tok rfl rfl rfl|exact OSp.no rfl rfl|exact OSp.noN rfl|exact qoW|exact OSp.copy tok rfl rfl rfl rfl rfl rfl rfl (by (first | (intro x hx; obtain ⟨_, _, rfl⟩ := List.mem_map.1 hx; rfl) | (intro x hx; replace hx := List.mem_of_mem_take (List.mem_of_mem_drop hx); obtain ⟨_, _, rfl⟩ := List.mem_map.1 hx; rfl) | (simp; done))) rfl rfl rfl rfl|exact OSp.buildSlice tok rfl rfl rfl rfl rfl rfl rfl rfl|exact OSp.append tok rfl rfl rfl rfl rfl rfl rfl rfl rfl rfl rfl (by first|(intro x hx; obtain ⟨_, _, rfl⟩ := List.mem_map.1 hx; rfl)|(simp; done)) (by simp; omega) (by simp; omega)|exact OSp.alloc tok rfl rfl rfl rfl|exact OSp.box tok rfl rfl rfl rfl rfl|exact OSp.boxC tok rfl rfl rfl rfl rfl|exact OSp.store tok rfl rfl rfl rfl rfl rfl rfl rfl|exact OSp.appIn tok rfl rfl rfl rfl rfl (by first|assumption|(intro e; have := congrArg List.length e; simp at this; omega)) rfl rfl (by (first | (intro x hx; obtain ⟨_, _, rfl⟩ := List.mem_map.1 hx; rfl) | (intro x hx; replace hx := List.mem_of_mem_take (List.mem_of_mem_drop hx); obtain ⟨_, _, rfl⟩ := List.mem_map.1 hx; rfl) | (simp; done))) rfl rfl rfl rfl (by first|omega|(simp; omega))|exact OSp.copyX tok rfl rfl rfl rfl rfl rfl rfl rfl (by first|omega|(simp; omega)) (by first|omega|(simp; omega)) (by first|omega|(simp; omega)) (by first|omega|(simp; omega)) (by first|omega|(simp; omega))|exact OSp.idxO tok rfl rfl rfl rfl rfl rfl rfl rfl (by first|omega|(simp; omega))|exact OSp.loadR tok rfl rfl rfl rfl (by first|omega|(simp; omega)) rfl|exact OSp.callS rfl rfl rfl rfl rfl rfl (k9 ..) rfl|exact OSp.callP rfl rfl rfl rfl rfl (k9 ..)|exact OSp.callO rfl rfl rfl rfl rfl (k9 ..)|exact OSp.callO rfl rfl rfl rfl rfl k9|exact OSp.callG2 rfl rfl rfl rfl (k9 ..) rfl rfl rfl rfl rfl) (by rfl) (by rfl) ?_|refine AR.done rfl rfl ?_|(refine AR.guard rfl rfl rfl rfl (fun hg => ?_) (fun hg => ?_) <;> ((try simp only [DX] at hg) <;> (try first|(exfalso; omega)|exact absurd trivial hg|exact False.elim hg|exact absurd rfl hg))))
          repeat (first|refine AL.do tok rfl rfl ?_|refine AL.nil ?_|refine AW.seq fun K hK => ?_|refine AW.region ?_|refine AL.no rfl rfl ?_|(refine hK _ ?_; clear hK)|(clear hK; refine hK _ ?_; clear hK)|(clear hK; clear hK; refine hK _ ?_; clear hK)|refine qaW ?_|refine qa1 tok ?_|refine qa2 tok ?_|refine qa3 tok ?_|refine AL.loadR tok rfl rfl rfl rfl rfl rfl ?_|refine qa4 tok ?_|refine qa5 tok ?_|refine AW.block ?_|refine AW.exit ?_|refine AW.skip ?_)
          refine AW.frz 11 rfl rfl rfl ?_
          refine AW.ret ?_
          refine ⟨_, _, _, _, rfl, Out.pure rfl ⟨?_, rfl⟩ rfl⟩
          have ea : (l ++ [giveL tag own s e]).map encL = l.map encL ++ [encL (giveL tag own s e)] := List.map_append ..
          show _ = AV.tup [.d (.row ((l ++ [giveL tag own s e]).map encL)), aggL (giveL tag own s e), i64 0]
          rw [ea]
          rfl
theorem give_calls (l : List Le) (tag own : Int) (s : ByteArray) (e : En) (hl : l.length ≤ 1000000) (ho : OkL l) (hm : OkM e.msg) : ACallP Try.prog 17 [rowL l, i64 tag, i64 own, st s, aggE e] (giveAV (giveS l tag own s e)) := (give_pr l tag own s e hl ho hm).nilR
end Go.Proofs.Try
