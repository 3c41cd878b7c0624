/- lease: what arguments are; the chapter's example. -/
import Derived.Test.YtlpnpjlnoeacnaaLeaJ
import Derived.Test.YtlpnpjlnoeacnaaAMD
import Derived.Test.YtlpnpjlnoeacnaaWk
set_option linter.unusedSimpArgs false
set_option linter.unusedVariables false
namespace Go.Proofs.Try
open Go Go.AM

theorem at_int {x : AV} (h : AT ts 3 x) : ∃ n, x = i64 n ∧ -9223372036854775808 ≤ n ∧ n ≤ 9223372036854775807 := by
  obtain ⟨y, rfl, hd⟩ := h
  obtain ⟨n, e, hn⟩ := DT.int_inv rfl hd
  cases e
  simp only [Lit.wf, Bool.and_eq_true, decide_eq_true_eq] at hn
  exact ⟨n, rfl, hn⟩
def exM (p : Int) : Ms := ⟨⟨#[116]⟩, ⟨#[]⟩, 0, false, p, 0, ⟨#[]⟩, 0, []⟩
theorem okEx (p : Int) : OkM (exM p) := ⟨show (⟨#[116]⟩ : ByteArray).size ≤ 140737488351232 by decide, show ([] : List Pr).length ≤ 4398046510976 by decide⟩
def exE (n : Int) : En := ⟨n, 0, 0, exM 0⟩
def exX (n own : Int) : Le := ⟨n, own, ⟨#[113]⟩, 0, ⟨n, 0, 1, exM 0⟩⟩
def exL : Nat → List Le
  | 0 => []
  | 1 => [exX 1 7]
  | 2 => [exX 1 7, exX 2 8]
  | _ => [exX 1 7, exX 2 8, exX 3 7]
theorem exL_ok (k : Nat) : OkL (exL k) := by
  intro x hx
  have : x = exX 1 7 ∨ x = exX 2 8 ∨ x = exX 3 7 := by
    match k with
    | 0 => simp [exL] at hx
    | 1 => simp [exL] at hx; simp [hx]
    | 2 => simp [exL] at hx; rcases hx with h | h <;> simp [h]
    | _ + 3 => simp [exL] at hx; exact hx
  rcases this with rfl | rfl | rfl <;> exact okEx 0
theorem exL_len (k : Nat) : (exL k).length ≤ 3 := by
  match k with
  | 0 => decide
  | 1 => decide
  | 2 => decide
  | _ + 3 => exact Nat.le_refl _
def exQ0 : Qu := ⟨⟨⟨#[113]⟩, 1, 0, 0, ⟨#[]⟩⟩, 3, []⟩
def exQ1 : Qu := ⟨⟨⟨#[113]⟩, 1, 0, 0, ⟨#[]⟩⟩, 3, [⟨2, 0, 1, exM 0⟩]⟩
abbrev aggEn (n : Int) : AV := .agg [i64 n, i64 0, i64 0, st ⟨#[116]⟩, st ⟨#[]⟩, i64 0, bo false, i64 0, i64 0, st ⟨#[]⟩, i64 0, .nilrow]
set_option maxHeartbeats 16000000 in
set_option maxRecDepth 10000 in
theorem exGive (k : Nat) (tag own num : Int) (r : List Le × Le × Int) (h : giveS (exL k) tag own ⟨#[113]⟩ (exE num) = r) : ACallP Try.prog 17 [rowL (exL k), i64 tag, i64 own, st ⟨#[113]⟩, aggEn num] (giveAV r) := by
  have g := give_calls (exL k) tag own ⟨#[113]⟩ (exE num) (by have := exL_len k; omega) (exL_ok k) (okEx 0)
  rw [h] at g
  exact g.nilA rfl
set_option maxHeartbeats 16000000 in
set_option maxRecDepth 10000 in
theorem example_calls : ACallP Try.prog 8 [] (bo true) := by
  have g0 := exGive 0 1 7 1 (exL 1, exX 1 7, 0) (by decide +kernel)
  have g1 := exGive 1 2 8 2 (exL 2, exX 2 8, 0) (by decide +kernel)
  have g2 := exGive 2 3 7 3 (exL 3, exX 3 7, 0) (by decide +kernel)
  have g3 := exGive 3 3 7 9 ([], zeroL, 22) (by decide +kernel)
  have s0 := settle_calls (exL 3) 7 3 false (by have := exL_len 3; omega) (exL_ok 3)
  have s1 := settle_calls (exL 3) 7 3 true (by have := exL_len 3; omega) (exL_ok 3)
  have s2 := settle_calls (exL 3) 8 3 true (by have := exL_len 3; omega) (exL_ok 3)
  rw [show settleS (exL 3) 7 3 false = ([exX 1 7, exX 2 8], [exX 3 7], 0) by decide +kernel] at s0
  rw [show settleS (exL 3) 7 3 true = ([exX 2 8], [exX 1 7, exX 3 7], 0) by decide +kernel] at s1
  rw [show settleS (exL 3) 8 3 true = ([], [], 8) by decide +kernel] at s2
  have b0 := back_calls exQ0 [exX 2 8] (goodQ_iff.1 (by decide +kernel)) (fun e he => by simp [exQ0] at he) (fun x hx => by rw [List.mem_singleton.1 hx]; exact okEx 0)
  rw [show backL exQ0.spec.name exQ0 [exX 2 8] = (exQ1, 0) by decide +kernel] at b0
  replace b0 : ACallP Try.prog 14 [.agg [st ⟨#[113]⟩, i64 1, i64 0, i64 0, st ⟨#[]⟩, i64 3, .nilrow], rowL [exX 2 8]] (quAV (exQ1, 0)) := b0.nilA rfl
  have c0 := count_calls (exL 3) 7 (by have := exL_len 3; omega)
  rw [show ((exL 3).filter (isOwn 7)).length = 2 by decide +kernel] at c0
  have v0 := checkL_calls (exL 3) (exL_ok 3)
  rw [show checkLs (exL 3) = 0 by decide +kernel] at v0
  refine ACalls.body tok Try.func8 rfl (by kernel_rfl) (by rw [Try.ntmps8]; simp) ?_
  simp only [Try.ntmps8, Try.results8, argT]
  repeat (first|refine AL.do tok rfl rfl ?_|refine AL.nil ?_|refine AW.seq fun K hK => ?_|refine AW.region ?_|refine AL.no rfl rfl ?_|(refine hK _ ?_; clear hK)|(clear hK; refine hK _ ?_; clear hK)|(clear hK; clear hK; refine hK _ ?_; clear hK)|refine qaW ?_|refine qa1 tok ?_|refine qa2 tok ?_|refine qa3 tok ?_|refine AL.loadR tok rfl rfl rfl rfl rfl rfl ?_|refine qa4 tok ?_|refine qa5 tok ?_|refine AW.block ?_|refine AW.exit ?_|refine AW.skip ?_)
  refine AW.nilA 1 rfl rfl ?_
  refine AW.loop (ι := Nat) (fun i => ⟨174, [(23, i64 i), (22, i64 (3 : Nat)), (21, .own (.loc 0)), (1, rowL (exL i))], [(0, some (.row 3 1 [[.one (.int .i64 7)], [.one (.int .i64 8)], [.one (.int .i64 7)]]))], [], 1⟩)
    (fun i => i ≤ 3) (fun i => 3 - i) 0 (Nat.zero_le _) ?_ ?_
  · (refine Imp.weak id (fun _ _ _ _ h => h) (by first|assumption|(intro b hb; cases hb)) ?_ ?_ <;> (repeat' (first|exact trivial|exact Nat.lt_of_lt_of_le (Nat.lt_succ_self _) (Nat.le_of_ble_eq_true rfl)|exact rfl|exact Or.inl ⟨rfl, rfl⟩|exact Or.inr ⟨rfl, LF.fn _ _ ‹_›⟩|refine ⟨?_, ?_⟩)))
  rintro i hi K1 hK1
  match i, hi with
  | 0, _ =>
    repeat (first|refine AL.do tok rfl rfl ?_|refine AL.nil ?_|refine AW.seq fun K hK => ?_|refine AW.region ?_|refine AL.no rfl rfl ?_|(refine hK _ ?_; clear hK)|(clear hK; refine hK _ ?_; clear hK)|(clear hK; clear hK; refine hK _ ?_; clear hK)|refine qaW ?_|refine qa1 tok ?_|refine qa2 tok ?_|refine qa3 tok ?_|refine AL.loadR tok rfl rfl rfl rfl rfl rfl ?_|refine qa4 tok ?_|refine qa5 tok ?_|refine AW.block ?_|refine AW.exit ?_|refine AW.skip ?_|refine qc1 (g0 ..) ?_|refine qc2 (g0 ..) ?_)
    refine AW.cond rfl (fun hg => ?_) (fun hg => by simp at hg)
    repeat' (first|refine AL.do tok rfl rfl ?_|refine AL.nil ?_|refine AW.seq fun K hK => ?_|refine AW.region ?_|refine AL.no rfl rfl ?_|(refine hK _ ?_; clear hK)|(clear hK; refine hK _ ?_; clear hK)|(clear hK; clear hK; refine hK _ ?_; clear hK)|refine qaW ?_|refine qa1 tok ?_|refine qa2 tok ?_|refine qa3 tok ?_|refine AL.loadR tok rfl rfl rfl rfl rfl rfl ?_|refine qa4 tok ?_|refine qa5 tok ?_|refine AW.block ?_|refine AW.exit ?_|refine AW.skip ?_|refine qc1 (g0 ..) ?_|refine qc2 (g0 ..) ?_|((fail_if_success (refine AL.guard (b := true) rfl rfl ?_ ?_)); (fail_if_success (refine AL.guard (b := false) rfl rfl ?_ ?_)); refine AL.guard rfl rfl (fun hg => ?_) (fun hg => ?_) <;> ((try simp only [DX] at hg) <;> (try first|(exfalso; omega)|exact absurd trivial hg|exact False.elim hg|exact absurd rfl hg)))|refine AW.condT rfl ?_|refine AW.condF rfl ?_|(refine AW.cond rfl (fun hg => ?_) (fun hg => ?_) <;> ((try simp only [DX] at hg) <;> (try first|(exfalso; omega)|exact absurd trivial hg|exact False.elim hg|exact absurd rfl hg))))
    refine hK1 _ 1 (by omega) (by omega) ?_
    (refine Imp.weak id (fun _ _ _ _ h => h) (by first|assumption|(intro b hb; cases hb)) ?_ ?_ <;> (repeat' (first|exact trivial|exact Nat.lt_of_lt_of_le (Nat.lt_succ_self _) (Nat.le_of_ble_eq_true rfl)|exact rfl|exact Or.inl ⟨rfl, rfl⟩|exact Or.inr ⟨rfl, LF.fn _ _ ‹_›⟩|refine ⟨?_, ?_⟩)))
  | 1, _ =>
    repeat (first|refine AL.do tok rfl rfl ?_|refine AL.nil ?_|refine AW.seq fun K hK => ?_|refine AW.region ?_|refine AL.no rfl rfl ?_|(refine hK _ ?_; clear hK)|(clear hK; refine hK _ ?_; clear hK)|(clear hK; clear hK; refine hK _ ?_; clear hK)|refine qaW ?_|refine qa1 tok ?_|refine qa2 tok ?_|refine qa3 tok ?_|refine AL.loadR tok rfl rfl rfl rfl rfl rfl ?_|refine qa4 tok ?_|refine qa5 tok ?_|refine AW.block ?_|refine AW.exit ?_|refine AW.skip ?_|refine qc1 (g1 ..) ?_|refine qc2 (g1 ..) ?_)
    refine AW.cond rfl (fun hg => ?_) (fun hg => by simp at hg)
    repeat' (first|refine AL.do tok rfl rfl ?_|refine AL.nil ?_|refine AW.seq fun K hK => ?_|refine AW.region ?_|refine AL.no rfl rfl ?_|(refine hK _ ?_; clear hK)|(clear hK; refine hK _ ?_; clear hK)|(clear hK; clear hK; refine hK _ ?_; clear hK)|refine qaW ?_|refine qa1 tok ?_|refine qa2 tok ?_|refine qa3 tok ?_|refine AL.loadR tok rfl rfl rfl rfl rfl rfl ?_|refine qa4 tok ?_|refine qa5 tok ?_|refine AW.block ?_|refine AW.exit ?_|refine AW.skip ?_|refine qc1 (g1 ..) ?_|refine qc2 (g1 ..) ?_|((fail_if_success (refine AL.guard (b := true) rfl rfl ?_ ?_)); (fail_if_success (refine AL.guard (b := false) rfl rfl ?_ ?_)); refine AL.guard rfl rfl (fun hg => ?_) (fun hg => ?_) <;> ((try simp only [DX] at hg) <;> (try first|(exfalso; omega)|exact absurd trivial hg|exact False.elim hg|exact absurd rfl hg)))|refine AW.condT rfl ?_|refine AW.condF rfl ?_|(refine AW.cond rfl (fun hg => ?_) (fun hg => ?_) <;> ((try simp only [DX] at hg) <;> (try first|(exfalso; omega)|exact absurd trivial hg|exact False.elim hg|exact absurd rfl hg))))
    refine hK1 _ 2 (by omega) (by omega) ?_
    (refine Imp.weak id (fun _ _ _ _ h => h) (by first|assumption|(intro b hb; cases hb)) ?_ ?_ <;> (repeat' (first|exact trivial|exact Nat.lt_of_lt_of_le (Nat.lt_succ_self _) (Nat.le_of_ble_eq_true rfl)|exact rfl|exact Or.inl ⟨rfl, rfl⟩|exact Or.inr ⟨rfl, LF.fn _ _ ‹_›⟩|refine ⟨?_, ?_⟩)))
  | 2, _ =>
    repeat (first|refine AL.do tok rfl rfl ?_|refine AL.nil ?_|refine AW.seq fun K hK => ?_|refine AW.region ?_|refine AL.no rfl rfl ?_|(refine hK _ ?_; clear hK)|(clear hK; refine hK _ ?_; clear hK)|(clear hK; clear hK; refine hK _ ?_; clear hK)|refine qaW ?_|refine qa1 tok ?_|refine qa2 tok ?_|refine qa3 tok ?_|refine AL.loadR tok rfl rfl rfl rfl rfl rfl ?_|refine qa4 tok ?_|refine qa5 tok ?_|refine AW.block ?_|refine AW.exit ?_|refine AW.skip ?_|refine qc1 (g2 ..) ?_|refine qc2 (g2 ..) ?_)
    refine AW.cond rfl (fun hg => ?_) (fun hg => by simp at hg)
    repeat' (first|refine AL.do tok rfl rfl ?_|refine AL.nil ?_|refine AW.seq fun K hK => ?_|refine AW.region ?_|refine AL.no rfl rfl ?_|(refine hK _ ?_; clear hK)|(clear hK; refine hK _ ?_; clear hK)|(clear hK; clear hK; refine hK _ ?_; clear hK)|refine qaW ?_|refine qa1 tok ?_|refine qa2 tok ?_|refine qa3 tok ?_|refine AL.loadR tok rfl rfl rfl rfl rfl rfl ?_|refine qa4 tok ?_|refine qa5 tok ?_|refine AW.block ?_|refine AW.exit ?_|refine AW.skip ?_|refine qc1 (g2 ..) ?_|refine qc2 (g2 ..) ?_|((fail_if_success (refine AL.guard (b := true) rfl rfl ?_ ?_)); (fail_if_success (refine AL.guard (b := false) rfl rfl ?_ ?_)); refine AL.guard rfl rfl (fun hg => ?_) (fun hg => ?_) <;> ((try simp only [DX] at hg) <;> (try first|(exfalso; omega)|exact absurd trivial hg|exact False.elim hg|exact absurd rfl hg)))|refine AW.condT rfl ?_|refine AW.condF rfl ?_|(refine AW.cond rfl (fun hg => ?_) (fun hg => ?_) <;> ((try simp only [DX] at hg) <;> (try first|(exfalso; omega)|exact absurd trivial hg|exact False.elim hg|exact absurd rfl hg))))
    refine hK1 _ 3 (by omega) (by omega) ?_
    (refine Imp.weak id (fun _ _ _ _ h => h) (by first|assumption|(intro b hb; cases hb)) ?_ ?_ <;> (repeat' (first|exact trivial|exact Nat.lt_of_lt_of_le (Nat.lt_succ_self _) (Nat.le_of_ble_eq_true rfl)|exact rfl|exact Or.inl ⟨rfl, rfl⟩|exact Or.inr ⟨rfl, LF.fn _ _ ‹_›⟩|refine ⟨?_, ?_⟩)))
  | 3, _ =>
    simp only [show exL 3 = [exX 1 7, exX 2 8, exX 3 7] from rfl] at s0 s1 s2 g3 c0 v0 ⊢
    repeat (first|refine AL.do tok rfl rfl ?_|refine AL.nil ?_|refine AW.seq fun K hK => ?_|refine AW.region ?_|refine AL.no rfl rfl ?_|(refine hK _ ?_; clear hK)|(clear hK; refine hK _ ?_; clear hK)|(clear hK; clear hK; refine hK _ ?_; clear hK)|refine qaW ?_|refine qa1 tok ?_|refine qa2 tok ?_|refine qa3 tok ?_|refine AL.loadR tok rfl rfl rfl rfl rfl rfl ?_|refine qa4 tok ?_|refine qa5 tok ?_|refine AW.block ?_|refine AW.exit ?_|refine AW.skip ?_)
    refine AW.cond rfl (fun hg => by simp at hg) (fun hg => ?_)
    repeat' (first|refine AL.do tok rfl rfl ?_|refine AL.nil ?_|refine AW.seq fun K hK => ?_|refine AW.region ?_|refine AL.no rfl rfl ?_|(refine hK _ ?_; clear hK)|(clear hK; refine hK _ ?_; clear hK)|(clear hK; clear hK; refine hK _ ?_; clear hK)|refine qaW ?_|refine qa1 tok ?_|refine qa2 tok ?_|refine qa3 tok ?_|refine AL.loadR tok rfl rfl rfl rfl rfl rfl ?_|refine qa4 tok ?_|refine qa5 tok ?_|refine AW.block ?_|refine AW.exit ?_|refine AW.skip ?_|refine qc1 (s0 ..) ?_|refine qc2 (s0 ..) ?_|refine qc1 (s1 ..) ?_|refine qc2 (s1 ..) ?_|refine qc1 (s2 ..) ?_|refine qc2 (s2 ..) ?_|refine qc1 (g3 ..) ?_|refine qc2 (g3 ..) ?_|refine qc1 (b0 ..) ?_|refine qc2 (b0 ..) ?_|refine qc1 (c0 ..) ?_|refine qc2 (c0 ..) ?_|refine qc1 (v0 ..) ?_|refine qc2 (v0 ..) ?_|((fail_if_success (refine AL.guard (b := true) rfl rfl ?_ ?_)); (fail_if_success (refine AL.guard (b := false) rfl rfl ?_ ?_)); refine AL.guard rfl rfl (fun hg => ?_) (fun hg => ?_) <;> ((try simp only [DX] at hg) <;> (try first|(exfalso; omega)|exact absurd trivial hg|exact False.elim hg|exact absurd rfl hg)))|refine AW.condT rfl ?_|refine AW.condF rfl ?_|(refine AW.cond rfl (fun hg => ?_) (fun hg => ?_) <;> ((try simp only [DX] at hg) <;> (try first|(exfalso; omega)|exact absurd trivial hg|exact False.elim hg|exact absurd rfl hg))))
    refine AL.v rfl rfl (qv13 tok (xs := [exX 1 7, exX 2 8, exX 3 7]) (h0 := by decide) (h1 := by decide) (h2 := by decide)) ?_
    repeat' (first|refine AL.do tok rfl rfl ?_|refine AL.nil ?_|refine AW.seq fun K hK => ?_|refine AW.region ?_|refine AL.no rfl rfl ?_|(refine hK _ ?_; clear hK)|(clear hK; refine hK _ ?_; clear hK)|(clear hK; clear hK; refine hK _ ?_; clear hK)|refine qaW ?_|refine qa1 tok ?_|refine qa2 tok ?_|refine qa3 tok ?_|refine AL.loadR tok rfl rfl rfl rfl rfl rfl ?_|refine qa4 tok ?_|refine qa5 tok ?_|refine AW.block ?_|refine AW.exit ?_|refine AW.skip ?_|refine qc1 (s0 ..) ?_|refine qc2 (s0 ..) ?_|refine qc1 (s1 ..) ?_|refine qc2 (s1 ..) ?_|refine qc1 (s2 ..) ?_|refine qc2 (s2 ..) ?_|refine qc1 (g3 ..) ?_|refine qc2 (g3 ..) ?_|refine qc1 (b0 ..) ?_|refine qc2 (b0 ..) ?_|refine qc1 (c0 ..) ?_|refine qc2 (c0 ..) ?_|refine qc1 (v0 ..) ?_|refine qc2 (v0 ..) ?_|((fail_if_success (refine AL.guard (b := true) rfl rfl ?_ ?_)); (fail_if_success (refine AL.guard (b := false) rfl rfl ?_ ?_)); refine AL.guard rfl rfl (fun hg => ?_) (fun hg => ?_) <;> ((try simp only [DX] at hg) <;> (try first|(exfalso; omega)|exact absurd trivial hg|exact False.elim hg|exact absurd rfl hg)))|refine AW.condT rfl ?_|refine AW.condF rfl ?_|(refine AW.cond rfl (fun hg => ?_) (fun hg => ?_) <;> ((try simp only [DX] at hg) <;> (try first|(exfalso; omega)|exact absurd trivial hg|exact False.elim hg|exact absurd rfl hg))))
    all_goals
      refine AW.ret ?_
      refine ⟨_, _, _, _, rfl, Out.pure rfl ⟨?_, rfl⟩ rfl⟩
      rfl
end Go.Proofs.Try
