/- links: the law LinksFull. -/
import Derived.Test.YtefhpcaopchhgaaLnkJ
import Derived.Test.YtefhpcaopchhgaaAMD
import Derived.Test.YtefhpcaopchhgaaWk
set_option linter.unusedSimpArgs false
set_option linter.unusedVariables false
namespace Go.Proofs.Try
open Go Go.AM

theorem at_u8 {x : AV} (h : AT ts 5 x) : ∃ n : Nat, x = .d (.one (.int .u8 n)) ∧ n ≤ 255 := by
  obtain ⟨y, rfl, hd⟩ := h
  obtain ⟨n, e, hn⟩ := DT.int_inv rfl hd
  cases e
  simp only [Lit.wf, Bool.and_eq_true, decide_eq_true_eq] at hn
  have h2 : (0 : Int) ≤ n ∧ n ≤ 255 := hn
  exact ⟨n.toNat, by rw [show ((n.toNat : Nat) : Int) = n by omega], by omega⟩
abbrev net3 (l : List It) : Nt := setW (net0 3) l
abbrev dX : Dg := ⟨0, 1, numsB ⟨#[120]⟩⟩
theorem up3 (l : List It) : pairS (net3 l) 0 1 = true ∧ upS (net3 l) 0 1 = true := by
  have h1 : pairS (net3 l) 0 1 = true := rfl
  refine ⟨h1, ?_⟩
  unfold upS
  rw [h1]
  rfl
theorem send3 (l : List It) (k : Nat) (hk : k ≤ 32) : sendE (net3 l) dX ⟨false, 0, k⟩ = if l.length + k + 1 ≤ 4096 then 0 else 6 := by
  unfold sendE
  rw [if_neg (show ¬ pairS (net3 l) dX.src dX.dst = false by rw [(up3 l).1]; decide), if_neg (by decide), if_neg (show ¬ ¬ okF ⟨false, 0, k⟩ from fun h => h ⟨by show (0 : Int) ≤ 0; decide, by show (0 : Int) ≤ 1099511627776; decide, by show (0 : Int) ≤ k; omega, by show (k : Int) ≤ 32; omega⟩), if_neg (show ¬ (false = true ∨ upS (net3 l) dX.src dX.dst = false) by rw [(up3 l).2]; decide)]
  by_cases h : l.length + k + 1 ≤ 4096
  · rw [if_pos h, if_neg (show ¬ ¬ (l.length : Int) + 1 + (k : Int) ≤ 4096 by omega)]
  · rw [if_neg h, if_pos (show ¬ (l.length : Int) + 1 + (k : Int) ≤ 4096 by omega)]
theorem send3_put (l : List It) (k : Nat) (hk : k ≤ 32) (h : l.length + k + 1 ≤ 4096) : sendS (net3 l) dX ⟨false, 0, k⟩ = net3 (putI l dX ⟨false, 0, k⟩ (k + 1)) := by
  unfold sendS
  rw [if_pos ⟨by rw [send3 l k hk, if_pos h], rfl, (up3 l).2⟩]
  rfl
theorem send3_not (l : List It) (d : Dg) (f : Fa) (h : sendE (net3 l) d f ≠ 0) : sendS (net3 l) d f = net3 l := by
  unfold sendS
  rw [if_neg (fun e => h e.1)]
theorem send3_drop (l : List It) (k : Nat) (hk : k ≤ 32) : sendE (net3 l) dX ⟨true, 0, k⟩ = 0 ∧ sendS (net3 l) dX ⟨true, 0, k⟩ = net3 l := by
  constructor
  · unfold sendE
    rw [if_neg (show ¬ pairS (net3 l) dX.src dX.dst = false by rw [(up3 l).1]; decide), if_neg (by decide), if_neg (show ¬ ¬ okF ⟨true, 0, k⟩ from fun h => h ⟨by show (0 : Int) ≤ 0; decide, by show (0 : Int) ≤ 1099511627776; decide, by show (0 : Int) ≤ k; omega, by show (k : Int) ≤ 32; omega⟩), if_pos (.inl rfl)]
  · unfold sendS
    rw [if_neg (fun e => by cases e.2.1)]
theorem send3_long (l : List It) (b : List Nat) : sendE (net3 l) ⟨0, 2, b⟩ ⟨true, 0, 0⟩ = (if b.length ≤ 65536 then 0 else 5) ∧ sendS (net3 l) ⟨0, 2, b⟩ ⟨true, 0, 0⟩ = net3 l := by
  constructor
  · unfold sendE
    rw [if_neg (show ¬ pairS (net3 l) 0 2 = false from (by decide : ¬ pairS (net3 []) 0 2 = false))]
    by_cases h : b.length ≤ 65536
    · rw [if_neg (show ¬ ¬ b.length ≤ 65536 from fun e => e h), if_neg (show ¬ ¬ okF ⟨true, 0, 0⟩ by decide), if_pos (.inl rfl), if_pos h]
    · rw [if_pos h, if_neg h]
  · unfold sendS
    rw [if_neg (fun e => by cases e.2.1)]
set_option maxHeartbeats 32000000 in
set_option maxRecDepth 10000 in
theorem linksFull_law (x0 : AV) (h0 : AT ts 5 x0) : ACallP Try.prog 4 [x0] (bo true) := by
  obtain ⟨c, rfl, hcc⟩ := at_u8 h0
  have cX := datagram_calls ⟨#[120]⟩ (by decide)
  have ke := example_calls
  obtain ⟨k, hk1, hk2, hk3⟩ : ∃ k : Nat, (c : Int) % 32 + 1 = k ∧ 1 ≤ k ∧ k ≤ 32 := ⟨c % 32 + 1, by omega, by omega, by omega⟩
  refine ACalls.body tok Try.func4 rfl (by kernel_rfl) (by rw [Try.ntmps4]; simp) ?_
  simp only [Try.ntmps4, Try.results4, argT]
  repeat (first|refine AL.do tok rfl rfl ?_|refine AL.nil ?_|refine AW.seq fun K hK => ?_|refine AW.region ?_|refine AL.no rfl rfl ?_|(refine hK _ ?_; clear hK)|(clear hK; refine hK _ ?_; clear hK)|(clear hK; clear hK; refine hK _ ?_; clear hK)|refine qaW ?_|refine qa1 tok ?_|refine qa2 tok ?_|refine qa3 tok ?_|refine AL.loadR tok rfl rfl rfl rfl rfl rfl ?_|refine qa4 tok ?_|refine qa5 tok ?_|refine AW.block ?_|refine AW.exit ?_|refine AW.skip ?_)
  refine AL.callNew new_callable (new_raw 3 (by omega)) (zall_net 3) rfl rfl rfl rfl ?_
  refine AL.nilOwnB 0 50 76 4 rfl rfl (net_wset rfl) ?_
  repeat (first|refine AL.do tok rfl rfl ?_|refine AL.nil ?_|refine AW.seq fun K hK => ?_|refine AW.region ?_|refine AL.no rfl rfl ?_|(refine hK _ ?_; clear hK)|(clear hK; refine hK _ ?_; clear hK)|(clear hK; clear hK; refine hK _ ?_; clear hK)|refine qaW ?_|refine qa1 tok ?_|refine qa2 tok ?_|refine qa3 tok ?_|refine AL.loadR tok rfl rfl rfl rfl rfl rfl ?_|refine qa4 tok ?_|refine qa5 tok ?_|refine AW.block ?_|refine AW.exit ?_|refine AW.skip ?_)
  refine AL.v rfl rfl VOp.ptrNil ?_
  repeat (first|refine AL.do tok rfl rfl ?_|refine AL.nil ?_|refine AW.seq fun K hK => ?_|refine AW.region ?_|refine AL.no rfl rfl ?_|(refine hK _ ?_; clear hK)|(clear hK; refine hK _ ?_; clear hK)|(clear hK; clear hK; refine hK _ ?_; clear hK)|refine qaW ?_|refine qa1 tok ?_|refine qa2 tok ?_|refine qa3 tok ?_|refine AL.loadR tok rfl rfl rfl rfl rfl rfl ?_|refine qa4 tok ?_|refine qa5 tok ?_|refine AW.block ?_|refine AW.exit ?_|refine AW.skip ?_)
  refine AW.condF rfl ?_
  repeat (first|refine AL.do tok rfl rfl ?_|refine AL.nil ?_|refine AW.seq fun K hK => ?_|refine AW.region ?_|refine AL.no rfl rfl ?_|(refine hK _ ?_; clear hK)|(clear hK; refine hK _ ?_; clear hK)|(clear hK; clear hK; refine hK _ ?_; clear hK)|refine qaW ?_|refine qa1 tok ?_|refine qa2 tok ?_|refine qa3 tok ?_|refine AL.loadR tok rfl rfl rfl rfl rfl rfl ?_|refine qa4 tok ?_|refine qa5 tok ?_|refine AW.block ?_|refine AW.exit ?_|refine AW.skip ?_)
  rw [hk1]
  refine AW.loop (ι := List It) (fun l => ⟨88, [(5, i64 k), (3, .ptr (.loc 0) 0)], [(0, some (netB (net0 3) (.own (.loc 1)))), (1, some (wayR (net3 l)).blk)], [], 2⟩)
    (fun l => l.length ≤ 4096) (fun l => 4096 - l.length) [] (by decide) ?_ ?_
  · (refine Imp.weak id (fun _ _ _ _ h => h) (by first|assumption|(intro b hb; cases hb)) ?_ ?_ <;> (repeat' (first|exact trivial|exact Nat.lt_of_lt_of_le (Nat.lt_succ_self _) (Nat.le_of_ble_eq_true rfl)|exact rfl|exact Or.inl ⟨rfl, rfl⟩|exact Or.inr ⟨rfl, LF.fn _ _ ‹_›⟩|refine ⟨?_, ?_⟩)))
  intro l hl K1 hK1
  have w1 := waiting_calls (net3 l) rfl
  have hwl : (net3 l).way.length = l.length := rfl
  by_cases hlt : l.length + k + 1 ≤ 4096
  · have s1 := sendW_calls (net3 l) dX ⟨false, 0, k⟩ rfl (by show (3 : Int) ≤ 7; decide) hl
    rw [send3_put l k hk3 hlt, send3 l k hk3, if_pos hlt] at s1
    have hpl := putI_len l dX ⟨false, 0, k⟩ (k + 1)
    generalize putI l dX ⟨false, 0, k⟩ (k + 1) = l2 at *
    have w2 := waiting_calls (net3 l2) rfl
    have hwl2 : (net3 l2).way.length = l2.length := rfl
    repeat (first|refine AL.do tok rfl rfl ?_|refine AL.nil ?_|refine AW.seq fun K hK => ?_|refine AW.region ?_|refine AL.no rfl rfl ?_|(refine hK _ ?_; clear hK)|(clear hK; refine hK _ ?_; clear hK)|(clear hK; clear hK; refine hK _ ?_; clear hK)|refine qaW ?_|refine qa1 tok ?_|refine qa2 tok ?_|refine qa3 tok ?_|refine AL.loadR tok rfl rfl rfl rfl rfl rfl ?_|refine qa4 tok ?_|refine qa5 tok ?_|refine AW.block ?_|refine AW.exit ?_|refine AW.skip ?_)
    refine AL.callNet (.loc 0) 1 (w1) rfl rfl rfl rfl rfl (by decide) rfl rfl rfl rfl rfl rfl ?_
    rw [hwl]
    repeat (first|refine AL.do tok rfl rfl ?_|refine AL.nil ?_|refine AW.seq fun K hK => ?_|refine AW.region ?_|refine AL.no rfl rfl ?_|(refine hK _ ?_; clear hK)|(clear hK; refine hK _ ?_; clear hK)|(clear hK; clear hK; refine hK _ ?_; clear hK)|refine qaW ?_|refine qa1 tok ?_|refine qa2 tok ?_|refine qa3 tok ?_|refine AL.loadR tok rfl rfl rfl rfl rfl rfl ?_|refine qa4 tok ?_|refine qa5 tok ?_|refine AW.block ?_|refine AW.exit ?_|refine AW.skip ?_)
    refine AW.cond rfl (fun hg => ?_) (fun hg => by simp at hg; omega)
    repeat (first|refine AL.do tok rfl rfl ?_|refine AL.nil ?_|refine AW.seq fun K hK => ?_|refine AW.region ?_|refine AL.no rfl rfl ?_|(refine hK _ ?_; clear hK)|(clear hK; refine hK _ ?_; clear hK)|(clear hK; clear hK; refine hK _ ?_; clear hK)|refine qaW ?_|refine qa1 tok ?_|refine qa2 tok ?_|refine qa3 tok ?_|refine AL.loadR tok rfl rfl rfl rfl rfl rfl ?_|refine qa4 tok ?_|refine qa5 tok ?_|refine AW.block ?_|refine AW.exit ?_|refine AW.skip ?_)
    refine AL.callNet (.loc 0) 2 (w1) rfl rfl rfl rfl rfl (by decide) rfl rfl rfl rfl rfl rfl ?_
    repeat (first|refine AL.do tok rfl rfl ?_|refine AL.nil ?_|refine AW.seq fun K hK => ?_|refine AW.region ?_|refine AL.no rfl rfl ?_|(refine hK _ ?_; clear hK)|(clear hK; refine hK _ ?_; clear hK)|(clear hK; clear hK; refine hK _ ?_; clear hK)|refine qaW ?_|refine qa1 tok ?_|refine qa2 tok ?_|refine qa3 tok ?_|refine AL.loadR tok rfl rfl rfl rfl rfl rfl ?_|refine qa4 tok ?_|refine qa5 tok ?_|refine AW.block ?_|refine AW.exit ?_|refine AW.skip ?_|refine qc1 (cX ..) ?_|refine qc2 (cX ..) ?_)
    refine AL.callNet (.loc 0) 3 (s1) rfl rfl rfl rfl rfl (by decide) rfl rfl rfl rfl rfl rfl ?_
    repeat (first|refine AL.do tok rfl rfl ?_|refine AL.nil ?_|refine AW.seq fun K hK => ?_|refine AW.region ?_|refine AL.no rfl rfl ?_|(refine hK _ ?_; clear hK)|(clear hK; refine hK _ ?_; clear hK)|(clear hK; clear hK; refine hK _ ?_; clear hK)|refine qaW ?_|refine qa1 tok ?_|refine qa2 tok ?_|refine qa3 tok ?_|refine AL.loadR tok rfl rfl rfl rfl rfl rfl ?_|refine qa4 tok ?_|refine qa5 tok ?_|refine AW.block ?_|refine AW.exit ?_|refine AW.skip ?_)
    refine AL.callNet (.loc 0) 4 (w2) rfl rfl rfl rfl rfl (by decide) rfl rfl rfl rfl rfl rfl ?_
    rw [hwl2, hwl]
    repeat' (first|refine AL.do tok rfl rfl ?_|refine AL.nil ?_|refine AW.seq fun K hK => ?_|refine AW.region ?_|refine AL.no rfl rfl ?_|(refine hK _ ?_; clear hK)|(clear hK; refine hK _ ?_; clear hK)|(clear hK; clear hK; refine hK _ ?_; clear hK)|refine qaW ?_|refine qa1 tok ?_|refine qa2 tok ?_|refine qa3 tok ?_|refine AL.loadR tok rfl rfl rfl rfl rfl rfl ?_|refine qa4 tok ?_|refine qa5 tok ?_|refine AW.block ?_|refine AW.exit ?_|refine AW.skip ?_|((fail_if_success (refine AL.guard (b := true) rfl rfl ?_ ?_)); (fail_if_success (refine AL.guard (b := false) rfl rfl ?_ ?_)); refine AL.guard rfl rfl (fun hg => ?_) (fun hg => ?_) <;> ((try simp only [DX] at hg) <;> (try first|(exfalso; omega)|exact absurd trivial hg|exact False.elim hg|exact absurd rfl hg)))|refine AW.condT rfl ?_|refine AW.condF rfl ?_|(refine AW.cond rfl (fun hg => ?_) (fun hg => ?_) <;> ((try simp only [DX] at hg) <;> (try first|(exfalso; omega)|exact absurd trivial hg|exact False.elim hg|exact absurd rfl hg))))
    refine hK1 _ l2 (by show l2.length ≤ 4096; omega) (by omega) ?_
    (refine Imp.weak (fun k => if k = 1 then 5 else k) (fun j k h1 h2 h => by by_cases e1 : j = 1 <;> by_cases e2 : k = 1 <;> simp [e1, e2] at h <;> omega) (by first|assumption|(intro b hb; cases hb)) ?_ ?_ <;> (repeat' (first|exact trivial|exact Nat.lt_of_lt_of_le (Nat.lt_succ_self _) (Nat.le_of_ble_eq_true rfl)|exact rfl|exact Or.inl ⟨rfl, rfl⟩|exact Or.inr ⟨rfl, LF.fn _ _ ‹_›⟩|refine ⟨?_, ?_⟩)))
  · repeat (first|refine AL.do tok rfl rfl ?_|refine AL.nil ?_|refine AW.seq fun K hK => ?_|refine AW.region ?_|refine AL.no rfl rfl ?_|(refine hK _ ?_; clear hK)|(clear hK; refine hK _ ?_; clear hK)|(clear hK; clear hK; refine hK _ ?_; clear hK)|refine qaW ?_|refine qa1 tok ?_|refine qa2 tok ?_|refine qa3 tok ?_|refine AL.loadR tok rfl rfl rfl rfl rfl rfl ?_|refine qa4 tok ?_|refine qa5 tok ?_|refine AW.block ?_|refine AW.exit ?_|refine AW.skip ?_)
    refine AL.callNet (.loc 0) 1 (w1) rfl rfl rfl rfl rfl (by decide) rfl rfl rfl rfl rfl rfl ?_
    rw [hwl]
    repeat (first|refine AL.do tok rfl rfl ?_|refine AL.nil ?_|refine AW.seq fun K hK => ?_|refine AW.region ?_|refine AL.no rfl rfl ?_|(refine hK _ ?_; clear hK)|(clear hK; refine hK _ ?_; clear hK)|(clear hK; clear hK; refine hK _ ?_; clear hK)|refine qaW ?_|refine qa1 tok ?_|refine qa2 tok ?_|refine qa3 tok ?_|refine AL.loadR tok rfl rfl rfl rfl rfl rfl ?_|refine qa4 tok ?_|refine qa5 tok ?_|refine AW.block ?_|refine AW.exit ?_|refine AW.skip ?_)
    refine AW.cond rfl (fun hg => by simp at hg; omega) (fun hg => ?_)
    repeat (first|refine AL.do tok rfl rfl ?_|refine AL.nil ?_|refine AW.seq fun K hK => ?_|refine AW.region ?_|refine AL.no rfl rfl ?_|(refine hK _ ?_; clear hK)|(clear hK; refine hK _ ?_; clear hK)|(clear hK; clear hK; refine hK _ ?_; clear hK)|refine qaW ?_|refine qa1 tok ?_|refine qa2 tok ?_|refine qa3 tok ?_|refine AL.loadR tok rfl rfl rfl rfl rfl rfl ?_|refine qa4 tok ?_|refine qa5 tok ?_|refine AW.block ?_|refine AW.exit ?_|refine AW.skip ?_)
    obtain ⟨long, hlong, hrep⟩ : ∃ b : List Nat, b.length = 65537 ∧ List.replicate 65537 [D.one (Value.int .u8 0)] = b.map encU := ⟨List.replicate 65537 0, List.length_replicate .., by rw [List.map_replicate]; rfl⟩
    refine qa4 (m := 65537) (hb := ?hb) tok ?_
    case hb => simp
    refine AL.frz 3 rfl rfl rfl ?_
    rw [hrep]
    have d1 := sendW_calls (net3 l) dX ⟨false, 0, (4096 - l.length : Nat)⟩ rfl (by show (3 : Int) ≤ 7; decide) hl
    rw [send3_not l dX _ (by rw [send3 l _ (by omega), if_neg (by omega)]; decide), send3 l _ (by omega), if_neg (by omega)] at d1
    have d2 := sendW_calls (net3 l) dX ⟨true, 0, k⟩ rfl (by show (3 : Int) ≤ 7; decide) hl
    rw [(send3_drop l k hk3).1, (send3_drop l k hk3).2] at d2
    have d3 := sendW_calls (net3 l) ⟨0, 2, long⟩ ⟨true, 0, 0⟩ rfl (by show (3 : Int) ≤ 7; decide) hl
    rw [(send3_long l long).1, (send3_long l long).2, if_neg (by omega)] at d3
    have d4 := sendW_calls (net3 l) ⟨0, 2, long.drop 1⟩ ⟨true, 0, 0⟩ rfl (by show (3 : Int) ≤ 7; decide) hl
    rw [(send3_long l (long.drop 1)).1, (send3_long l (long.drop 1)).2, if_pos (by rw [List.length_drop]; omega)] at d4
    repeat (first|refine AL.do tok rfl rfl ?_|refine AL.nil ?_|refine AW.seq fun K hK => ?_|refine AW.region ?_|refine AL.no rfl rfl ?_|(refine hK _ ?_; clear hK)|(clear hK; refine hK _ ?_; clear hK)|(clear hK; clear hK; refine hK _ ?_; clear hK)|refine qaW ?_|refine qa1 tok ?_|refine qa2 tok ?_|refine qa3 tok ?_|refine AL.loadR tok rfl rfl rfl rfl rfl rfl ?_|refine qa4 tok ?_|refine qa5 tok ?_|refine AW.block ?_|refine AW.exit ?_|refine AW.skip ?_)
    refine AL.callNet (.loc 0) 2 (w1) rfl rfl rfl rfl rfl (by decide) rfl rfl rfl rfl rfl rfl ?_
    rw [hwl]
    repeat (first|refine AL.do tok rfl rfl ?_|refine AL.nil ?_|refine AW.seq fun K hK => ?_|refine AW.region ?_|refine AL.no rfl rfl ?_|(refine hK _ ?_; clear hK)|(clear hK; refine hK _ ?_; clear hK)|(clear hK; clear hK; refine hK _ ?_; clear hK)|refine qaW ?_|refine qa1 tok ?_|refine qa2 tok ?_|refine qa3 tok ?_|refine AL.loadR tok rfl rfl rfl rfl rfl rfl ?_|refine qa4 tok ?_|refine qa5 tok ?_|refine AW.block ?_|refine AW.exit ?_|refine AW.skip ?_)
    rw [show (4096 : Int) - (l.length : Int) = ((4096 - l.length : Nat) : Int) by omega]
    repeat (first|refine AL.do tok rfl rfl ?_|refine AL.nil ?_|refine AW.seq fun K hK => ?_|refine AW.region ?_|refine AL.no rfl rfl ?_|(refine hK _ ?_; clear hK)|(clear hK; refine hK _ ?_; clear hK)|(clear hK; clear hK; refine hK _ ?_; clear hK)|refine qaW ?_|refine qa1 tok ?_|refine qa2 tok ?_|refine qa3 tok ?_|refine AL.loadR tok rfl rfl rfl rfl rfl rfl ?_|refine qa4 tok ?_|refine qa5 tok ?_|refine AW.block ?_|refine AW.exit ?_|refine AW.skip ?_|refine qc1 (cX ..) ?_|refine qc2 (cX ..) ?_)
    refine AL.callNet (.loc 0) 5 (d1) rfl rfl rfl rfl rfl (by decide) rfl rfl rfl rfl rfl rfl ?_
    repeat (first|refine AL.do tok rfl rfl ?_|refine AL.nil ?_|refine AW.seq fun K hK => ?_|refine AW.region ?_|refine AL.no rfl rfl ?_|(refine hK _ ?_; clear hK)|(clear hK; refine hK _ ?_; clear hK)|(clear hK; clear hK; refine hK _ ?_; clear hK)|refine qaW ?_|refine qa1 tok ?_|refine qa2 tok ?_|refine qa3 tok ?_|refine AL.loadR tok rfl rfl rfl rfl rfl rfl ?_|refine qa4 tok ?_|refine qa5 tok ?_|refine AW.block ?_|refine AW.exit ?_|refine AW.skip ?_)
    repeat' (first|refine AL.do tok rfl rfl ?_|refine AL.nil ?_|refine AW.seq fun K hK => ?_|refine AW.region ?_|refine AL.no rfl rfl ?_|(refine hK _ ?_; clear hK)|(clear hK; refine hK _ ?_; clear hK)|(clear hK; clear hK; refine hK _ ?_; clear hK)|refine qaW ?_|refine qa1 tok ?_|refine qa2 tok ?_|refine qa3 tok ?_|refine AL.loadR tok rfl rfl rfl rfl rfl rfl ?_|refine qa4 tok ?_|refine qa5 tok ?_|refine AW.block ?_|refine AW.exit ?_|refine AW.skip ?_|refine qc1 (cX ..) ?_|refine qc2 (cX ..) ?_|((fail_if_success (refine AL.guard (b := true) rfl rfl ?_ ?_)); (fail_if_success (refine AL.guard (b := false) rfl rfl ?_ ?_)); refine AL.guard rfl rfl (fun hg => ?_) (fun hg => ?_) <;> ((try simp only [DX] at hg) <;> (try first|(exfalso; omega)|exact absurd trivial hg|exact False.elim hg|exact absurd rfl hg)))|refine AW.condT rfl ?_|refine AW.condF rfl ?_|(refine AW.cond rfl (fun hg => ?_) (fun hg => ?_) <;> ((try simp only [DX] at hg) <;> (try first|(exfalso; omega)|exact absurd trivial hg|exact False.elim hg|exact absurd rfl hg))))
    refine AL.callNet (.loc 0) 6 (d2) rfl rfl rfl rfl rfl (by decide) rfl rfl rfl rfl rfl rfl ?_
    repeat (first|refine AL.do tok rfl rfl ?_|refine AL.nil ?_|refine AW.seq fun K hK => ?_|refine AW.region ?_|refine AL.no rfl rfl ?_|(refine hK _ ?_; clear hK)|(clear hK; refine hK _ ?_; clear hK)|(clear hK; clear hK; refine hK _ ?_; clear hK)|refine qaW ?_|refine qa1 tok ?_|refine qa2 tok ?_|refine qa3 tok ?_|refine AL.loadR tok rfl rfl rfl rfl rfl rfl ?_|refine qa4 tok ?_|refine qa5 tok ?_|refine AW.block ?_|refine AW.exit ?_|refine AW.skip ?_)
    refine AL.callNet (.loc 0) 7 (d3) rfl rfl rfl rfl rfl (by decide) rfl rfl rfl rfl rfl rfl ?_
    repeat (first|refine AL.do tok rfl rfl ?_|refine AL.nil ?_|refine AW.seq fun K hK => ?_|refine AW.region ?_|refine AL.no rfl rfl ?_|(refine hK _ ?_; clear hK)|(clear hK; refine hK _ ?_; clear hK)|(clear hK; clear hK; refine hK _ ?_; clear hK)|refine qaW ?_|refine qa1 tok ?_|refine qa2 tok ?_|refine qa3 tok ?_|refine AL.loadR tok rfl rfl rfl rfl rfl rfl ?_|refine qa4 tok ?_|refine qa5 tok ?_|refine AW.block ?_|refine AW.exit ?_|refine AW.skip ?_)
    refine AW.condF rfl ?_
    repeat (first|refine AL.do tok rfl rfl ?_|refine AL.nil ?_|refine AW.seq fun K hK => ?_|refine AW.region ?_|refine AL.no rfl rfl ?_|(refine hK _ ?_; clear hK)|(clear hK; refine hK _ ?_; clear hK)|(clear hK; clear hK; refine hK _ ?_; clear hK)|refine qaW ?_|refine qa1 tok ?_|refine qa2 tok ?_|refine qa3 tok ?_|refine AL.loadR tok rfl rfl rfl rfl rfl rfl ?_|refine qa4 tok ?_|refine qa5 tok ?_|refine AW.block ?_|refine AW.exit ?_|refine AW.skip ?_)
    refine AL.v rfl rfl (qv11 (i := 1) tok) ?_
    repeat (first|refine AL.do tok rfl rfl ?_|refine AL.nil ?_|refine AW.seq fun K hK => ?_|refine AW.region ?_|refine AL.no rfl rfl ?_|(refine hK _ ?_; clear hK)|(clear hK; refine hK _ ?_; clear hK)|(clear hK; clear hK; refine hK _ ?_; clear hK)|refine qaW ?_|refine qa1 tok ?_|refine qa2 tok ?_|refine qa3 tok ?_|refine AL.loadR tok rfl rfl rfl rfl rfl rfl ?_|refine qa4 tok ?_|refine qa5 tok ?_|refine AW.block ?_|refine AW.exit ?_|refine AW.skip ?_)
    refine AL.callNet (.loc 0) 8 (d4) rfl rfl rfl rfl rfl (by decide) rfl rfl rfl rfl rfl rfl ?_
    repeat (first|refine AL.do tok rfl rfl ?_|refine AL.nil ?_|refine AW.seq fun K hK => ?_|refine AW.region ?_|refine AL.no rfl rfl ?_|(refine hK _ ?_; clear hK)|(clear hK; refine hK _ ?_; clear hK)|(clear hK; clear hK; refine hK _ ?_; clear hK)|refine qaW ?_|refine qa1 tok ?_|refine qa2 tok ?_|refine qa3 tok ?_|refine AL.loadR tok rfl rfl rfl rfl rfl rfl ?_|refine qa4 tok ?_|refine qa5 tok ?_|refine AW.block ?_|refine AW.exit ?_|refine AW.skip ?_|refine qc1 (ke ..) ?_|refine qc2 (ke ..) ?_)
    refine AW.ret ?_
    refine ⟨_, _, _, _, rfl, Out.pure rfl ⟨?_, rfl⟩ rfl⟩
    rfl
end Go.Proofs.Try
