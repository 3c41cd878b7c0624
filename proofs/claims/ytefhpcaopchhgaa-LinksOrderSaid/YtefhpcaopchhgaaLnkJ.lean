/- links: the chapter's example. -/
import Derived.Test.YtefhpcaopchhgaaLnkI
import Derived.Test.YtefhpcaopchhgaaWk
set_option linter.unusedSimpArgs false
set_option linter.unusedVariables false
namespace Go.Proofs.Try
open Go Go.AM

abbrev net0 (nn : Int) : Nt := ⟨nn, List.replicate 49 false, []⟩
theorem new_callable : Callable Try.prog 7 := ⟨Try.f7, Try.func7, by kernel_rfl, rfl⟩
theorem zall_net (nn : Int) : zall (netVs nn).toList (netC (net0 nn) .nilrow) = true := by
  show (decide (nn = nn) && _) = true
  rw [decide_eq_true rfl]
  rfl
section
variable {σ : St} {o : Option Tmp} {x y : Operand} {t t2 ty : TypeId} {pos : String} {aft : Array Edge} {g : Option (Nat × Bool)}
/-- A pointer compared with nil. -/
theorem VOp.ptrNil {i : AM.Id} {off : Nat} (hx : ev σ x = some (.ptr i off) := by rfl) (hy : ev σ y = some (.d (.one (.pointer none))) := by rfl) (h : Try.prog.underlying t = some (.pointer (Try.prog.pointee t)) := by kernel_rfl) : VOp Try.prog σ ⟨o, .binOp .eql t x y t2, ty, pos, aft, g⟩ (bo false) := by
  refine VOp.mk fun c ac w ρ O hs => ⟨.bool false, fun w' _ => ?_, .d _ _ (.one _ rfl)⟩
  have e1 := ev_sound hs hx
  have e2 := one_of (ev_sound hs hy)
  generalize hq : ac.eval x = q at e1
  cases e1 with
  | ptr _ _ g' hg =>
    simp only [execOp, hq, e2, eqGuard_at_pointer]
    have := run_eql_pointer_nil (P := Try.prog) w' t (some ⟨g', off, none⟩) h
    simp [this]
theorem VOp.nilNil (hx : ev σ x = some (.d (.one (.pointer none))) := by rfl) (hy : ev σ y = some (.d (.one (.pointer none))) := by rfl) (h : Try.prog.underlying t = some (.pointer (Try.prog.pointee t)) := by kernel_rfl) : VOp Try.prog σ ⟨o, .binOp .eql t x y t2, ty, pos, aft, g⟩ (bo true) := by
  refine VOp.mk fun c ac w ρ O hs => ⟨.bool true, fun w' _ => ?_, .d _ _ (.one _ rfl)⟩
  have e1 := one_of (ev_sound hs hx)
  have e2 := one_of (ev_sound hs hy)
  simp only [execOp, e1, e2, eqGuard_at_pointer]
  have := run_eql_pointer_nil (P := Try.prog) w' t none h
  simp [this]
theorem VOp.ptrNnil {i : AM.Id} {off : Nat} (hx : ev σ x = some (.ptr i off) := by rfl) (hy : ev σ y = some (.d (.one (.pointer none))) := by rfl) (h : Try.prog.underlying t = some (.pointer (Try.prog.pointee t)) := by kernel_rfl) : VOp Try.prog σ ⟨o, .binOp .neq t x y t2, ty, pos, aft, g⟩ (bo true) := by
  refine VOp.mk fun c ac w ρ O hs => ⟨.bool true, fun w' _ => ?_, .d _ _ (.one _ rfl)⟩
  have e1 := ev_sound hs hx
  have e2 := one_of (ev_sound hs hy)
  generalize hq : ac.eval x = q at e1
  cases e1 with
  | ptr _ _ g' hg =>
    simp only [execOp, hq, e2, eqGuard_at_pointer]
    have := run_neq_pointer_nil (P := Try.prog) w' t (some ⟨g', off, none⟩) h
    simp [this]
theorem VOp.nilNnil (hx : ev σ x = some (.d (.one (.pointer none))) := by rfl) (hy : ev σ y = some (.d (.one (.pointer none))) := by rfl) (h : Try.prog.underlying t = some (.pointer (Try.prog.pointee t)) := by kernel_rfl) : VOp Try.prog σ ⟨o, .binOp .neq t x y t2, ty, pos, aft, g⟩ (bo false) := by
  refine VOp.mk fun c ac w ρ O hs => ⟨.bool false, fun w' _ => ?_, .d _ _ (.one _ rfl)⟩
  have e1 := one_of (ev_sound hs hx)
  have e2 := one_of (ev_sound hs hy)
  simp only [execOp, e1, e2, eqGuard_at_pointer]
  have := run_neq_pointer_nil (P := Try.prog) w' t none h
  simp [this]
end
abbrev dA : Dg := ⟨0, 1, numsB ⟨#[97]⟩⟩
abbrev dB : Dg := ⟨0, 1, numsB ⟨#[98]⟩⟩
abbrev n1 : Nt := setW (net0 2) [⟨2, dA⟩]
abbrev n2 : Nt := setW (net0 2) [⟨2, dA⟩, ⟨1, dB⟩, ⟨2, dB⟩]
abbrev n3 : Nt := setW (net0 2) [⟨1, dA⟩, ⟨1, dB⟩]
abbrev n4 : Nt := setW (setC (net0 2) 1 true) []
theorem x1 : sendE (net0 2) dA ⟨false, 1, 0⟩ = 0 ∧ sendS (net0 2) dA ⟨false, 1, 0⟩ = n1 := by decide +kernel
theorem x2 : sendE n1 dB ⟨false, 0, 1⟩ = 0 ∧ sendS n1 dB ⟨false, 0, 1⟩ = n2 := by decide +kernel
theorem x3 : arrS n2.way = [dB] ∧ stepS n2 = n3 := by decide +kernel
theorem x4 : arrS n3.way = [dA, dB] ∧ stepS n3 = net0 2 := by decide +kernel
theorem x5 : mendE n3 1 0 = 0 ∧ cutS n3 1 0 = n4 := by decide +kernel
theorem x6 : arrS n4.way = [] ∧ stepS n4 = n4 := by decide +kernel
theorem x7 : upS n4 0 1 = false ∧ upS (net0 2) 0 1 = true ∧ upS (net0 2) 1 1 = false := by decide +kernel
theorem x8 : sendE (net0 2) ⟨0, 0, []⟩ ⟨false, 0, 0⟩ = 1 ∧ sendS (net0 2) ⟨0, 0, []⟩ ⟨false, 0, 0⟩ = net0 2 := by decide +kernel
theorem x9 : sendE (net0 2) ⟨0, 2, []⟩ ⟨false, 0, 0⟩ = 1 ∧ sendS (net0 2) ⟨0, 2, []⟩ ⟨false, 0, 0⟩ = net0 2 := by decide +kernel
theorem okWay_of (l : List It) (h : decide (l.length ≤ 100000) && l.all (fun x => decide (1 ≤ x.wait) && decide (x.wait ≤ 4000000000000)) = true) : OkWay l := by
  simp only [Bool.and_eq_true, decide_eq_true_eq, List.all_eq_true] at h
  exact ⟨h.1, fun x hx => h.2 x hx⟩
set_option maxHeartbeats 16000000 in
set_option maxRecDepth 10000 in
theorem example_calls : ACallP Try.prog 8 [] (bo true) := by
  have cA := datagram_calls ⟨#[97]⟩ (by decide)
  have cB := datagram_calls ⟨#[98]⟩ (by decide)
  have c1 := sendW_calls (net0 2) dA ⟨false, 1, 0⟩ (by decide) (by decide) (by decide)
  rw [x1.1, x1.2] at c1
  have c2 := sendW_calls n1 dB ⟨false, 0, 1⟩ (by decide) (by decide) (by decide)
  rw [x2.1, x2.2] at c2
  have c3 := waiting_calls n2 (by decide)
  have c4 := step_calls n2 (by decide) (okWay_of _ (by decide))
  rw [x3.1, x3.2] at c4
  have c5 := step_calls n3 (by decide) (okWay_of _ (by decide))
  rw [x4.1, x4.2] at c5
  have c6 := cut_calls n3 1 0 (by decide) (by decide) (by decide)
  rw [x5.1, x5.2] at c6
  have c7 := waiting_calls n4 (by decide)
  have c8 := step_calls n4 (by decide) (okWay_of _ (by decide))
  rw [x6.1, x6.2] at c8
  have c9 := up_calls n4 0 1 (by decide) (by decide)
  rw [x7.1] at c9
  have c10 := sendW_calls (net0 2) ⟨0, 0, []⟩ ⟨false, 0, 0⟩ (by decide) (by decide) (by decide)
  rw [x8.1, x8.2] at c10
  have c11 := sendW_calls (net0 2) ⟨0, 2, []⟩ ⟨false, 0, 0⟩ (by decide) (by decide) (by decide)
  rw [x9.1, x9.2] at c11
  have c12 := up_calls (net0 2) 0 1 (by decide) (by decide)
  rw [x7.2.1] at c12
  have c13 := up_calls (net0 2) 1 1 (by decide) (by decide)
  rw [x7.2.2] at c13
  have s1 := same_calls [dB]
  have s2 := same_calls [dA, dB]
  refine ACalls.body tok Try.func8 rfl (by kernel_rfl) (by rw [Try.ntmps8]; simp) ?_
  simp only [Try.ntmps8, Try.results8, argT]
  repeat (first|refine AL.do tok rfl rfl ?_|refine AL.nil ?_|refine AW.seq fun K hK => ?_|refine AW.region ?_|refine AL.no rfl rfl ?_|(refine hK _ ?_; clear hK)|(clear hK; refine hK _ ?_; clear hK)|(clear hK; clear hK; refine hK _ ?_; clear hK)|refine qaW ?_|refine qa1 tok ?_|refine qa2 tok ?_|refine qa3 tok ?_|refine AL.loadR tok rfl rfl rfl rfl rfl rfl ?_|refine qa4 tok ?_|refine qa5 tok ?_|refine AW.block ?_|refine AW.exit ?_|refine AW.skip ?_)
  refine AL.callNew new_callable (new_raw 2 (by omega)) (zall_net 2) rfl rfl rfl rfl ?_
  refine AL.nilOwnB 0 50 76 4 rfl rfl (net_wset rfl) ?_
  repeat (first|refine AL.do tok rfl rfl ?_|refine AL.nil ?_|refine AW.seq fun K hK => ?_|refine AW.region ?_|refine AL.no rfl rfl ?_|(refine hK _ ?_; clear hK)|(clear hK; refine hK _ ?_; clear hK)|(clear hK; clear hK; refine hK _ ?_; clear hK)|refine qaW ?_|refine qa1 tok ?_|refine qa2 tok ?_|refine qa3 tok ?_|refine AL.loadR tok rfl rfl rfl rfl rfl rfl ?_|refine qa4 tok ?_|refine qa5 tok ?_|refine AW.block ?_|refine AW.exit ?_|refine AW.skip ?_)
  refine AL.callNew new_callable (new_raw 2 (by omega)) (zall_net 2) rfl rfl rfl rfl ?_
  refine AL.nilOwnB 2 50 76 4 rfl rfl (net_wset rfl) ?_
  repeat (first|refine AL.do tok rfl rfl ?_|refine AL.nil ?_|refine AW.seq fun K hK => ?_|refine AW.region ?_|refine AL.no rfl rfl ?_|(refine hK _ ?_; clear hK)|(clear hK; refine hK _ ?_; clear hK)|(clear hK; clear hK; refine hK _ ?_; clear hK)|refine qaW ?_|refine qa1 tok ?_|refine qa2 tok ?_|refine qa3 tok ?_|refine AL.loadR tok rfl rfl rfl rfl rfl rfl ?_|refine qa4 tok ?_|refine qa5 tok ?_|refine AW.block ?_|refine AW.exit ?_|refine AW.skip ?_)
  refine AL.v rfl rfl VOp.ptrNil ?_
  repeat (first|refine AL.do tok rfl rfl ?_|refine AL.nil ?_|refine AW.seq fun K hK => ?_|refine AW.region ?_|refine AL.no rfl rfl ?_|(refine hK _ ?_; clear hK)|(clear hK; refine hK _ ?_; clear hK)|(clear hK; clear hK; refine hK _ ?_; clear hK)|refine qaW ?_|refine qa1 tok ?_|refine qa2 tok ?_|refine qa3 tok ?_|refine AL.loadR tok rfl rfl rfl rfl rfl rfl ?_|refine qa4 tok ?_|refine qa5 tok ?_|refine AW.block ?_|refine AW.exit ?_|refine AW.skip ?_)
  refine AL.v rfl rfl VOp.ptrNil ?_
  repeat (first|refine AL.do tok rfl rfl ?_|refine AL.nil ?_|refine AW.seq fun K hK => ?_|refine AW.region ?_|refine AL.no rfl rfl ?_|(refine hK _ ?_; clear hK)|(clear hK; refine hK _ ?_; clear hK)|(clear hK; clear hK; refine hK _ ?_; clear hK)|refine qaW ?_|refine qa1 tok ?_|refine qa2 tok ?_|refine qa3 tok ?_|refine AL.loadR tok rfl rfl rfl rfl rfl rfl ?_|refine qa4 tok ?_|refine qa5 tok ?_|refine AW.block ?_|refine AW.exit ?_|refine AW.skip ?_)
  refine AW.condF rfl ?_
  repeat (first|refine AL.do tok rfl rfl ?_|refine AL.nil ?_|refine AW.seq fun K hK => ?_|refine AW.region ?_|refine AL.no rfl rfl ?_|(refine hK _ ?_; clear hK)|(clear hK; refine hK _ ?_; clear hK)|(clear hK; clear hK; refine hK _ ?_; clear hK)|refine qaW ?_|refine qa1 tok ?_|refine qa2 tok ?_|refine qa3 tok ?_|refine AL.loadR tok rfl rfl rfl rfl rfl rfl ?_|refine qa4 tok ?_|refine qa5 tok ?_|refine AW.block ?_|refine AW.exit ?_|refine AW.skip ?_)
  refine AL.buildF tok rfl rfl rfl rfl rfl rfl rfl rfl rfl rfl ?_
  repeat (first|refine AL.do tok rfl rfl ?_|refine AL.nil ?_|refine AW.seq fun K hK => ?_|refine AW.region ?_|refine AL.no rfl rfl ?_|(refine hK _ ?_; clear hK)|(clear hK; refine hK _ ?_; clear hK)|(clear hK; clear hK; refine hK _ ?_; clear hK)|refine qaW ?_|refine qa1 tok ?_|refine qa2 tok ?_|refine qa3 tok ?_|refine AL.loadR tok rfl rfl rfl rfl rfl rfl ?_|refine qa4 tok ?_|refine qa5 tok ?_|refine AW.block ?_|refine AW.exit ?_|refine AW.skip ?_)
  refine AL.v rfl rfl (VOp.lenB tok rfl rfl) ?_
  repeat (first|refine AL.do tok rfl rfl ?_|refine AL.nil ?_|refine AW.seq fun K hK => ?_|refine AW.region ?_|refine AL.no rfl rfl ?_|(refine hK _ ?_; clear hK)|(clear hK; refine hK _ ?_; clear hK)|(clear hK; clear hK; refine hK _ ?_; clear hK)|refine qaW ?_|refine qa1 tok ?_|refine qa2 tok ?_|refine qa3 tok ?_|refine AL.loadR tok rfl rfl rfl rfl rfl rfl ?_|refine qa4 tok ?_|refine qa5 tok ?_|refine AW.block ?_|refine AW.exit ?_|refine AW.skip ?_)
  refine AW.loop (ι := Nat) (fun i => ⟨111, [(33, i64 i), (32, i64 2), (31, .bsl (.loc 4) 2), (1, .ptr (.loc 0) 0), (3, .ptr (.loc 2) 0)], [(4, some (.box 23 [.ptr (.loc 0) 0, .ptr (.loc 2) 0])), (0, some (netB (if i = 0 then net0 2 else n3) (.own (.loc 1)))), (1, some (wayR (if i = 0 then net0 2 else n3)).blk), (2, some (netB (if i ≤ 1 then net0 2 else n3) (.own (.loc 3)))), (3, some (wayR (if i ≤ 1 then net0 2 else n3)).blk)], [], 5⟩)
    (fun i => i ≤ 2) (fun i => 2 - i) 0 (Nat.zero_le _) ?_ ?_
  · (refine Imp.weak id (fun _ _ _ _ h => h) (by first|assumption|(intro b hb; cases hb)) ?_ ?_ <;> (repeat' (first|exact trivial|exact Nat.lt_of_lt_of_le (Nat.lt_succ_self _) (Nat.le_of_ble_eq_true rfl)|exact rfl|exact Or.inl ⟨rfl, rfl⟩|exact Or.inr ⟨rfl, LF.fn _ _ ‹_›⟩|refine ⟨?_, ?_⟩)))
  rintro i hi K1 hK1
  obtain rfl | rfl | rfl : i = 0 ∨ i = 1 ∨ i = 2 := by omega
  · rw [if_pos rfl, if_pos (by decide)]
    repeat (first|refine AL.do tok rfl rfl ?_|refine AL.nil ?_|refine AW.seq fun K hK => ?_|refine AW.region ?_|refine AL.no rfl rfl ?_|(refine hK _ ?_; clear hK)|(clear hK; refine hK _ ?_; clear hK)|(clear hK; clear hK; refine hK _ ?_; clear hK)|refine qaW ?_|refine qa1 tok ?_|refine qa2 tok ?_|refine qa3 tok ?_|refine AL.loadR tok rfl rfl rfl rfl rfl rfl ?_|refine qa4 tok ?_|refine qa5 tok ?_|refine AW.block ?_|refine AW.exit ?_|refine AW.skip ?_)
    refine AW.condT rfl ?_
    repeat (first|refine AL.do tok rfl rfl ?_|refine AL.nil ?_|refine AW.seq fun K hK => ?_|refine AW.region ?_|refine AL.no rfl rfl ?_|(refine hK _ ?_; clear hK)|(clear hK; refine hK _ ?_; clear hK)|(clear hK; clear hK; refine hK _ ?_; clear hK)|refine qaW ?_|refine qa1 tok ?_|refine qa2 tok ?_|refine qa3 tok ?_|refine AL.loadR tok rfl rfl rfl rfl rfl rfl ?_|refine qa4 tok ?_|refine qa5 tok ?_|refine AW.block ?_|refine AW.exit ?_|refine AW.skip ?_)
    refine AL.v rfl rfl (VOp.idxF (j := 0) tok rfl rfl rfl rfl rfl (by decide)) ?_
    repeat (first|refine AL.do tok rfl rfl ?_|refine AL.nil ?_|refine AW.seq fun K hK => ?_|refine AW.region ?_|refine AL.no rfl rfl ?_|(refine hK _ ?_; clear hK)|(clear hK; refine hK _ ?_; clear hK)|(clear hK; clear hK; refine hK _ ?_; clear hK)|refine qaW ?_|refine qa1 tok ?_|refine qa2 tok ?_|refine qa3 tok ?_|refine AL.loadR tok rfl rfl rfl rfl rfl rfl ?_|refine qa4 tok ?_|refine qa5 tok ?_|refine AW.block ?_|refine AW.exit ?_|refine AW.skip ?_|refine qc1 (cA ..) ?_|refine qc2 (cA ..) ?_)
    refine AL.callNet (.loc 0) 1 (c1) rfl rfl rfl rfl rfl (by decide) rfl rfl rfl rfl rfl rfl ?_
    repeat (first|refine AL.do tok rfl rfl ?_|refine AL.nil ?_|refine AW.seq fun K hK => ?_|refine AW.region ?_|refine AL.no rfl rfl ?_|(refine hK _ ?_; clear hK)|(clear hK; refine hK _ ?_; clear hK)|(clear hK; clear hK; refine hK _ ?_; clear hK)|refine qaW ?_|refine qa1 tok ?_|refine qa2 tok ?_|refine qa3 tok ?_|refine AL.loadR tok rfl rfl rfl rfl rfl rfl ?_|refine qa4 tok ?_|refine qa5 tok ?_|refine AW.block ?_|refine AW.exit ?_|refine AW.skip ?_|refine qc1 (cB ..) ?_|refine qc2 (cB ..) ?_)
    refine AL.callNet (.loc 0) 5 (c2) rfl rfl rfl rfl rfl (by decide) rfl rfl rfl rfl rfl rfl ?_
    repeat (first|refine AL.do tok rfl rfl ?_|refine AL.nil ?_|refine AW.seq fun K hK => ?_|refine AW.region ?_|refine AL.no rfl rfl ?_|(refine hK _ ?_; clear hK)|(clear hK; refine hK _ ?_; clear hK)|(clear hK; clear hK; refine hK _ ?_; clear hK)|refine qaW ?_|refine qa1 tok ?_|refine qa2 tok ?_|refine qa3 tok ?_|refine AL.loadR tok rfl rfl rfl rfl rfl rfl ?_|refine qa4 tok ?_|refine qa5 tok ?_|refine AW.block ?_|refine AW.exit ?_|refine AW.skip ?_)
    refine AL.callNet (.loc 0) 6 (c3) rfl rfl rfl rfl rfl (by decide) rfl rfl rfl rfl rfl rfl ?_
    repeat (first|refine AL.do tok rfl rfl ?_|refine AL.nil ?_|refine AW.seq fun K hK => ?_|refine AW.region ?_|refine AL.no rfl rfl ?_|(refine hK _ ?_; clear hK)|(clear hK; refine hK _ ?_; clear hK)|(clear hK; clear hK; refine hK _ ?_; clear hK)|refine qaW ?_|refine qa1 tok ?_|refine qa2 tok ?_|refine qa3 tok ?_|refine AL.loadR tok rfl rfl rfl rfl rfl rfl ?_|refine qa4 tok ?_|refine qa5 tok ?_|refine AW.block ?_|refine AW.exit ?_|refine AW.skip ?_)
    refine AL.callNet (.loc 0) 7 (c4) rfl rfl rfl rfl rfl (by decide) rfl rfl rfl rfl rfl rfl ?_
    repeat (first|refine AL.do tok rfl rfl ?_|refine AL.nil ?_|refine AW.seq fun K hK => ?_|refine AW.region ?_|refine AL.no rfl rfl ?_|(refine hK _ ?_; clear hK)|(clear hK; refine hK _ ?_; clear hK)|(clear hK; clear hK; refine hK _ ?_; clear hK)|refine qaW ?_|refine qa1 tok ?_|refine qa2 tok ?_|refine qa3 tok ?_|refine AL.loadR tok rfl rfl rfl rfl rfl rfl ?_|refine qa4 tok ?_|refine qa5 tok ?_|refine AW.block ?_|refine AW.exit ?_|refine AW.skip ?_|refine qc1 (cB ..) ?_|refine qc2 (cB ..) ?_|refine qc1 (s1 ..) ?_|refine qc2 (s1 ..) ?_)
    refine AW.condF rfl ?_
    repeat (first|refine AL.do tok rfl rfl ?_|refine AL.nil ?_|refine AW.seq fun K hK => ?_|refine AW.region ?_|refine AL.no rfl rfl ?_|(refine hK _ ?_; clear hK)|(clear hK; refine hK _ ?_; clear hK)|(clear hK; clear hK; refine hK _ ?_; clear hK)|refine qaW ?_|refine qa1 tok ?_|refine qa2 tok ?_|refine qa3 tok ?_|refine AL.loadR tok rfl rfl rfl rfl rfl rfl ?_|refine qa4 tok ?_|refine qa5 tok ?_|refine AW.block ?_|refine AW.exit ?_|refine AW.skip ?_)
    refine hK1 _ 1 (by omega) (by omega) ?_
    (refine Imp.weak (fun k => if k = 1 then 8 else k) (fun j k h1 h2 h => by by_cases e1 : j = 1 <;> by_cases e2 : k = 1 <;> simp [e1, e2] at h <;> omega) (by first|assumption|(intro b hb; cases hb)) ?_ ?_ <;> (repeat' (first|exact trivial|exact Nat.lt_of_lt_of_le (Nat.lt_succ_self _) (Nat.le_of_ble_eq_true rfl)|exact rfl|exact Or.inl ⟨rfl, rfl⟩|exact Or.inr ⟨rfl, LF.fn _ _ ‹_›⟩|refine ⟨?_, ?_⟩)))
  · rw [if_neg (by decide), if_pos (by decide)]
    repeat (first|refine AL.do tok rfl rfl ?_|refine AL.nil ?_|refine AW.seq fun K hK => ?_|refine AW.region ?_|refine AL.no rfl rfl ?_|(refine hK _ ?_; clear hK)|(clear hK; refine hK _ ?_; clear hK)|(clear hK; clear hK; refine hK _ ?_; clear hK)|refine qaW ?_|refine qa1 tok ?_|refine qa2 tok ?_|refine qa3 tok ?_|refine AL.loadR tok rfl rfl rfl rfl rfl rfl ?_|refine qa4 tok ?_|refine qa5 tok ?_|refine AW.block ?_|refine AW.exit ?_|refine AW.skip ?_)
    refine AW.condT rfl ?_
    repeat (first|refine AL.do tok rfl rfl ?_|refine AL.nil ?_|refine AW.seq fun K hK => ?_|refine AW.region ?_|refine AL.no rfl rfl ?_|(refine hK _ ?_; clear hK)|(clear hK; refine hK _ ?_; clear hK)|(clear hK; clear hK; refine hK _ ?_; clear hK)|refine qaW ?_|refine qa1 tok ?_|refine qa2 tok ?_|refine qa3 tok ?_|refine AL.loadR tok rfl rfl rfl rfl rfl rfl ?_|refine qa4 tok ?_|refine qa5 tok ?_|refine AW.block ?_|refine AW.exit ?_|refine AW.skip ?_)
    refine AL.v rfl rfl (VOp.idxF (j := 1) tok rfl rfl rfl rfl rfl (by decide)) ?_
    repeat (first|refine AL.do tok rfl rfl ?_|refine AL.nil ?_|refine AW.seq fun K hK => ?_|refine AW.region ?_|refine AL.no rfl rfl ?_|(refine hK _ ?_; clear hK)|(clear hK; refine hK _ ?_; clear hK)|(clear hK; clear hK; refine hK _ ?_; clear hK)|refine qaW ?_|refine qa1 tok ?_|refine qa2 tok ?_|refine qa3 tok ?_|refine AL.loadR tok rfl rfl rfl rfl rfl rfl ?_|refine qa4 tok ?_|refine qa5 tok ?_|refine AW.block ?_|refine AW.exit ?_|refine AW.skip ?_|refine qc1 (cA ..) ?_|refine qc2 (cA ..) ?_)
    refine AL.callNet (.loc 2) 3 (c1) rfl rfl rfl rfl rfl (by decide) rfl rfl rfl rfl rfl rfl ?_
    repeat (first|refine AL.do tok rfl rfl ?_|refine AL.nil ?_|refine AW.seq fun K hK => ?_|refine AW.region ?_|refine AL.no rfl rfl ?_|(refine hK _ ?_; clear hK)|(clear hK; refine hK _ ?_; clear hK)|(clear hK; clear hK; refine hK _ ?_; clear hK)|refine qaW ?_|refine qa1 tok ?_|refine qa2 tok ?_|refine qa3 tok ?_|refine AL.loadR tok rfl rfl rfl rfl rfl rfl ?_|refine qa4 tok ?_|refine qa5 tok ?_|refine AW.block ?_|refine AW.exit ?_|refine AW.skip ?_|refine qc1 (cB ..) ?_|refine qc2 (cB ..) ?_)
    refine AL.callNet (.loc 2) 5 (c2) rfl rfl rfl rfl rfl (by decide) rfl rfl rfl rfl rfl rfl ?_
    repeat (first|refine AL.do tok rfl rfl ?_|refine AL.nil ?_|refine AW.seq fun K hK => ?_|refine AW.region ?_|refine AL.no rfl rfl ?_|(refine hK _ ?_; clear hK)|(clear hK; refine hK _ ?_; clear hK)|(clear hK; clear hK; refine hK _ ?_; clear hK)|refine qaW ?_|refine qa1 tok ?_|refine qa2 tok ?_|refine qa3 tok ?_|refine AL.loadR tok rfl rfl rfl rfl rfl rfl ?_|refine qa4 tok ?_|refine qa5 tok ?_|refine AW.block ?_|refine AW.exit ?_|refine AW.skip ?_)
    refine AL.callNet (.loc 2) 6 (c3) rfl rfl rfl rfl rfl (by decide) rfl rfl rfl rfl rfl rfl ?_
    repeat (first|refine AL.do tok rfl rfl ?_|refine AL.nil ?_|refine AW.seq fun K hK => ?_|refine AW.region ?_|refine AL.no rfl rfl ?_|(refine hK _ ?_; clear hK)|(clear hK; refine hK _ ?_; clear hK)|(clear hK; clear hK; refine hK _ ?_; clear hK)|refine qaW ?_|refine qa1 tok ?_|refine qa2 tok ?_|refine qa3 tok ?_|refine AL.loadR tok rfl rfl rfl rfl rfl rfl ?_|refine qa4 tok ?_|refine qa5 tok ?_|refine AW.block ?_|refine AW.exit ?_|refine AW.skip ?_)
    refine AL.callNet (.loc 2) 7 (c4) rfl rfl rfl rfl rfl (by decide) rfl rfl rfl rfl rfl rfl ?_
    repeat (first|refine AL.do tok rfl rfl ?_|refine AL.nil ?_|refine AW.seq fun K hK => ?_|refine AW.region ?_|refine AL.no rfl rfl ?_|(refine hK _ ?_; clear hK)|(clear hK; refine hK _ ?_; clear hK)|(clear hK; clear hK; refine hK _ ?_; clear hK)|refine qaW ?_|refine qa1 tok ?_|refine qa2 tok ?_|refine qa3 tok ?_|refine AL.loadR tok rfl rfl rfl rfl rfl rfl ?_|refine qa4 tok ?_|refine qa5 tok ?_|refine AW.block ?_|refine AW.exit ?_|refine AW.skip ?_|refine qc1 (cB ..) ?_|refine qc2 (cB ..) ?_|refine qc1 (s1 ..) ?_|refine qc2 (s1 ..) ?_)
    refine AW.condF rfl ?_
    repeat (first|refine AL.do tok rfl rfl ?_|refine AL.nil ?_|refine AW.seq fun K hK => ?_|refine AW.region ?_|refine AL.no rfl rfl ?_|(refine hK _ ?_; clear hK)|(clear hK; refine hK _ ?_; clear hK)|(clear hK; clear hK; refine hK _ ?_; clear hK)|refine qaW ?_|refine qa1 tok ?_|refine qa2 tok ?_|refine qa3 tok ?_|refine AL.loadR tok rfl rfl rfl rfl rfl rfl ?_|refine qa4 tok ?_|refine qa5 tok ?_|refine AW.block ?_|refine AW.exit ?_|refine AW.skip ?_)
    refine hK1 _ 2 (by omega) (by omega) ?_
    (refine Imp.weak (fun k => if k = 3 then 8 else k) (fun j k h1 h2 h => by by_cases e1 : j = 3 <;> by_cases e2 : k = 3 <;> simp [e1, e2] at h <;> omega) (by first|assumption|(intro b hb; cases hb)) ?_ ?_ <;> (repeat' (first|exact trivial|exact Nat.lt_of_lt_of_le (Nat.lt_succ_self _) (Nat.le_of_ble_eq_true rfl)|exact rfl|exact Or.inl ⟨rfl, rfl⟩|exact Or.inr ⟨rfl, LF.fn _ _ ‹_›⟩|refine ⟨?_, ?_⟩)))
  · rw [if_neg (by decide), if_neg (by decide)]
    repeat (first|refine AL.do tok rfl rfl ?_|refine AL.nil ?_|refine AW.seq fun K hK => ?_|refine AW.region ?_|refine AL.no rfl rfl ?_|(refine hK _ ?_; clear hK)|(clear hK; refine hK _ ?_; clear hK)|(clear hK; clear hK; refine hK _ ?_; clear hK)|refine qaW ?_|refine qa1 tok ?_|refine qa2 tok ?_|refine qa3 tok ?_|refine AL.loadR tok rfl rfl rfl rfl rfl rfl ?_|refine qa4 tok ?_|refine qa5 tok ?_|refine AW.block ?_|refine AW.exit ?_|refine AW.skip ?_)
    refine AW.condF rfl ?_
    repeat (first|refine AL.do tok rfl rfl ?_|refine AL.nil ?_|refine AW.seq fun K hK => ?_|refine AW.region ?_|refine AL.no rfl rfl ?_|(refine hK _ ?_; clear hK)|(clear hK; refine hK _ ?_; clear hK)|(clear hK; clear hK; refine hK _ ?_; clear hK)|refine qaW ?_|refine qa1 tok ?_|refine qa2 tok ?_|refine qa3 tok ?_|refine AL.loadR tok rfl rfl rfl rfl rfl rfl ?_|refine qa4 tok ?_|refine qa5 tok ?_|refine AW.block ?_|refine AW.exit ?_|refine AW.skip ?_)
    refine AL.callNet (.loc 0) 1 (c5) rfl rfl rfl rfl rfl (by decide) rfl rfl rfl rfl rfl rfl ?_
    repeat (first|refine AL.do tok rfl rfl ?_|refine AL.nil ?_|refine AW.seq fun K hK => ?_|refine AW.region ?_|refine AL.no rfl rfl ?_|(refine hK _ ?_; clear hK)|(clear hK; refine hK _ ?_; clear hK)|(clear hK; clear hK; refine hK _ ?_; clear hK)|refine qaW ?_|refine qa1 tok ?_|refine qa2 tok ?_|refine qa3 tok ?_|refine AL.loadR tok rfl rfl rfl rfl rfl rfl ?_|refine qa4 tok ?_|refine qa5 tok ?_|refine AW.block ?_|refine AW.exit ?_|refine AW.skip ?_|refine qc1 (cA ..) ?_|refine qc2 (cA ..) ?_|refine qc1 (cB ..) ?_|refine qc2 (cB ..) ?_|refine qc1 (s2 ..) ?_|refine qc2 (s2 ..) ?_)
    refine AL.callNet (.loc 2) 3 (c6) rfl rfl rfl rfl rfl (by decide) rfl rfl rfl rfl rfl rfl ?_
    repeat (first|refine AL.do tok rfl rfl ?_|refine AL.nil ?_|refine AW.seq fun K hK => ?_|refine AW.region ?_|refine AL.no rfl rfl ?_|(refine hK _ ?_; clear hK)|(clear hK; refine hK _ ?_; clear hK)|(clear hK; clear hK; refine hK _ ?_; clear hK)|refine qaW ?_|refine qa1 tok ?_|refine qa2 tok ?_|refine qa3 tok ?_|refine AL.loadR tok rfl rfl rfl rfl rfl rfl ?_|refine qa4 tok ?_|refine qa5 tok ?_|refine AW.block ?_|refine AW.exit ?_|refine AW.skip ?_)
    refine AL.callNet (.loc 2) 7 (c7) rfl rfl rfl rfl rfl (by decide) rfl rfl rfl rfl rfl rfl ?_
    repeat (first|refine AL.do tok rfl rfl ?_|refine AL.nil ?_|refine AW.seq fun K hK => ?_|refine AW.region ?_|refine AL.no rfl rfl ?_|(refine hK _ ?_; clear hK)|(clear hK; refine hK _ ?_; clear hK)|(clear hK; clear hK; refine hK _ ?_; clear hK)|refine qaW ?_|refine qa1 tok ?_|refine qa2 tok ?_|refine qa3 tok ?_|refine AL.loadR tok rfl rfl rfl rfl rfl rfl ?_|refine qa4 tok ?_|refine qa5 tok ?_|refine AW.block ?_|refine AW.exit ?_|refine AW.skip ?_)
    refine AL.callNet (.loc 2) 8 (c8) rfl rfl rfl rfl rfl (by decide) rfl rfl rfl rfl rfl rfl ?_
    repeat (first|refine AL.do tok rfl rfl ?_|refine AL.nil ?_|refine AW.seq fun K hK => ?_|refine AW.region ?_|refine AL.no rfl rfl ?_|(refine hK _ ?_; clear hK)|(clear hK; refine hK _ ?_; clear hK)|(clear hK; clear hK; refine hK _ ?_; clear hK)|refine qaW ?_|refine qa1 tok ?_|refine qa2 tok ?_|refine qa3 tok ?_|refine AL.loadR tok rfl rfl rfl rfl rfl rfl ?_|refine qa4 tok ?_|refine qa5 tok ?_|refine AW.block ?_|refine AW.exit ?_|refine AW.skip ?_)
    refine AL.callNet (.loc 2) 9 (c9) rfl rfl rfl rfl rfl (by decide) rfl rfl rfl rfl rfl rfl ?_
    repeat (first|refine AL.do tok rfl rfl ?_|refine AL.nil ?_|refine AW.seq fun K hK => ?_|refine AW.region ?_|refine AL.no rfl rfl ?_|(refine hK _ ?_; clear hK)|(clear hK; refine hK _ ?_; clear hK)|(clear hK; clear hK; refine hK _ ?_; clear hK)|refine qaW ?_|refine qa1 tok ?_|refine qa2 tok ?_|refine qa3 tok ?_|refine AL.loadR tok rfl rfl rfl rfl rfl rfl ?_|refine qa4 tok ?_|refine qa5 tok ?_|refine AW.block ?_|refine AW.exit ?_|refine AW.skip ?_)
    refine AW.condF rfl ?_
    repeat (first|refine AL.do tok rfl rfl ?_|refine AL.nil ?_|refine AW.seq fun K hK => ?_|refine AW.region ?_|refine AL.no rfl rfl ?_|(refine hK _ ?_; clear hK)|(clear hK; refine hK _ ?_; clear hK)|(clear hK; clear hK; refine hK _ ?_; clear hK)|refine qaW ?_|refine qa1 tok ?_|refine qa2 tok ?_|refine qa3 tok ?_|refine AL.loadR tok rfl rfl rfl rfl rfl rfl ?_|refine qa4 tok ?_|refine qa5 tok ?_|refine AW.block ?_|refine AW.exit ?_|refine AW.skip ?_)
    refine AL.nilA 91 rfl rfl ?_
    repeat (first|refine AL.do tok rfl rfl ?_|refine AL.nil ?_|refine AW.seq fun K hK => ?_|refine AW.region ?_|refine AL.no rfl rfl ?_|(refine hK _ ?_; clear hK)|(clear hK; refine hK _ ?_; clear hK)|(clear hK; clear hK; refine hK _ ?_; clear hK)|refine qaW ?_|refine qa1 tok ?_|refine qa2 tok ?_|refine qa3 tok ?_|refine AL.loadR tok rfl rfl rfl rfl rfl rfl ?_|refine qa4 tok ?_|refine qa5 tok ?_|refine AW.block ?_|refine AW.exit ?_|refine AW.skip ?_)
    refine AL.callNet (.loc 0) 5 (c10) rfl rfl rfl rfl rfl (by decide) rfl rfl rfl rfl rfl rfl ?_
    repeat (first|refine AL.do tok rfl rfl ?_|refine AL.nil ?_|refine AW.seq fun K hK => ?_|refine AW.region ?_|refine AL.no rfl rfl ?_|(refine hK _ ?_; clear hK)|(clear hK; refine hK _ ?_; clear hK)|(clear hK; clear hK; refine hK _ ?_; clear hK)|refine qaW ?_|refine qa1 tok ?_|refine qa2 tok ?_|refine qa3 tok ?_|refine AL.loadR tok rfl rfl rfl rfl rfl rfl ?_|refine qa4 tok ?_|refine qa5 tok ?_|refine AW.block ?_|refine AW.exit ?_|refine AW.skip ?_)
    refine AL.nilA 97 rfl rfl ?_
    repeat (first|refine AL.do tok rfl rfl ?_|refine AL.nil ?_|refine AW.seq fun K hK => ?_|refine AW.region ?_|refine AL.no rfl rfl ?_|(refine hK _ ?_; clear hK)|(clear hK; refine hK _ ?_; clear hK)|(clear hK; clear hK; refine hK _ ?_; clear hK)|refine qaW ?_|refine qa1 tok ?_|refine qa2 tok ?_|refine qa3 tok ?_|refine AL.loadR tok rfl rfl rfl rfl rfl rfl ?_|refine qa4 tok ?_|refine qa5 tok ?_|refine AW.block ?_|refine AW.exit ?_|refine AW.skip ?_)
    refine AL.callNet (.loc 0) 11 (c11) rfl rfl rfl rfl rfl (by decide) rfl rfl rfl rfl rfl rfl ?_
    repeat (first|refine AL.do tok rfl rfl ?_|refine AL.nil ?_|refine AW.seq fun K hK => ?_|refine AW.region ?_|refine AL.no rfl rfl ?_|(refine hK _ ?_; clear hK)|(clear hK; refine hK _ ?_; clear hK)|(clear hK; clear hK; refine hK _ ?_; clear hK)|refine qaW ?_|refine qa1 tok ?_|refine qa2 tok ?_|refine qa3 tok ?_|refine AL.loadR tok rfl rfl rfl rfl rfl rfl ?_|refine qa4 tok ?_|refine qa5 tok ?_|refine AW.block ?_|refine AW.exit ?_|refine AW.skip ?_)
    refine AL.callNet (.loc 0) 12 (c12) rfl rfl rfl rfl rfl (by decide) rfl rfl rfl rfl rfl rfl ?_
    repeat (first|refine AL.do tok rfl rfl ?_|refine AL.nil ?_|refine AW.seq fun K hK => ?_|refine AW.region ?_|refine AL.no rfl rfl ?_|(refine hK _ ?_; clear hK)|(clear hK; refine hK _ ?_; clear hK)|(clear hK; clear hK; refine hK _ ?_; clear hK)|refine qaW ?_|refine qa1 tok ?_|refine qa2 tok ?_|refine qa3 tok ?_|refine AL.loadR tok rfl rfl rfl rfl rfl rfl ?_|refine qa4 tok ?_|refine qa5 tok ?_|refine AW.block ?_|refine AW.exit ?_|refine AW.skip ?_)
    refine AL.callNet (.loc 0) 13 (c13) rfl rfl rfl rfl rfl (by decide) rfl rfl rfl rfl rfl rfl ?_
    repeat (first|refine AL.do tok rfl rfl ?_|refine AL.nil ?_|refine AW.seq fun K hK => ?_|refine AW.region ?_|refine AL.no rfl rfl ?_|(refine hK _ ?_; clear hK)|(clear hK; refine hK _ ?_; clear hK)|(clear hK; clear hK; refine hK _ ?_; clear hK)|refine qaW ?_|refine qa1 tok ?_|refine qa2 tok ?_|refine qa3 tok ?_|refine AL.loadR tok rfl rfl rfl rfl rfl rfl ?_|refine qa4 tok ?_|refine qa5 tok ?_|refine AW.block ?_|refine AW.exit ?_|refine AW.skip ?_)
    refine AW.ret ?_
    refine ⟨_, _, _, _, rfl, Out.pure rfl ⟨?_, rfl⟩ rfl⟩
    rfl
end Go.Proofs.Try
