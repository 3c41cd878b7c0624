/- links: the law LinksOrder: the walk. -/
import Derived.Test.YtefhpcaopchhgaaLnkZA
import Derived.Test.YtefhpcaopchhgaaAMD
import Derived.Test.YtefhpcaopchhgaaAM73
import Derived.Test.YtefhpcaopchhgaaWk
set_option linter.unusedSimpArgs false
set_option linter.unusedVariables false
namespace Go.Proofs.Try
open Go Go.AM

abbrev encZ (z : Int) : List D := [.one (.int .u8 z)]
/-- Ahead of round i. -/
abbrev stW (nn : Int) (l : List Dg) (i : Nat) (want : List Dg) (vs : List (Value × List Nat)) : St := ⟨135, [(32, i64 i), (31, i64 l.length), (30, rowDg l), (0, i64 nn), (5, .ptr (.loc 0) 0), (7, .own (.loc 2)), (8, .own (.loc 3))], [(0, some (netB (netW nn want) (.own (.loc 1)))), (1, some (wayR (netW nn want)).blk), (2, some (.row 31 3 (want.map encDg))), (3, some (.row 29 1 (vs.map encV)))], [], 4⟩
/-- Ahead of round k of the changes. -/
abbrev stG (nn : Int) (want : List Dg) (vs : List (Value × List Nat)) (k : Nat) : St := ⟨135, [(93, i64 k), (92, i64 vs.length), (91, .own (.loc 3)), (5, .ptr (.loc 0) 0), (7, .own (.loc 2))], [(0, some (netB (netW nn want) (.own (.loc 1)))), (1, some (wayR (netW nn want)).blk), (2, some (.row 31 3 (want.map encDg))), (3, some (.row 29 1 (vs.map encV)))], [], 4⟩
set_option maxHeartbeats 64000000 in
set_option maxRecDepth 10000 in
theorem linksOrder_law (x0 x1 : AV) (h0 : AT ts 3 x0) (h1 : AT ts 22 x1) : ACallP Try.prog 3 [x0, x1] (bo true) := by
  obtain ⟨nn, rfl, _⟩ := at_int h0
  obtain ⟨l, rfl, hl⟩ := at_Dgs h1
  have ke := example_calls
  have hlm : (l.map encDg).length = l.length := List.length_map ..
  by_cases hnn : 1 ≤ nn ∧ nn ≤ 7
  rotate_left
  · have kb := newBad_calls nn (by omega)
    refine ACalls.body tok Try.func3 rfl (by kernel_rfl) (by rw [Try.ntmps3]; simp) ?_
    simp only [Try.ntmps3, Try.results3, argT]
    repeat (first|refine AL.do tok rfl rfl ?_|refine AL.nil ?_|refine AW.seq fun K hK => ?_|refine AW.region ?_|refine AL.no rfl rfl ?_|(refine hK _ ?_; clear hK)|(clear hK; refine hK _ ?_; clear hK)|(clear hK; clear hK; refine hK _ ?_; clear hK)|refine qaW ?_|refine qa1 tok ?_|refine qa2 tok ?_|refine qa3 tok ?_|refine AL.loadR tok rfl rfl rfl rfl rfl rfl ?_|refine qa4 tok ?_|refine qa5 tok ?_|refine AW.block ?_|refine AW.exit ?_|refine AW.skip ?_|refine qc1 (kb ..) ?_|refine qc2 (kb ..) ?_)
    refine AW.condT rfl ?_
    repeat (first|refine AL.do tok rfl rfl ?_|refine AL.nil ?_|refine AW.seq fun K hK => ?_|refine AW.region ?_|refine AL.no rfl rfl ?_|(refine hK _ ?_; clear hK)|(clear hK; refine hK _ ?_; clear hK)|(clear hK; clear hK; refine hK _ ?_; clear hK)|refine qaW ?_|refine qa1 tok ?_|refine qa2 tok ?_|refine qa3 tok ?_|refine AL.loadR tok rfl rfl rfl rfl rfl rfl ?_|refine qa4 tok ?_|refine qa5 tok ?_|refine AW.block ?_|refine AW.exit ?_|refine AW.skip ?_|refine qc1 (ke ..) ?_|refine qc2 (ke ..) ?_)
    refine AW.ret ?_
    refine ⟨_, _, _, _, rfl, Out.pure rfl ⟨?_, rfl⟩ rfl⟩
    rfl
  refine ACalls.body tok Try.func3 rfl (by kernel_rfl) (by rw [Try.ntmps3]; simp) ?_
  simp only [Try.ntmps3, Try.results3, argT]
  repeat (first|refine AL.do tok rfl rfl ?_|refine AL.nil ?_|refine AW.seq fun K hK => ?_|refine AW.region ?_|refine AL.no rfl rfl ?_|(refine hK _ ?_; clear hK)|(clear hK; refine hK _ ?_; clear hK)|(clear hK; clear hK; refine hK _ ?_; clear hK)|refine qaW ?_|refine qa1 tok ?_|refine qa2 tok ?_|refine qa3 tok ?_|refine AL.loadR tok rfl rfl rfl rfl rfl rfl ?_|refine qa4 tok ?_|refine qa5 tok ?_|refine AW.block ?_|refine AW.exit ?_|refine AW.skip ?_)
  refine AL.callNew new_callable (new_raw nn hnn) (zall_net nn) rfl rfl rfl rfl ?_
  refine AL.nilOwnB 0 50 76 4 rfl rfl (net_wset rfl) ?_
  repeat (first|refine AL.do tok rfl rfl ?_|refine AL.nil ?_|refine AW.seq fun K hK => ?_|refine AW.region ?_|refine AL.no rfl rfl ?_|(refine hK _ ?_; clear hK)|(clear hK; refine hK _ ?_; clear hK)|(clear hK; clear hK; refine hK _ ?_; clear hK)|refine qaW ?_|refine qa1 tok ?_|refine qa2 tok ?_|refine qa3 tok ?_|refine AL.loadR tok rfl rfl rfl rfl rfl rfl ?_|refine qa4 tok ?_|refine qa5 tok ?_|refine AW.block ?_|refine AW.exit ?_|refine AW.skip ?_)
  refine AW.cond rfl (fun hg => ?_) (fun hg => ?_)
  · repeat (first|refine AL.do tok rfl rfl ?_|refine AL.nil ?_|refine AW.seq fun K hK => ?_|refine AW.region ?_|refine AL.no rfl rfl ?_|(refine hK _ ?_; clear hK)|(clear hK; refine hK _ ?_; clear hK)|(clear hK; clear hK; refine hK _ ?_; clear hK)|refine qaW ?_|refine qa1 tok ?_|refine qa2 tok ?_|refine qa3 tok ?_|refine AL.loadR tok rfl rfl rfl rfl rfl rfl ?_|refine qa4 tok ?_|refine qa5 tok ?_|refine AW.block ?_|refine AW.exit ?_|refine AW.skip ?_|refine qc1 (ke ..) ?_|refine qc2 (ke ..) ?_)
    refine AW.ret ?_
    refine ⟨_, _, _, _, rfl, Out.pure rfl ⟨?_, rfl⟩ rfl⟩
    rfl
  simp only [hlm, decide_eq_false_iff_not] at hg
  repeat (first|refine AL.do tok rfl rfl ?_|refine AL.nil ?_|refine AW.seq fun K hK => ?_|refine AW.region ?_|refine AL.no rfl rfl ?_|(refine hK _ ?_; clear hK)|(clear hK; refine hK _ ?_; clear hK)|(clear hK; clear hK; refine hK _ ?_; clear hK)|refine qaW ?_|refine qa1 tok ?_|refine qa2 tok ?_|refine qa3 tok ?_|refine AL.loadR tok rfl rfl rfl rfl rfl rfl ?_|refine qa4 tok ?_|refine qa5 tok ?_|refine AW.block ?_|refine AW.exit ?_|refine AW.skip ?_)
  refine AL.v rfl rfl VOp.ptrNil ?_
  repeat (first|refine AL.do tok rfl rfl ?_|refine AL.nil ?_|refine AW.seq fun K hK => ?_|refine AW.region ?_|refine AL.no rfl rfl ?_|(refine hK _ ?_; clear hK)|(clear hK; refine hK _ ?_; clear hK)|(clear hK; clear hK; refine hK _ ?_; clear hK)|refine qaW ?_|refine qa1 tok ?_|refine qa2 tok ?_|refine qa3 tok ?_|refine AL.loadR tok rfl rfl rfl rfl rfl rfl ?_|refine qa4 tok ?_|refine qa5 tok ?_|refine AW.block ?_|refine AW.exit ?_|refine AW.skip ?_)
  refine AW.condF rfl ?_
  refine AW.skip ?_
  refine hK _ ?_
  clear hK
  refine AW.seq fun K hK => ?_
  repeat (first|refine AL.do tok rfl rfl ?_|refine AL.nil ?_|refine AW.region ?_)
  refine hK _ ?_
  clear hK
  refine AW.seq fun K hK => ?_
  repeat (first|refine AL.do tok rfl rfl ?_|refine AL.nil ?_|refine AW.region ?_)
  refine hK _ ?_
  clear hK
  refine AW.nilOwn 7 31 3 rfl ?_
  refine AW.nilOwn 8 29 1 rfl ?_
  refine AWS.start ?_
  refine AWS.seq fun K1 hK1 => ?_
  refine AWS.seq fun K2 hK2 => ?_
  refine AWS.ofS fun K hK => ?_
  repeat (first|refine AL.do tok rfl rfl ?_|refine AL.nil ?_|refine AW.seq fun K hK => ?_|refine AW.region ?_|refine AL.no rfl rfl ?_|(refine hK _ ?_; clear hK)|(clear hK; refine hK _ ?_; clear hK)|(clear hK; clear hK; refine hK _ ?_; clear hK)|refine qaW ?_|refine qa1 tok ?_|refine qa2 tok ?_|refine qa3 tok ?_|refine AL.loadR tok rfl rfl rfl rfl rfl rfl ?_|refine qa4 tok ?_|refine qa5 tok ?_|refine AW.block ?_|refine AW.exit ?_|refine AW.skip ?_)
  refine hK2 _ _ ?_
  simp only [hlm]
  refine AWS.block ?_
  refine AWS.loop (ι := Nat × List Dg × List (Value × List Nat)) (fun s => stW nn l s.1 s.2.1 s.2.2) (fun s => s.2.2.map sdB) (fun s => s.1 ≤ l.length ∧ s.2.1.length ≤ s.1 ∧ s.2.2.length ≤ s.1 ∧ ∀ p ∈ s.2.2, p.2.length ≤ 100) (fun s => l.length - s.1) (0, [], [])
    ⟨Nat.zero_le _, Nat.le_refl _, Nat.le_refl _, fun p hp => by cases hp⟩ (ImpS.of ?_) ?_
  · (refine Imp.weakP id (fun _ _ _ _ h => h) (by first|(simp only [List.map_cons, List.map_nil, net_rn]; done)|(simp only [List.map_cons, List.map_nil, net_rn]; rfl)) (by first|exact (rfl : List.all [] _ = true)|(simp only [List.all_cons, List.all_nil, Bool.and_true]; exact net_lt _ _ _ (by decide))|(rw [List.all_cons, net_lt _ _ _ (by decide)]; rfl)) ?_ ?_ <;> (repeat' (first|exact trivial|exact net_lt _ _ _ (by decide)|(rw [net_rn]; rfl)|exact Nat.lt_of_lt_of_le (Nat.lt_succ_self _) (Nat.le_of_ble_eq_true rfl)|exact rfl|exact Or.inl ⟨rfl, rfl⟩|exact Or.inr ⟨rfl, LF.fn _ _ ‹_›⟩|refine ⟨?_, ?_⟩)))
  rintro ⟨i, want, vs⟩ ⟨hi, hw, hv, hb⟩ K3 hK3
  dsimp only at hi hw hv hb ⊢
  have hwm : (want.map encDg).length = want.length := List.length_map ..
  have hvm : (vs.map encV).length = vs.length := List.length_map ..
  refine AWS.ofS fun K4 hK4 => ?_
  by_cases hlt : i < l.length
  rotate_left
  · obtain rfl : i = l.length := by omega
    repeat (first|refine AL.do tok rfl rfl ?_|refine AL.nil ?_|refine AW.seq fun K hK => ?_|refine AW.region ?_|refine AL.no rfl rfl ?_|(refine hK _ ?_; clear hK)|(clear hK; refine hK _ ?_; clear hK)|(clear hK; clear hK; refine hK _ ?_; clear hK)|refine qaW ?_|refine qa1 tok ?_|refine qa2 tok ?_|refine qa3 tok ?_|refine AL.loadR tok rfl rfl rfl rfl rfl rfl ?_|refine qa4 tok ?_|refine qa5 tok ?_|refine AW.block ?_|refine AW.exit ?_|refine AW.skip ?_)
    refine AW.cond rfl (fun hg => by simp at hg) (fun hg => ?_)
    refine AW.exit ?_
    refine hK1 _ _ ?_
    refine AWS.seq fun K5 hK5 => ?_
    refine AWS.seq fun K6 hK6 => ?_
    refine AWS.ofS fun K hK => ?_
    repeat (first|refine AL.do tok rfl rfl ?_|refine AL.nil ?_|refine AW.seq fun K hK => ?_|refine AW.region ?_|refine AL.no rfl rfl ?_|(refine hK _ ?_; clear hK)|(clear hK; refine hK _ ?_; clear hK)|(clear hK; clear hK; refine hK _ ?_; clear hK)|refine qaW ?_|refine qa1 tok ?_|refine qa2 tok ?_|refine qa3 tok ?_|refine AL.loadR tok rfl rfl rfl rfl rfl rfl ?_|refine qa4 tok ?_|refine qa5 tok ?_|refine AW.block ?_|refine AW.exit ?_|refine AW.skip ?_)
    refine hK6 _ _ ?_
    simp only [hvm]
    refine AWS.block ?_
    refine AWS.loop (ι := Nat) (fun k => stG nn want vs k) (fun k => (vs.drop k).map sdB) (fun k => k ≤ vs.length) (fun k => vs.length - k) 0 (Nat.zero_le _) (ImpS.of ?_) ?_
    · (refine Imp.weakP id (fun _ _ _ _ h => h) (by first|(simp only [List.map_cons, List.map_nil, net_rn]; done)|(simp only [List.map_cons, List.map_nil, net_rn]; rfl)) (by first|exact (rfl : List.all [] _ = true)|(simp only [List.all_cons, List.all_nil, Bool.and_true]; exact net_lt _ _ _ (by decide))|(rw [List.all_cons, net_lt _ _ _ (by decide)]; rfl)) ?_ ?_ <;> (repeat' (first|exact trivial|exact net_lt _ _ _ (by decide)|(rw [net_rn]; rfl)|exact Nat.lt_of_lt_of_le (Nat.lt_succ_self _) (Nat.le_of_ble_eq_true rfl)|exact rfl|exact Or.inl ⟨rfl, rfl⟩|exact Or.inr ⟨rfl, LF.fn _ _ ‹_›⟩|refine ⟨?_, ?_⟩)))
    rintro k hk K7 hK7
    by_cases hlk : k < vs.length
    rotate_left
    · obtain rfl : k = vs.length := by omega
      refine AWS.ofS fun K8 hK8 => ?_
      repeat (first|refine AL.do tok rfl rfl ?_|refine AL.nil ?_|refine AW.seq fun K hK => ?_|refine AW.region ?_|refine AL.no rfl rfl ?_|(refine hK _ ?_; clear hK)|(clear hK; refine hK _ ?_; clear hK)|(clear hK; clear hK; refine hK _ ?_; clear hK)|refine qaW ?_|refine qa1 tok ?_|refine qa2 tok ?_|refine qa3 tok ?_|refine AL.loadR tok rfl rfl rfl rfl rfl rfl ?_|refine qa4 tok ?_|refine qa5 tok ?_|refine AW.block ?_|refine AW.exit ?_|refine AW.skip ?_)
      refine AW.cond rfl (fun hg => by simp at hg) (fun hg => ?_)
      refine AW.exit ?_
      refine hK5 _ _ ?_
      refine AWS.of ?_
      obtain ⟨e1, e2⟩ := order_arr want
      have k1 := waiting_calls (netW nn want) rfl
      have k2 := step_calls (netW nn want) rfl ⟨by show (want.map _).length ≤ _; rw [List.length_map]; omega, fun x hx => by obtain ⟨d, _, rfl⟩ := List.mem_map.1 hx; exact ⟨by show (1 : Int) ≤ 1; decide, by show (1 : Int) ≤ 4000000000000; decide⟩⟩
      have k3 := waiting_calls (netW nn []) rfl
      have k4 := step_calls (netW nn []) rfl ⟨by show 0 ≤ 100000; decide, fun x hx => by cases hx⟩
      have ks := same_calls want
      have e3 : arrS (netW nn want).way = want := e1
      have e4 : stepS (netW nn want) = netW nn [] := by show setW (netW nn want) (leftS _) = _; rw [e2]; rfl
      have e5 : (netW nn want).way.length = want.length := List.length_map ..
      rw [e3, e4] at k2
      rw [e5] at k1
      repeat (first|refine AL.do tok rfl rfl ?_|refine AL.nil ?_|refine AW.seq fun K hK => ?_|refine AW.region ?_|refine AL.no rfl rfl ?_|(refine hK _ ?_; clear hK)|(clear hK; refine hK _ ?_; clear hK)|(clear hK; clear hK; refine hK _ ?_; clear hK)|refine qaW ?_|refine qa1 tok ?_|refine qa2 tok ?_|refine qa3 tok ?_|refine AL.loadR tok rfl rfl rfl rfl rfl rfl ?_|refine qa4 tok ?_|refine qa5 tok ?_|refine AW.block ?_|refine AW.exit ?_|refine AW.skip ?_)
      have e6 : stepS (netW nn []) = netW nn [] := rfl
      have e7 : arrS (netW nn []).way = [] := rfl
      rw [e6, e7] at k4
      refine AL.callNet (.loc 0) 1 (k1) rfl rfl rfl rfl rfl (by decide) rfl rfl rfl rfl rfl rfl ?_
      repeat (first|refine AL.do tok rfl rfl ?_|refine AL.nil ?_|refine AW.seq fun K hK => ?_|refine AW.region ?_|refine AL.no rfl rfl ?_|(refine hK _ ?_; clear hK)|(clear hK; refine hK _ ?_; clear hK)|(clear hK; clear hK; refine hK _ ?_; clear hK)|refine qaW ?_|refine qa1 tok ?_|refine qa2 tok ?_|refine qa3 tok ?_|refine AL.loadR tok rfl rfl rfl rfl rfl rfl ?_|refine qa4 tok ?_|refine qa5 tok ?_|refine AW.block ?_|refine AW.exit ?_|refine AW.skip ?_)
      simp only [hwm, decide_true]
      repeat (first|refine AL.do tok rfl rfl ?_|refine AL.nil ?_|refine AW.seq fun K hK => ?_|refine AW.region ?_|refine AL.no rfl rfl ?_|(refine hK _ ?_; clear hK)|(clear hK; refine hK _ ?_; clear hK)|(clear hK; clear hK; refine hK _ ?_; clear hK)|refine qaW ?_|refine qa1 tok ?_|refine qa2 tok ?_|refine qa3 tok ?_|refine AL.loadR tok rfl rfl rfl rfl rfl rfl ?_|refine qa4 tok ?_|refine qa5 tok ?_|refine AW.block ?_|refine AW.exit ?_|refine AW.skip ?_)
      refine AL.callNet (.loc 0) 4 (k2) rfl rfl rfl rfl rfl (by decide) rfl rfl rfl rfl rfl rfl ?_
      repeat (first|refine AL.do tok rfl rfl ?_|refine AL.nil ?_|refine AW.seq fun K hK => ?_|refine AW.region ?_|refine AL.no rfl rfl ?_|(refine hK _ ?_; clear hK)|(clear hK; refine hK _ ?_; clear hK)|(clear hK; clear hK; refine hK _ ?_; clear hK)|refine qaW ?_|refine qa1 tok ?_|refine qa2 tok ?_|refine qa3 tok ?_|refine AL.loadR tok rfl rfl rfl rfl rfl rfl ?_|refine qa4 tok ?_|refine qa5 tok ?_|refine AW.block ?_|refine AW.exit ?_|refine AW.skip ?_|refine qc1 (ks ..) ?_|refine qc2 (ks ..) ?_)
      refine AL.callNet (.loc 0) 5 (k3) rfl rfl rfl rfl rfl (by decide) rfl rfl rfl rfl rfl rfl ?_
      repeat (first|refine AL.do tok rfl rfl ?_|refine AL.nil ?_|refine AW.seq fun K hK => ?_|refine AW.region ?_|refine AL.no rfl rfl ?_|(refine hK _ ?_; clear hK)|(clear hK; refine hK _ ?_; clear hK)|(clear hK; clear hK; refine hK _ ?_; clear hK)|refine qaW ?_|refine qa1 tok ?_|refine qa2 tok ?_|refine qa3 tok ?_|refine AL.loadR tok rfl rfl rfl rfl rfl rfl ?_|refine qa4 tok ?_|refine qa5 tok ?_|refine AW.block ?_|refine AW.exit ?_|refine AW.skip ?_)
      refine AL.callNet (.loc 0) 6 (k4) rfl rfl rfl rfl rfl (by decide) rfl rfl rfl rfl rfl rfl ?_
      repeat (first|refine AL.do tok rfl rfl ?_|refine AL.nil ?_|refine AW.seq fun K hK => ?_|refine AW.region ?_|refine AL.no rfl rfl ?_|(refine hK _ ?_; clear hK)|(clear hK; refine hK _ ?_; clear hK)|(clear hK; clear hK; refine hK _ ?_; clear hK)|refine qaW ?_|refine qa1 tok ?_|refine qa2 tok ?_|refine qa3 tok ?_|refine AL.loadR tok rfl rfl rfl rfl rfl rfl ?_|refine qa4 tok ?_|refine qa5 tok ?_|refine AW.block ?_|refine AW.exit ?_|refine AW.skip ?_|refine qc1 (ke ..) ?_|refine qc2 (ke ..) ?_)
      refine AW.ret ?_
      refine ⟨_, _, _, _, rfl, Out.pure rfl ⟨?_, rfl⟩ rfl⟩
      rfl
    have hdr : (vs.drop k).map sdB = sdB vs[k] :: (vs.drop (k + 1)).map sdB := by rw [List.drop_eq_getElem_cons hlk]; rfl
    rw [hdr]
    refine AWS.imp (ImpS.attach _) ?_
    refine AWS.ofS fun K8 hK8 => ?_
    have hbl := hb _ (List.getElem_mem hlk)
    repeat (first|refine AL.do tok rfl rfl ?_|refine AL.nil ?_|refine AW.seq fun K hK => ?_|refine AW.region ?_|refine AL.no rfl rfl ?_|(refine hK _ ?_; clear hK)|(clear hK; refine hK _ ?_; clear hK)|(clear hK; clear hK; refine hK _ ?_; clear hK)|refine qaW ?_|refine qa1 tok ?_|refine qa2 tok ?_|refine qa3 tok ?_|refine AL.loadR tok rfl rfl rfl rfl rfl rfl ?_|refine qa4 tok ?_|refine qa5 tok ?_|refine AW.block ?_|refine AW.exit ?_|refine AW.skip ?_)
    refine AW.cond rfl (fun hg => ?_) (fun hg => by simp at hg; omega)
    repeat (first|refine AL.do tok rfl rfl ?_|refine AL.nil ?_|refine AW.seq fun K hK => ?_|refine AW.region ?_|refine AL.no rfl rfl ?_|(refine hK _ ?_; clear hK)|(clear hK; refine hK _ ?_; clear hK)|(clear hK; clear hK; refine hK _ ?_; clear hK)|refine qaW ?_|refine qa1 tok ?_|refine qa2 tok ?_|refine qa3 tok ?_|refine AL.loadR tok rfl rfl rfl rfl rfl rfl ?_|refine qa4 tok ?_|refine qa5 tok ?_|refine AW.block ?_|refine AW.exit ?_|refine AW.skip ?_)
    refine AL.alias 13 4 rfl rfl ?_
    refine AL.alias 97 4 rfl rfl ?_
    refine AL.unname 4 rfl ?_
    have hbm : (vs[k].2.map encU).length = vs[k].2.length := List.length_map ..
    repeat (first|refine AL.do tok rfl rfl ?_|refine AL.nil ?_|refine AW.seq fun K hK => ?_|refine AW.region ?_|refine AL.no rfl rfl ?_|(refine hK _ ?_; clear hK)|(clear hK; refine hK _ ?_; clear hK)|(clear hK; clear hK; refine hK _ ?_; clear hK)|refine qaW ?_|refine qa1 tok ?_|refine qa2 tok ?_|refine qa3 tok ?_|refine AL.loadR tok rfl rfl rfl rfl rfl rfl ?_|refine qa4 tok ?_|refine qa5 tok ?_|refine AW.block ?_|refine AW.exit ?_|refine AW.skip ?_)
    simp only [hbm]
    refine AW.loop (ι := Nat × List Int) (fun s => ⟨135, [(99, i64 s.1), (98, i64 vs[k].2.length), (13, .own (.loc 4)), (93, i64 k), (92, i64 vs.length), (91, .own (.loc 3)), (5, .ptr (.loc 0) 0), (7, .own (.loc 2))], [(4, some (.row 5 1 (s.2.map encZ))), (0, some (netB (netW nn want) (.own (.loc 1)))), (1, some (wayR (netW nn want)).blk), (2, some (.row 31 3 (want.map encDg))), (3, some (.row 29 1 (vs.map encV)))], [], 5⟩)
      (fun s => s.1 ≤ vs[k].2.length ∧ s.2.length = vs[k].2.length) (fun s => vs[k].2.length - s.1) (0, vs[k].2.map fun b : Nat => (b : Int)) ⟨Nat.zero_le _, List.length_map ..⟩ ?_ ?_
    · rw [show vs[k].2.map encU = (vs[k].2.map fun b : Nat => (b : Int)).map encZ by rw [List.map_map]; rfl]
      (refine Imp.weakP id (fun _ _ _ _ h => h) (by first|(simp only [List.map_cons, List.map_nil, net_rn]; done)|(simp only [List.map_cons, List.map_nil, net_rn]; rfl)) (by first|exact (rfl : List.all [] _ = true)|(simp only [List.all_cons, List.all_nil, Bool.and_true]; exact net_lt _ _ _ (by decide))|(rw [List.all_cons, net_lt _ _ _ (by decide)]; rfl)) ?_ ?_ <;> (repeat' (first|exact trivial|exact net_lt _ _ _ (by decide)|(rw [net_rn]; rfl)|exact Nat.lt_of_lt_of_le (Nat.lt_succ_self _) (Nat.le_of_ble_eq_true rfl)|exact rfl|exact Or.inl ⟨rfl, rfl⟩|exact Or.inr ⟨rfl, LF.fn _ _ ‹_›⟩|refine ⟨?_, ?_⟩)))
    rintro ⟨j, zs⟩ ⟨hj, hz⟩ K9 hK9
    dsimp only at hj hz ⊢
    have hzm : (zs.map encZ).length = zs.length := List.length_map ..
    by_cases hjl : j < vs[k].2.length
    · have hjz : j < zs.length := by omega
      repeat (first|refine AL.do tok rfl rfl ?_|refine AL.nil ?_|refine AW.seq fun K hK => ?_|refine AW.region ?_|refine AL.no rfl rfl ?_|(refine hK _ ?_; clear hK)|(clear hK; refine hK _ ?_; clear hK)|(clear hK; clear hK; refine hK _ ?_; clear hK)|refine qaW ?_|refine qa1 tok ?_|refine qa2 tok ?_|refine qa3 tok ?_|refine AL.loadR tok rfl rfl rfl rfl rfl rfl ?_|refine qa4 tok ?_|refine qa5 tok ?_|refine AW.block ?_|refine AW.exit ?_|refine AW.skip ?_)
      refine AW.cond rfl (fun hg3 => ?_) (fun hg3 => by simp at hg3; omega)
      repeat (first|refine AL.do tok rfl rfl ?_|refine AL.nil ?_|refine AW.seq fun K hK => ?_|refine AW.region ?_|refine AL.no rfl rfl ?_|(refine hK _ ?_; clear hK)|(clear hK; refine hK _ ?_; clear hK)|(clear hK; clear hK; refine hK _ ?_; clear hK)|refine qaW ?_|refine qa1 tok ?_|refine qa2 tok ?_|refine qa3 tok ?_|refine AL.loadR tok rfl rfl rfl rfl rfl rfl ?_|refine qa4 tok ?_|refine qa5 tok ?_|refine AW.block ?_|refine AW.exit ?_|refine AW.skip ?_)
      refine AL.v rfl rfl (VOp.xor rfl rfl rfl) ?_
      repeat (first|refine AL.do tok rfl rfl ?_|refine AL.nil ?_|refine AW.seq fun K hK => ?_|refine AW.region ?_|refine AL.no rfl rfl ?_|(refine hK _ ?_; clear hK)|(clear hK; refine hK _ ?_; clear hK)|(clear hK; clear hK; refine hK _ ?_; clear hK)|refine qaW ?_|refine qa1 tok ?_|refine qa2 tok ?_|refine qa3 tok ?_|refine AL.loadR tok rfl rfl rfl rfl rfl rfl ?_|refine qa4 tok ?_|refine qa5 tok ?_|refine AW.block ?_|refine AW.exit ?_|refine AW.skip ?_)
      refine AL.storeRM tok (IntKind.u8.wrap ((BitVec.ofInt IntKind.u8.bits zs[j] ^^^ BitVec.ofInt IntKind.u8.bits 85).toNat : Int)) rfl rfl rfl (by first | omega | (simp; omega) | decide) rfl rfl rfl rfl (Nat.le_of_ble_eq_true rfl) rfl ?_
      repeat (first|refine AL.do tok rfl rfl ?_|refine AL.nil ?_|refine AW.seq fun K hK => ?_|refine AW.region ?_|refine AL.no rfl rfl ?_|(refine hK _ ?_; clear hK)|(clear hK; refine hK _ ?_; clear hK)|(clear hK; clear hK; refine hK _ ?_; clear hK)|refine qaW ?_|refine qa1 tok ?_|refine qa2 tok ?_|refine qa3 tok ?_|refine AL.loadR tok rfl rfl rfl rfl rfl rfl ?_|refine qa4 tok ?_|refine qa5 tok ?_|refine AW.block ?_|refine AW.exit ?_|refine AW.skip ?_)
      refine hK9 _ (j + 1, zs.set j (IntKind.u8.wrap ((BitVec.ofInt IntKind.u8.bits zs[j] ^^^ BitVec.ofInt IntKind.u8.bits 85).toNat : Int))) ⟨by show j + 1 ≤ _; omega, by simp; omega⟩ (by show _ - (j + 1) < _ - j; omega) ?_
      (refine Imp.weakP id (fun _ _ _ _ h => h) (by first|(simp only [List.map_cons, List.map_nil, net_rn]; done)|(simp only [List.map_cons, List.map_nil, net_rn]; rfl)) (by first|exact (rfl : List.all [] _ = true)|(simp only [List.all_cons, List.all_nil, Bool.and_true]; exact net_lt _ _ _ (by decide))|(rw [List.all_cons, net_lt _ _ _ (by decide)]; rfl)) ?_ ?_ <;> (repeat' (first|exact trivial|exact net_lt _ _ _ (by decide)|(rw [net_rn]; rfl)|exact Nat.lt_of_lt_of_le (Nat.lt_succ_self _) (Nat.le_of_ble_eq_true rfl)|exact rfl|exact Or.inl ⟨rfl, rfl⟩|exact Or.inr ⟨rfl, LF.fn _ _ ‹_›⟩|refine ⟨?_, ?_⟩)))
    · obtain rfl : j = vs[k].2.length := by omega
      repeat (first|refine AL.do tok rfl rfl ?_|refine AL.nil ?_|refine AW.seq fun K hK => ?_|refine AW.region ?_|refine AL.no rfl rfl ?_|(refine hK _ ?_; clear hK)|(clear hK; refine hK _ ?_; clear hK)|(clear hK; clear hK; refine hK _ ?_; clear hK)|refine qaW ?_|refine qa1 tok ?_|refine qa2 tok ?_|refine qa3 tok ?_|refine AL.loadR tok rfl rfl rfl rfl rfl rfl ?_|refine qa4 tok ?_|refine qa5 tok ?_|refine AW.block ?_|refine AW.exit ?_|refine AW.skip ?_)
      refine AW.cond rfl (fun hg3 => by simp at hg3) (fun hg3 => ?_)
      repeat (first|refine AL.do tok rfl rfl ?_|refine AL.nil ?_|refine AW.seq fun K hK => ?_|refine AW.region ?_|refine AL.no rfl rfl ?_|(refine hK _ ?_; clear hK)|(clear hK; refine hK _ ?_; clear hK)|(clear hK; clear hK; refine hK _ ?_; clear hK)|refine qaW ?_|refine qa1 tok ?_|refine qa2 tok ?_|refine qa3 tok ?_|refine AL.loadR tok rfl rfl rfl rfl rfl rfl ?_|refine qa4 tok ?_|refine qa5 tok ?_|refine AW.block ?_|refine AW.exit ?_|refine AW.skip ?_)
      refine hK8 _ (hK7 _ _ (k + 1) (by omega) (by omega) (ImpS.of ?_))
      (refine Imp.weakP id (fun _ _ _ _ h => h) (by first|(simp only [List.map_cons, List.map_nil, net_rn]; done)|(simp only [List.map_cons, List.map_nil, net_rn]; rfl)) (by first|exact (rfl : List.all [] _ = true)|(simp only [List.all_cons, List.all_nil, Bool.and_true]; exact net_lt _ _ _ (by decide))|(rw [List.all_cons, net_lt _ _ _ (by decide)]; rfl)) ?_ ?_ <;> (repeat' (first|exact trivial|exact net_lt _ _ _ (by decide)|(rw [net_rn]; rfl)|exact Nat.lt_of_lt_of_le (Nat.lt_succ_self _) (Nat.le_of_ble_eq_true rfl)|exact rfl|exact Or.inl ⟨rfl, rfl⟩|exact Or.inr ⟨rfl, LF.fn _ _ ‹_›⟩|refine ⟨?_, ?_⟩)))
  have hdl : (l[i].bytes.map encU).length = l[i].bytes.length := List.length_map ..
  repeat (first|refine AL.do tok rfl rfl ?_|refine AL.nil ?_|refine AW.seq fun K hK => ?_|refine AW.region ?_|refine AL.no rfl rfl ?_|(refine hK _ ?_; clear hK)|(clear hK; refine hK _ ?_; clear hK)|(clear hK; clear hK; refine hK _ ?_; clear hK)|refine qaW ?_|refine qa1 tok ?_|refine qa2 tok ?_|refine qa3 tok ?_|refine AL.loadR tok rfl rfl rfl rfl rfl rfl ?_|refine qa4 tok ?_|refine qa5 tok ?_|refine AW.block ?_|refine AW.exit ?_|refine AW.skip ?_)
  refine AW.cond rfl (fun hg => ?_) (fun hg => by simp at hg; omega)
  repeat (first|refine AL.do tok rfl rfl ?_|refine AL.nil ?_|refine AW.seq fun K hK => ?_|refine AW.region ?_|refine AL.no rfl rfl ?_|(refine hK _ ?_; clear hK)|(clear hK; refine hK _ ?_; clear hK)|(clear hK; clear hK; refine hK _ ?_; clear hK)|refine qaW ?_|refine qa1 tok ?_|refine qa2 tok ?_|refine qa3 tok ?_|refine AL.loadR tok rfl rfl rfl rfl rfl rfl ?_|refine qa4 tok ?_|refine qa5 tok ?_|refine AW.block ?_|refine AW.exit ?_|refine AW.skip ?_)
  refine AW.cond rfl (fun hg2 => ?_) (fun hg2 => ?_)
  · repeat (first|refine AL.do tok rfl rfl ?_|refine AL.nil ?_|refine AW.seq fun K hK => ?_|refine AW.region ?_|refine AL.no rfl rfl ?_|(refine hK _ ?_; clear hK)|(clear hK; refine hK _ ?_; clear hK)|(clear hK; clear hK; refine hK _ ?_; clear hK)|refine qaW ?_|refine qa1 tok ?_|refine qa2 tok ?_|refine qa3 tok ?_|refine AL.loadR tok rfl rfl rfl rfl rfl rfl ?_|refine qa4 tok ?_|refine qa5 tok ?_|refine AW.block ?_|refine AW.exit ?_|refine AW.skip ?_|refine qc1 (ke ..) ?_|refine qc2 (ke ..) ?_)
    refine AW.ret ?_
    refine ⟨_, _, _, _, rfl, Out.pure rfl ⟨?_, rfl⟩ rfl⟩
    rfl
  simp only [hdl, decide_eq_false_iff_not] at hg2
  have hbl : l[i].bytes.length ≤ 100 := by omega
  repeat (first|refine AL.do tok rfl rfl ?_|refine AL.nil ?_|refine AW.seq fun K hK => ?_|refine AW.region ?_|refine AL.no rfl rfl ?_|(refine hK _ ?_; clear hK)|(clear hK; refine hK _ ?_; clear hK)|(clear hK; clear hK; refine hK _ ?_; clear hK)|refine qaW ?_|refine qa1 tok ?_|refine qa2 tok ?_|refine qa3 tok ?_|refine AL.loadR tok rfl rfl rfl rfl rfl rfl ?_|refine qa4 tok ?_|refine qa5 tok ?_|refine AW.block ?_|refine AW.exit ?_|refine AW.skip ?_)
  refine qa6 tok ?_
  simp only [List.nil_append]
  have ks := sendX_calls (netW nn want) l[i] fate0 rfl hnn.2 (by show (want.map _).length ≤ _; rw [List.length_map]; omega)
  repeat (first|refine AL.do tok rfl rfl ?_|refine AL.nil ?_|refine AW.seq fun K hK => ?_|refine AW.region ?_|refine AL.no rfl rfl ?_|(refine hK _ ?_; clear hK)|(clear hK; refine hK _ ?_; clear hK)|(clear hK; clear hK; refine hK _ ?_; clear hK)|refine qaW ?_|refine qa1 tok ?_|refine qa2 tok ?_|refine qa3 tok ?_|refine AL.loadR tok rfl rfl rfl rfl rfl rfl ?_|refine qa4 tok ?_|refine qa5 tok ?_|refine AW.block ?_|refine AW.exit ?_|refine AW.skip ?_)
  rcases order_send nn want l[i] hnn.2 (by omega) hbl with ⟨hp, e1, e2⟩ | ⟨hp, e1, e2⟩
  · rw [e1, e2] at ks
    refine AL.callNetB (.loc 0) (.loc 6) 1 ks rfl rfl rfl rfl rfl rfl (by decide) (by decide) (by decide) rfl rfl rfl rfl rfl rfl rfl ?_
    repeat (first|refine AL.do tok rfl rfl ?_|refine AL.nil ?_|refine AW.seq fun K hK => ?_|refine AW.region ?_|refine AL.no rfl rfl ?_|(refine hK _ ?_; clear hK)|(clear hK; refine hK _ ?_; clear hK)|(clear hK; clear hK; refine hK _ ?_; clear hK)|refine qaW ?_|refine qa1 tok ?_|refine qa2 tok ?_|refine qa3 tok ?_|refine AL.loadR tok rfl rfl rfl rfl rfl rfl ?_|refine qa4 tok ?_|refine qa5 tok ?_|refine AW.block ?_|refine AW.exit ?_|refine AW.skip ?_)
    refine AW.condT rfl ?_
    repeat (first|refine AL.do tok rfl rfl ?_|refine AL.nil ?_|refine AW.seq fun K hK => ?_|refine AW.region ?_|refine AL.no rfl rfl ?_|(refine hK _ ?_; clear hK)|(clear hK; refine hK _ ?_; clear hK)|(clear hK; clear hK; refine hK _ ?_; clear hK)|refine qaW ?_|refine qa1 tok ?_|refine qa2 tok ?_|refine qa3 tok ?_|refine AL.loadR tok rfl rfl rfl rfl rfl rfl ?_|refine qa4 tok ?_|refine qa5 tok ?_|refine AW.block ?_|refine AW.exit ?_|refine AW.skip ?_)
    refine qa6 (ys := [encDg l[i]]) (hel := fun x hx => by rw [List.mem_singleton.1 hx]; rfl) tok ?_
    rw [show want.map encDg ++ [encDg l[i]] = (want ++ [l[i]]).map encDg by simp]
    repeat (first|refine AL.do tok rfl rfl ?_|refine AL.nil ?_|refine AW.seq fun K hK => ?_|refine AW.region ?_|refine AL.no rfl rfl ?_|(refine hK _ ?_; clear hK)|(clear hK; refine hK _ ?_; clear hK)|(clear hK; clear hK; refine hK _ ?_; clear hK)|refine qaW ?_|refine qa1 tok ?_|refine qa2 tok ?_|refine qa3 tok ?_|refine AL.loadR tok rfl rfl rfl rfl rfl rfl ?_|refine qa4 tok ?_|refine qa5 tok ?_|refine AW.block ?_|refine AW.exit ?_|refine AW.skip ?_)
    refine AL.named 87 6 rfl rfl (fun v hv' => ?_)
    repeat (first|refine AL.do tok rfl rfl ?_|refine AL.nil ?_|refine AW.seq fun K hK => ?_|refine AW.region ?_|refine AL.no rfl rfl ?_|(refine hK _ ?_; clear hK)|(clear hK; refine hK _ ?_; clear hK)|(clear hK; clear hK; refine hK _ ?_; clear hK)|refine qaW ?_|refine qa1 tok ?_|refine qa2 tok ?_|refine qa3 tok ?_|refine AL.loadR tok rfl rfl rfl rfl rfl rfl ?_|refine qa4 tok ?_|refine qa5 tok ?_|refine AW.block ?_|refine AW.exit ?_|refine AW.skip ?_)
    refine qa6 (ys := [encV (v, l[i].bytes)]) (hel := fun x hx => by rw [List.mem_singleton.1 hx]; rfl) tok ?_
    rw [show vs.map encV ++ [encV (v, l[i].bytes)] = (vs ++ [(v, l[i].bytes)]).map encV by simp]
    repeat (first|refine AL.do tok rfl rfl ?_|refine AL.nil ?_|refine AW.seq fun K hK => ?_|refine AW.region ?_|refine AL.no rfl rfl ?_|(refine hK _ ?_; clear hK)|(clear hK; refine hK _ ?_; clear hK)|(clear hK; clear hK; refine hK _ ?_; clear hK)|refine qaW ?_|refine qa1 tok ?_|refine qa2 tok ?_|refine qa3 tok ?_|refine AL.loadR tok rfl rfl rfl rfl rfl rfl ?_|refine qa4 tok ?_|refine qa5 tok ?_|refine AW.block ?_|refine AW.exit ?_|refine AW.skip ?_)
    refine hK4 _ (hK3 _ _ (i + 1, want ++ [l[i]], vs ++ [(v, l[i].bytes)]) ⟨by show i + 1 ≤ l.length; omega, by simp; omega, by simp; omega, fun p hp => ?_⟩ (by show l.length - (i + 1) < l.length - i; omega) ?_)
    · rcases List.mem_append.1 hp with hp | hp
      · exact hb p hp
      · rw [List.mem_singleton.1 hp]
        exact hbl
    · show ImpS _ _ (stW nn l (i + 1) (want ++ [l[i]]) (vs ++ [(v, l[i].bytes)])) ((vs ++ [(v, l[i].bytes)]).map sdB)
      rw [show (vs ++ [(v, l[i].bytes)]).map sdB = vs.map sdB ++ [sdB (v, l[i].bytes)] by simp]
      refine (ImpS.detach 6 (sdB (v, l[i].bytes)) rfl).trans (ImpS.of ?_)
      (refine Imp.weakP (fun k => if k = 1 then 7 else if k = 2 then 9 else if k = 3 then 11 else k) (fun j k h1 h2 h => by by_cases e0 : j = 1 <;> by_cases f0 : k = 1 <;> by_cases e1 : j = 2 <;> by_cases f1 : k = 2 <;> by_cases e2 : j = 3 <;> by_cases f2 : k = 3 <;> simp [*] at h <;> omega) (by first|(simp only [List.map_cons, List.map_nil, net_rn]; done)|(simp only [List.map_cons, List.map_nil, net_rn]; rfl)) (by first|exact (rfl : List.all [] _ = true)|(simp only [List.all_cons, List.all_nil, Bool.and_true]; exact net_lt _ _ _ (by decide))|(rw [List.all_cons, net_lt _ _ _ (by decide)]; rfl)) ?_ ?_ <;> (repeat' (first|exact trivial|exact net_lt _ _ _ (by decide)|(rw [net_rn]; rfl)|exact Nat.lt_of_lt_of_le (Nat.lt_succ_self _) (Nat.le_of_ble_eq_true rfl)|exact rfl|exact Or.inl ⟨rfl, rfl⟩|exact Or.inr ⟨rfl, LF.fn _ _ ‹_›⟩|refine ⟨?_, ?_⟩)))
  · rw [e1, e2] at ks
    have hq : l[i].src = l[i].dst ∨ l[i].src < 0 ∨ l[i].dst < 0 ∨ nn ≤ l[i].src ∨ nn ≤ l[i].dst := by
      refine Classical.byContradiction fun hc => ?_
      have : pairS (netW nn want) l[i].src l[i].dst = true := by
        unfold pairS
        simp only [Bool.and_eq_true, Bool.not_eq_true', decide_eq_false_iff_not, decide_eq_true_eq]
        show ¬ l[i].src = l[i].dst ∧ 0 ≤ l[i].src ∧ 0 ≤ l[i].dst ∧ l[i].src < nn ∧ l[i].dst < nn
        omega
      rw [hp] at this
      cases this
    refine AL.callNetB (.loc 0) (.loc 6) 1 ks rfl rfl rfl rfl rfl rfl (by decide) (by decide) (by decide) rfl rfl rfl rfl rfl rfl rfl ?_
    repeat (first|refine AL.do tok rfl rfl ?_|refine AL.nil ?_|refine AW.seq fun K hK => ?_|refine AW.region ?_|refine AL.no rfl rfl ?_|(refine hK _ ?_; clear hK)|(clear hK; refine hK _ ?_; clear hK)|(clear hK; clear hK; refine hK _ ?_; clear hK)|refine qaW ?_|refine qa1 tok ?_|refine qa2 tok ?_|refine qa3 tok ?_|refine AL.loadR tok rfl rfl rfl rfl rfl rfl ?_|refine qa4 tok ?_|refine qa5 tok ?_|refine AW.block ?_|refine AW.exit ?_|refine AW.skip ?_)
    refine AW.condF rfl ?_
    repeat' (first|refine AL.do tok rfl rfl ?_|refine AL.nil ?_|refine AW.seq fun K hK => ?_|refine AW.region ?_|refine AL.no rfl rfl ?_|(refine hK _ ?_; clear hK)|(clear hK; refine hK _ ?_; clear hK)|(clear hK; clear hK; refine hK _ ?_; clear hK)|refine qaW ?_|refine qa1 tok ?_|refine qa2 tok ?_|refine qa3 tok ?_|refine AL.loadR tok rfl rfl rfl rfl rfl rfl ?_|refine qa4 tok ?_|refine qa5 tok ?_|refine AW.block ?_|refine AW.exit ?_|refine AW.skip ?_|((fail_if_success (refine AL.guard (b := true) rfl rfl ?_ ?_)); (fail_if_success (refine AL.guard (b := false) rfl rfl ?_ ?_)); refine AL.guard rfl rfl (fun hg => ?_) (fun hg => ?_) <;> ((try simp only [DX] at hg) <;> (try first|(exfalso; omega)|exact absurd trivial hg|exact False.elim hg|exact absurd rfl hg)))|refine AW.condT rfl ?_|refine AW.condF rfl ?_|(refine AW.cond rfl (fun hg => ?_) (fun hg => ?_) <;> ((try simp only [DX] at hg) <;> (try first|(exfalso; omega)|exact absurd trivial hg|exact False.elim hg|exact absurd rfl hg))))
    all_goals
      refine AL.named 87 6 rfl rfl (fun v hv' => ?_)
      repeat (first|refine AL.do tok rfl rfl ?_|refine AL.nil ?_|refine AW.seq fun K hK => ?_|refine AW.region ?_|refine AL.no rfl rfl ?_|(refine hK _ ?_; clear hK)|(clear hK; refine hK _ ?_; clear hK)|(clear hK; clear hK; refine hK _ ?_; clear hK)|refine qaW ?_|refine qa1 tok ?_|refine qa2 tok ?_|refine qa3 tok ?_|refine AL.loadR tok rfl rfl rfl rfl rfl rfl ?_|refine qa4 tok ?_|refine qa5 tok ?_|refine AW.block ?_|refine AW.exit ?_|refine AW.skip ?_)
      refine qa6 (ys := [encV (v, l[i].bytes)]) (hel := fun x hx => by rw [List.mem_singleton.1 hx]; rfl) tok ?_
      rw [show vs.map encV ++ [encV (v, l[i].bytes)] = (vs ++ [(v, l[i].bytes)]).map encV by simp]
      repeat (first|refine AL.do tok rfl rfl ?_|refine AL.nil ?_|refine AW.seq fun K hK => ?_|refine AW.region ?_|refine AL.no rfl rfl ?_|(refine hK _ ?_; clear hK)|(clear hK; refine hK _ ?_; clear hK)|(clear hK; clear hK; refine hK _ ?_; clear hK)|refine qaW ?_|refine qa1 tok ?_|refine qa2 tok ?_|refine qa3 tok ?_|refine AL.loadR tok rfl rfl rfl rfl rfl rfl ?_|refine qa4 tok ?_|refine qa5 tok ?_|refine AW.block ?_|refine AW.exit ?_|refine AW.skip ?_)
      refine hK4 _ (hK3 _ _ (i + 1, want, vs ++ [(v, l[i].bytes)]) ⟨by show i + 1 ≤ l.length; omega, by show want.length ≤ i + 1; omega, by simp; omega, fun p hp => ?_⟩ (by show l.length - (i + 1) < l.length - i; omega) ?_)
      · rcases List.mem_append.1 hp with hp | hp
        · exact hb p hp
        · rw [List.mem_singleton.1 hp]
          exact hbl
      · show ImpS _ _ (stW nn l (i + 1) want (vs ++ [(v, l[i].bytes)])) ((vs ++ [(v, l[i].bytes)]).map sdB)
        rw [show (vs ++ [(v, l[i].bytes)]).map sdB = vs.map sdB ++ [sdB (v, l[i].bytes)] by simp]
        refine (ImpS.detach 6 (sdB (v, l[i].bytes)) rfl).trans (ImpS.of ?_)
        (refine Imp.weakP (fun k => if k = 1 then 7 else if k = 3 then 9 else k) (fun j k h1 h2 h => by by_cases e0 : j = 1 <;> by_cases f0 : k = 1 <;> by_cases e1 : j = 3 <;> by_cases f1 : k = 3 <;> simp [*] at h <;> omega) (by first|(simp only [List.map_cons, List.map_nil, net_rn]; done)|(simp only [List.map_cons, List.map_nil, net_rn]; rfl)) (by first|exact (rfl : List.all [] _ = true)|(simp only [List.all_cons, List.all_nil, Bool.and_true]; exact net_lt _ _ _ (by decide))|(rw [List.all_cons, net_lt _ _ _ (by decide)]; rfl)) ?_ ?_ <;> (repeat' (first|exact trivial|exact net_lt _ _ _ (by decide)|(rw [net_rn]; rfl)|exact Nat.lt_of_lt_of_le (Nat.lt_succ_self _) (Nat.le_of_ble_eq_true rfl)|exact rfl|exact Or.inl ⟨rfl, rfl⟩|exact Or.inr ⟨rfl, LF.fn _ _ ‹_›⟩|refine ⟨?_, ?_⟩)))
end Go.Proofs.Try
