/- links: the law LinksOnly: the walk. -/
import Derived.Test.YtefhpcaopchhgaaLnkO
import Derived.Test.YtefhpcaopchhgaaWk
set_option linter.unusedSimpArgs false
set_option linter.unusedVariables false
namespace Go.Proofs.Try
open Go Go.AM

abbrev stO (len : Nat) (l : List Opn) (i : Nat) (n : Nt) (a : List Sn) (cut : Bool) : St := ⟨116, [(39, i64 i), (38, i64 len), (37, rowOn l), (5, .ptr (.loc 0) 0), (7, .own (.loc 2)), (8, bo cut)], [(0, some (netB n (.own (.loc 1)))), (1, some (wayR n).blk), (2, some (rowS a))], [], 3⟩
structure InvL (i : Nat) (n : Nt) (a : List Sn) (cut : Bool) : Prop where
  ok : OkN n
  mw : MaxW 82 n.way
  len : a.length ≤ i
  o : InvO cut a n.way
theorem mod50 (x : Int) : x.tmod 50 ≤ 49 := by
  have := Int.tmod_lt_of_pos x (show (0 : Int) < 50 by decide)
  omega
theorem enc_append (a : List Sn) (d : Dg) (m : Int) : a.map encSn ++ [[D.one (.int .i64 d.src), D.one (.int .i64 d.dst), D.row (d.bytes.map encU), D.one (.int .i64 m)]] = (a ++ [(⟨d, m⟩ : Sn)]).map encSn := by
  rw [List.map_append]
  rfl
theorem inv0 (nn : Int) (h : nn ≤ 7) (l : List Opn) : 0 ≤ l.length ∧ InvL 0 (net0 nn) [] false :=
  ⟨Nat.zero_le _, ⟨h, rfl, by show 0 ≤ 4096; decide⟩, (fun x hx => by cases hx), Nat.le_refl _, ⟨(fun s hs => by cases hs), (fun k => by show ((0 : Nat) : Int) ≤ 0; decide), (fun _ k => rfl), (fun s hs => by cases hs)⟩⟩
set_option maxHeartbeats 64000000 in
set_option maxRecDepth 10000 in
theorem linksOnly_law (x0 x1 : AV) (h0 : AT ts 3 x0) (h1 : AT ts 41 x1) : ACallP Try.prog 5 [x0, x1] (bo true) := by
  obtain ⟨nn, rfl, _⟩ := at_int h0
  obtain ⟨l, rfl, hl⟩ := at_On h1
  have ke := example_calls
  have kf := few_calls l hl
  have hlm : (l.map encOn).length = l.length := List.length_map ..
  by_cases hnn : 1 ≤ nn ∧ nn ≤ 7
  rotate_left
  · have kb := newBad_calls nn (by omega)
    generalize fewS l = fw at *
    refine ACalls.body tok Try.func5 rfl (by kernel_rfl) (by rw [Try.ntmps5]; simp) ?_
    simp only [Try.ntmps5, Try.results5, argT]
    repeat (first|refine AL.do tok rfl rfl ?_|refine AL.nil ?_|refine AW.seq fun K hK => ?_|refine AW.region ?_|refine AL.no rfl rfl ?_|(refine hK _ ?_; clear hK)|(clear hK; refine hK _ ?_; clear hK)|(clear hK; clear hK; refine hK _ ?_; clear hK)|refine qaW ?_|refine qa1 tok ?_|refine qa2 tok ?_|refine qa3 tok ?_|refine AL.loadR tok rfl rfl rfl rfl rfl rfl ?_|refine qa4 tok ?_|refine qa5 tok ?_|refine AW.block ?_|refine AW.exit ?_|refine AW.skip ?_|refine qc1 (kb ..) ?_|refine qc2 (kb ..) ?_|refine qc1 (kf ..) ?_|refine qc2 (kf ..) ?_)
    cases fw with
    | true =>
      repeat (first|refine AL.do tok rfl rfl ?_|refine AL.nil ?_|refine AW.seq fun K hK => ?_|refine AW.region ?_|refine AL.no rfl rfl ?_|(refine hK _ ?_; clear hK)|(clear hK; refine hK _ ?_; clear hK)|(clear hK; clear hK; refine hK _ ?_; clear hK)|refine qaW ?_|refine qa1 tok ?_|refine qa2 tok ?_|refine qa3 tok ?_|refine AL.loadR tok rfl rfl rfl rfl rfl rfl ?_|refine qa4 tok ?_|refine qa5 tok ?_|refine AW.block ?_|refine AW.exit ?_|refine AW.skip ?_)
      refine AW.condT rfl ?_
      repeat (first|refine AL.do tok rfl rfl ?_|refine AL.nil ?_|refine AW.seq fun K hK => ?_|refine AW.region ?_|refine AL.no rfl rfl ?_|(refine hK _ ?_; clear hK)|(clear hK; refine hK _ ?_; clear hK)|(clear hK; clear hK; refine hK _ ?_; clear hK)|refine qaW ?_|refine qa1 tok ?_|refine qa2 tok ?_|refine qa3 tok ?_|refine AL.loadR tok rfl rfl rfl rfl rfl rfl ?_|refine qa4 tok ?_|refine qa5 tok ?_|refine AW.block ?_|refine AW.exit ?_|refine AW.skip ?_)
      refine AL.v rfl rfl VOp.nilNnil ?_
      repeat (first|refine AL.do tok rfl rfl ?_|refine AL.nil ?_|refine AW.seq fun K hK => ?_|refine AW.region ?_|refine AL.no rfl rfl ?_|(refine hK _ ?_; clear hK)|(clear hK; refine hK _ ?_; clear hK)|(clear hK; clear hK; refine hK _ ?_; clear hK)|refine qaW ?_|refine qa1 tok ?_|refine qa2 tok ?_|refine qa3 tok ?_|refine AL.loadR tok rfl rfl rfl rfl rfl rfl ?_|refine qa4 tok ?_|refine qa5 tok ?_|refine AW.block ?_|refine AW.exit ?_|refine AW.skip ?_|refine qc1 (ke ..) ?_|refine qc2 (ke ..) ?_)
      refine AW.ret ?_
      refine ⟨_, _, _, _, rfl, Out.pure rfl ⟨?_, rfl⟩ rfl⟩
      rfl
    | false =>
      repeat (first|refine AL.do tok rfl rfl ?_|refine AL.nil ?_|refine AW.seq fun K hK => ?_|refine AW.region ?_|refine AL.no rfl rfl ?_|(refine hK _ ?_; clear hK)|(clear hK; refine hK _ ?_; clear hK)|(clear hK; clear hK; refine hK _ ?_; clear hK)|refine qaW ?_|refine qa1 tok ?_|refine qa2 tok ?_|refine qa3 tok ?_|refine AL.loadR tok rfl rfl rfl rfl rfl rfl ?_|refine qa4 tok ?_|refine qa5 tok ?_|refine AW.block ?_|refine AW.exit ?_|refine AW.skip ?_)
      refine AW.condT rfl ?_
      repeat (first|refine AL.do tok rfl rfl ?_|refine AL.nil ?_|refine AW.seq fun K hK => ?_|refine AW.region ?_|refine AL.no rfl rfl ?_|(refine hK _ ?_; clear hK)|(clear hK; refine hK _ ?_; clear hK)|(clear hK; clear hK; refine hK _ ?_; clear hK)|refine qaW ?_|refine qa1 tok ?_|refine qa2 tok ?_|refine qa3 tok ?_|refine AL.loadR tok rfl rfl rfl rfl rfl rfl ?_|refine qa4 tok ?_|refine qa5 tok ?_|refine AW.block ?_|refine AW.exit ?_|refine AW.skip ?_)
      refine AL.v rfl rfl VOp.nilNnil ?_
      repeat (first|refine AL.do tok rfl rfl ?_|refine AL.nil ?_|refine AW.seq fun K hK => ?_|refine AW.region ?_|refine AL.no rfl rfl ?_|(refine hK _ ?_; clear hK)|(clear hK; refine hK _ ?_; clear hK)|(clear hK; clear hK; refine hK _ ?_; clear hK)|refine qaW ?_|refine qa1 tok ?_|refine qa2 tok ?_|refine qa3 tok ?_|refine AL.loadR tok rfl rfl rfl rfl rfl rfl ?_|refine qa4 tok ?_|refine qa5 tok ?_|refine AW.block ?_|refine AW.exit ?_|refine AW.skip ?_|refine qc1 (ke ..) ?_|refine qc2 (ke ..) ?_)
      refine AW.ret ?_
      refine ⟨_, _, _, _, rfl, Out.pure rfl ⟨?_, rfl⟩ rfl⟩
      rfl
  by_cases hfw : fewS l = true
  rotate_left
  · rw [Bool.eq_false_iff.2 hfw] at kf
    refine ACalls.body tok Try.func5 rfl (by kernel_rfl) (by rw [Try.ntmps5]; simp) ?_
    simp only [Try.ntmps5, Try.results5, argT]
    repeat (first|refine AL.do tok rfl rfl ?_|refine AL.nil ?_|refine AW.seq fun K hK => ?_|refine AW.region ?_|refine AL.no rfl rfl ?_|(refine hK _ ?_; clear hK)|(clear hK; refine hK _ ?_; clear hK)|(clear hK; clear hK; refine hK _ ?_; clear hK)|refine qaW ?_|refine qa1 tok ?_|refine qa2 tok ?_|refine qa3 tok ?_|refine AL.loadR tok rfl rfl rfl rfl rfl rfl ?_|refine qa4 tok ?_|refine qa5 tok ?_|refine AW.block ?_|refine AW.exit ?_|refine AW.skip ?_)
    refine AL.callNew new_callable (new_raw nn hnn) (zall_net nn) rfl rfl rfl rfl ?_
    repeat (first|refine AL.do tok rfl rfl ?_|refine AL.nil ?_|refine AW.seq fun K hK => ?_|refine AW.region ?_|refine AL.no rfl rfl ?_|(refine hK _ ?_; clear hK)|(clear hK; refine hK _ ?_; clear hK)|(clear hK; clear hK; refine hK _ ?_; clear hK)|refine qaW ?_|refine qa1 tok ?_|refine qa2 tok ?_|refine qa3 tok ?_|refine AL.loadR tok rfl rfl rfl rfl rfl rfl ?_|refine qa4 tok ?_|refine qa5 tok ?_|refine AW.block ?_|refine AW.exit ?_|refine AW.skip ?_|refine qc1 (kf ..) ?_|refine qc2 (kf ..) ?_)
    refine AW.condT rfl ?_
    repeat (first|refine AL.do tok rfl rfl ?_|refine AL.nil ?_|refine AW.seq fun K hK => ?_|refine AW.region ?_|refine AL.no rfl rfl ?_|(refine hK _ ?_; clear hK)|(clear hK; refine hK _ ?_; clear hK)|(clear hK; clear hK; refine hK _ ?_; clear hK)|refine qaW ?_|refine qa1 tok ?_|refine qa2 tok ?_|refine qa3 tok ?_|refine AL.loadR tok rfl rfl rfl rfl rfl rfl ?_|refine qa4 tok ?_|refine qa5 tok ?_|refine AW.block ?_|refine AW.exit ?_|refine AW.skip ?_)
    refine AL.v rfl rfl VOp.ptrNnil ?_
    repeat (first|refine AL.do tok rfl rfl ?_|refine AL.nil ?_|refine AW.seq fun K hK => ?_|refine AW.region ?_|refine AL.no rfl rfl ?_|(refine hK _ ?_; clear hK)|(clear hK; refine hK _ ?_; clear hK)|(clear hK; clear hK; refine hK _ ?_; clear hK)|refine qaW ?_|refine qa1 tok ?_|refine qa2 tok ?_|refine qa3 tok ?_|refine AL.loadR tok rfl rfl rfl rfl rfl rfl ?_|refine qa4 tok ?_|refine qa5 tok ?_|refine AW.block ?_|refine AW.exit ?_|refine AW.skip ?_|refine qc1 (ke ..) ?_|refine qc2 (ke ..) ?_)
    refine AW.ret ?_
    refine ⟨_, _, _, _, rfl, Out.pure rfl ⟨?_, rfl⟩ rfl⟩
    rfl
  rw [hfw] at kf
  have hl120 : l.length ≤ 120 := by
    unfold fewS at hfw
    simp only [Bool.and_eq_true, decide_eq_true_eq] at hfw
    exact hfw.1
  refine ACalls.body tok Try.func5 rfl (by kernel_rfl) (by rw [Try.ntmps5]; simp) ?_
  simp only [Try.ntmps5, Try.results5, argT]
  repeat (first|refine AL.do tok rfl rfl ?_|refine AL.nil ?_|refine AW.seq fun K hK => ?_|refine AW.region ?_|refine AL.no rfl rfl ?_|(refine hK _ ?_; clear hK)|(clear hK; refine hK _ ?_; clear hK)|(clear hK; clear hK; refine hK _ ?_; clear hK)|refine qaW ?_|refine qa1 tok ?_|refine qa2 tok ?_|refine qa3 tok ?_|refine AL.loadR tok rfl rfl rfl rfl rfl rfl ?_|refine qa4 tok ?_|refine qa5 tok ?_|refine AW.block ?_|refine AW.exit ?_|refine AW.skip ?_)
  refine AL.callNew new_callable (new_raw nn hnn) (zall_net nn) rfl rfl rfl rfl ?_
  refine AL.nilOwnB 0 50 76 4 rfl rfl (net_wset rfl) ?_
  repeat (first|refine AL.do tok rfl rfl ?_|refine AL.nil ?_|refine AW.seq fun K hK => ?_|refine AW.region ?_|refine AL.no rfl rfl ?_|(refine hK _ ?_; clear hK)|(clear hK; refine hK _ ?_; clear hK)|(clear hK; clear hK; refine hK _ ?_; clear hK)|refine qaW ?_|refine qa1 tok ?_|refine qa2 tok ?_|refine qa3 tok ?_|refine AL.loadR tok rfl rfl rfl rfl rfl rfl ?_|refine qa4 tok ?_|refine qa5 tok ?_|refine AW.block ?_|refine AW.exit ?_|refine AW.skip ?_|refine qc1 (kf ..) ?_|refine qc2 (kf ..) ?_)
  refine AW.condF rfl ?_
  repeat (first|refine AL.do tok rfl rfl ?_|refine AL.nil ?_|refine AW.seq fun K hK => ?_|refine AW.region ?_|refine AL.no rfl rfl ?_|(refine hK _ ?_; clear hK)|(clear hK; refine hK _ ?_; clear hK)|(clear hK; clear hK; refine hK _ ?_; clear hK)|refine qaW ?_|refine qa1 tok ?_|refine qa2 tok ?_|refine qa3 tok ?_|refine AL.loadR tok rfl rfl rfl rfl rfl rfl ?_|refine qa4 tok ?_|refine qa5 tok ?_|refine AW.block ?_|refine AW.exit ?_|refine AW.skip ?_)
  refine AL.v rfl rfl VOp.ptrNil ?_
  repeat (first|refine AL.do tok rfl rfl ?_|refine AL.nil ?_|refine AW.seq fun K hK => ?_|refine AW.region ?_|refine AL.no rfl rfl ?_|(refine hK _ ?_; clear hK)|(clear hK; refine hK _ ?_; clear hK)|(clear hK; clear hK; refine hK _ ?_; clear hK)|refine qaW ?_|refine qa1 tok ?_|refine qa2 tok ?_|refine qa3 tok ?_|refine AL.loadR tok rfl rfl rfl rfl rfl rfl ?_|refine qa4 tok ?_|refine qa5 tok ?_|refine AW.block ?_|refine AW.exit ?_|refine AW.skip ?_)
  refine AW.condF rfl ?_
  repeat (first|refine AL.do tok rfl rfl ?_|refine AL.nil ?_|refine AW.seq fun K hK => ?_|refine AW.region ?_|refine AL.no rfl rfl ?_|(refine hK _ ?_; clear hK)|(clear hK; refine hK _ ?_; clear hK)|(clear hK; clear hK; refine hK _ ?_; clear hK)|refine qaW ?_|refine qa1 tok ?_|refine qa2 tok ?_|refine qa3 tok ?_|refine AL.loadR tok rfl rfl rfl rfl rfl rfl ?_|refine qa4 tok ?_|refine qa5 tok ?_|refine AW.block ?_|refine AW.exit ?_|refine AW.skip ?_)
  simp only [hlm]
  refine AW.nilOwn 7 49 4 rfl ?_
  refine AW.loop (ι := Nat × Nt × List Sn × Bool) (fun s => stO l.length l s.1 s.2.1 s.2.2.1 s.2.2.2) (fun s => s.1 ≤ l.length ∧ InvL s.1 s.2.1 s.2.2.1 s.2.2.2) (fun s => l.length - s.1) (0, net0 nn, [], false)
    (inv0 nn hnn.2 l) ?_ ?_
  · (refine Imp.weakP id (fun _ _ _ _ h => h) (by first|(simp only [List.map_cons, List.map_nil, net_rn]; done)|(simp only [List.map_cons, List.map_nil, net_rn]; rfl)) (by first|exact (rfl : List.all [] _ = true)|(simp only [List.all_cons, List.all_nil, Bool.and_true]; exact net_lt _ _ _ (by decide))|(rw [List.all_cons, net_lt _ _ _ (by decide)]; rfl)) ?_ ?_ <;> (repeat' (first|exact trivial|exact net_lt _ _ _ (by decide)|(rw [net_rn]; rfl)|exact Nat.lt_of_lt_of_le (Nat.lt_succ_self _) (Nat.le_of_ble_eq_true rfl)|exact rfl|exact Or.inl ⟨rfl, rfl⟩|exact Or.inr ⟨rfl, LF.fn _ _ ‹_›⟩|refine ⟨?_, ?_⟩)))
  rintro ⟨i, n, a, cut⟩ ⟨hi, hv⟩ K1 hK1
  dsimp only at hi hv ⊢
  have ham : (a.map encSn).length = a.length := List.length_map ..
  have hal := hv.len
  by_cases hlt : i < l.length
  · have hs := sendO_calls n l[i] hv.ok.cut hv.ok.nodes hv.ok.len
    have hm := send_more n l[i].d (modF l[i].f)
    have hms : moreS n l[i] = ((sendS n l[i].d (modF l[i].f)).way.length : Int) - n.way.length := rfl
    have hnk := hv.ok.send l[i].d (modF l[i].f)
    have hcu := cut_calls n l[i].a l[i].b hv.ok.cut hv.ok.nodes (by have := hv.ok.len; omega)
    have hme := mend_calls n l[i].a l[i].b hv.ok.cut hv.ok.nodes
    obtain ⟨a', hde, ho', hal'⟩ := hv.o.step
    have har : ACallArr n a (stepS n) a' := arrived_calls n a a' hv.ok.cut (hv.mw.okWay hv.ok (by decide)) hde (by omega) (fun s hs => by have := hv.o.mx s hs; omega)
    repeat (first|refine AL.do tok rfl rfl ?_|refine AL.nil ?_|refine AW.seq fun K hK => ?_|refine AW.region ?_|refine AL.no rfl rfl ?_|(refine hK _ ?_; clear hK)|(clear hK; refine hK _ ?_; clear hK)|(clear hK; clear hK; refine hK _ ?_; clear hK)|refine qaW ?_|refine qa1 tok ?_|refine qa2 tok ?_|refine qa3 tok ?_|refine AL.loadR tok rfl rfl rfl rfl rfl rfl ?_|refine qa4 tok ?_|refine qa5 tok ?_|refine AW.block ?_|refine AW.exit ?_|refine AW.skip ?_)
    refine AW.cond rfl (fun hg => ?_) (fun hg => by simp at hg; omega)
    repeat (first|refine AL.do tok rfl rfl ?_|refine AL.nil ?_|refine AW.seq fun K hK => ?_|refine AW.region ?_|refine AL.no rfl rfl ?_|(refine hK _ ?_; clear hK)|(clear hK; refine hK _ ?_; clear hK)|(clear hK; clear hK; refine hK _ ?_; clear hK)|refine qaW ?_|refine qa1 tok ?_|refine qa2 tok ?_|refine qa3 tok ?_|refine AL.loadR tok rfl rfl rfl rfl rfl rfl ?_|refine qa4 tok ?_|refine qa5 tok ?_|refine AW.block ?_|refine AW.exit ?_|refine AW.skip ?_)
    refine AW.cond rfl (fun hk => ?_) (fun hk => ?_)
    · repeat (first|refine AL.do tok rfl rfl ?_|refine AL.nil ?_|refine AW.seq fun K hK => ?_|refine AW.region ?_|refine AL.no rfl rfl ?_|(refine hK _ ?_; clear hK)|(clear hK; refine hK _ ?_; clear hK)|(clear hK; clear hK; refine hK _ ?_; clear hK)|refine qaW ?_|refine qa1 tok ?_|refine qa2 tok ?_|refine qa3 tok ?_|refine AL.loadR tok rfl rfl rfl rfl rfl rfl ?_|refine qa4 tok ?_|refine qa5 tok ?_|refine AW.block ?_|refine AW.exit ?_|refine AW.skip ?_)
      refine AL.callNet (.loc 0) 1 (hs) rfl rfl rfl rfl rfl (by decide) rfl rfl rfl rfl rfl rfl ?_
      repeat (first|refine AL.do tok rfl rfl ?_|refine AL.nil ?_|refine AW.seq fun K hK => ?_|refine AW.region ?_|refine AL.no rfl rfl ?_|(refine hK _ ?_; clear hK)|(clear hK; refine hK _ ?_; clear hK)|(clear hK; clear hK; refine hK _ ?_; clear hK)|refine qaW ?_|refine qa1 tok ?_|refine qa2 tok ?_|refine qa3 tok ?_|refine AL.loadR tok rfl rfl rfl rfl rfl rfl ?_|refine qa4 tok ?_|refine qa5 tok ?_|refine AW.block ?_|refine AW.exit ?_|refine AW.skip ?_)
      refine AW.condF rfl ?_
      repeat (first|refine AL.do tok rfl rfl ?_|refine AL.nil ?_|refine AW.seq fun K hK => ?_|refine AW.region ?_|refine AL.no rfl rfl ?_|(refine hK _ ?_; clear hK)|(clear hK; refine hK _ ?_; clear hK)|(clear hK; clear hK; refine hK _ ?_; clear hK)|refine qaW ?_|refine qa1 tok ?_|refine qa2 tok ?_|refine qa3 tok ?_|refine AL.loadR tok rfl rfl rfl rfl rfl rfl ?_|refine qa4 tok ?_|refine qa5 tok ?_|refine AW.block ?_|refine AW.exit ?_|refine AW.skip ?_)
      generalize hn' : sendS n l[i].d (modF l[i].f) = n' at *
      rcases hm with ⟨q1, q2, q3, q4, q5, q6, q7, e⟩ | ⟨e, _⟩
      · have hmore : moreS n l[i] = ((l[i].f.copies.toNat + 1 : Nat) : Int) := by
          rw [hms, e]
          show ((putI _ _ _ _).length : Int) - _ = _
          rw [putI_len]
          show ((n.way.length + (l[i].f.copies.toNat + 1) : Nat) : Int) - n.way.length = _
          omega
        rw [hmore]
        have hc33 : l[i].f.copies.toNat + 1 ≤ 33 := by
          have : l[i].f.copies ≤ 32 := q5
          omega
        have hm1 : 1 ≤ l[i].f.copies.toNat + 1 := by omega
        generalize l[i].f.copies.toNat + 1 = m at *
        refine AW.cond rfl (fun hg2 => ?_) (fun hg2 => by simp at hg2; omega)
        repeat (first|refine AL.do tok rfl rfl ?_|refine AL.nil ?_|refine AW.seq fun K hK => ?_|refine AW.region ?_|refine AL.no rfl rfl ?_|(refine hK _ ?_; clear hK)|(clear hK; refine hK _ ?_; clear hK)|(clear hK; clear hK; refine hK _ ?_; clear hK)|refine qaW ?_|refine qa1 tok ?_|refine qa2 tok ?_|refine qa3 tok ?_|refine AL.loadR tok rfl rfl rfl rfl rfl rfl ?_|refine qa4 tok ?_|refine qa5 tok ?_|refine AW.block ?_|refine AW.exit ?_|refine AW.skip ?_)
        refine qa6 (ys := [encSn ⟨l[i].d, m⟩]) (hel := fun x hx => by rw [List.mem_singleton.1 hx]; rfl) tok ?_
        rw [show a.map encSn ++ [encSn ⟨l[i].d, m⟩] = (a ++ [(⟨l[i].d, m⟩ : Sn)]).map encSn by simp]
        repeat (first|refine AL.do tok rfl rfl ?_|refine AL.nil ?_|refine AW.seq fun K hK => ?_|refine AW.region ?_|refine AL.no rfl rfl ?_|(refine hK _ ?_; clear hK)|(clear hK; refine hK _ ?_; clear hK)|(clear hK; clear hK; refine hK _ ?_; clear hK)|refine qaW ?_|refine qa1 tok ?_|refine qa2 tok ?_|refine qa3 tok ?_|refine AL.loadR tok rfl rfl rfl rfl rfl rfl ?_|refine qa4 tok ?_|refine qa5 tok ?_|refine AW.block ?_|refine AW.exit ?_|refine AW.skip ?_)
        refine hK1 _ (i + 1, n', a ++ [⟨l[i].d, m⟩], cut) ⟨by show i + 1 ≤ l.length; omega, ⟨hnk, ?_, by simp; omega, ?_⟩⟩ (by show l.length - (i + 1) < l.length - i; omega) ?_
        · rw [e]
          exact hv.mw.put q7 (mod50 _) hc33
        · rw [e]
          exact hv.o.send _ _ m (by omega)
        · (refine Imp.weakP (fun k => if k = 1 then 4 else if k = 2 then 6 else k) (fun j k h1 h2 h => by by_cases e0 : j = 1 <;> by_cases f0 : k = 1 <;> by_cases e1 : j = 2 <;> by_cases f1 : k = 2 <;> simp [*] at h <;> omega) (by first|(simp only [List.map_cons, List.map_nil, net_rn]; done)|(simp only [List.map_cons, List.map_nil, net_rn]; rfl)) (by first|exact (rfl : List.all [] _ = true)|(simp only [List.all_cons, List.all_nil, Bool.and_true]; exact net_lt _ _ _ (by decide))|(rw [List.all_cons, net_lt _ _ _ (by decide)]; rfl)) ?_ ?_ <;> (repeat' (first|exact trivial|exact net_lt _ _ _ (by decide)|(rw [net_rn]; rfl)|exact Nat.lt_of_lt_of_le (Nat.lt_succ_self _) (Nat.le_of_ble_eq_true rfl)|exact rfl|exact Or.inl ⟨rfl, rfl⟩|exact Or.inr ⟨rfl, LF.fn _ _ ‹_›⟩|refine ⟨?_, ?_⟩)))
      · subst e
        have hmore : moreS n' l[i] = 0 := by rw [hms]; omega
        rw [hmore]
        refine AW.condF rfl ?_
        repeat (first|refine AL.do tok rfl rfl ?_|refine AL.nil ?_|refine AW.seq fun K hK => ?_|refine AW.region ?_|refine AL.no rfl rfl ?_|(refine hK _ ?_; clear hK)|(clear hK; refine hK _ ?_; clear hK)|(clear hK; clear hK; refine hK _ ?_; clear hK)|refine qaW ?_|refine qa1 tok ?_|refine qa2 tok ?_|refine qa3 tok ?_|refine AL.loadR tok rfl rfl rfl rfl rfl rfl ?_|refine qa4 tok ?_|refine qa5 tok ?_|refine AW.block ?_|refine AW.exit ?_|refine AW.skip ?_)
        refine hK1 _ (i + 1, n', a, cut) ⟨by show i + 1 ≤ l.length; omega, ⟨hnk, hv.mw, by show a.length ≤ i + 1; omega, hv.o⟩⟩ (by show l.length - (i + 1) < l.length - i; omega) ?_
        (refine Imp.weakP (fun k => if k = 1 then 4 else k) (fun j k h1 h2 h => by by_cases e0 : j = 1 <;> by_cases f0 : k = 1 <;> simp [*] at h <;> omega) (by first|(simp only [List.map_cons, List.map_nil, net_rn]; done)|(simp only [List.map_cons, List.map_nil, net_rn]; rfl)) (by first|exact (rfl : List.all [] _ = true)|(simp only [List.all_cons, List.all_nil, Bool.and_true]; exact net_lt _ _ _ (by decide))|(rw [List.all_cons, net_lt _ _ _ (by decide)]; rfl)) ?_ ?_ <;> (repeat' (first|exact trivial|exact net_lt _ _ _ (by decide)|(rw [net_rn]; rfl)|exact Nat.lt_of_lt_of_le (Nat.lt_succ_self _) (Nat.le_of_ble_eq_true rfl)|exact rfl|exact Or.inl ⟨rfl, rfl⟩|exact Or.inr ⟨rfl, LF.fn _ _ ‹_›⟩|refine ⟨?_, ?_⟩)))
    · repeat (first|refine AL.do tok rfl rfl ?_|refine AL.nil ?_|refine AW.seq fun K hK => ?_|refine AW.region ?_|refine AL.no rfl rfl ?_|(refine hK _ ?_; clear hK)|(clear hK; refine hK _ ?_; clear hK)|(clear hK; clear hK; refine hK _ ?_; clear hK)|refine qaW ?_|refine qa1 tok ?_|refine qa2 tok ?_|refine qa3 tok ?_|refine AL.loadR tok rfl rfl rfl rfl rfl rfl ?_|refine qa4 tok ?_|refine qa5 tok ?_|refine AW.block ?_|refine AW.exit ?_|refine AW.skip ?_)
      refine AW.cond rfl (fun hk2 => ?_) (fun hk2 => ?_)
      · repeat (first|refine AL.do tok rfl rfl ?_|refine AL.nil ?_|refine AW.seq fun K hK => ?_|refine AW.region ?_|refine AL.no rfl rfl ?_|(refine hK _ ?_; clear hK)|(clear hK; refine hK _ ?_; clear hK)|(clear hK; clear hK; refine hK _ ?_; clear hK)|refine qaW ?_|refine qa1 tok ?_|refine qa2 tok ?_|refine qa3 tok ?_|refine AL.loadR tok rfl rfl rfl rfl rfl rfl ?_|refine qa4 tok ?_|refine qa5 tok ?_|refine AW.block ?_|refine AW.exit ?_|refine AW.skip ?_)
        refine AL.callArr (.loc 0) (.loc 2) 1 har rfl rfl rfl rfl rfl rfl (by decide) (by decide) (by decide) rfl rfl ?_
        repeat (first|refine AL.do tok rfl rfl ?_|refine AL.nil ?_|refine AW.seq fun K hK => ?_|refine AW.region ?_|refine AL.no rfl rfl ?_|(refine hK _ ?_; clear hK)|(clear hK; refine hK _ ?_; clear hK)|(clear hK; clear hK; refine hK _ ?_; clear hK)|refine qaW ?_|refine qa1 tok ?_|refine qa2 tok ?_|refine qa3 tok ?_|refine AL.loadR tok rfl rfl rfl rfl rfl rfl ?_|refine qa4 tok ?_|refine qa5 tok ?_|refine AW.block ?_|refine AW.exit ?_|refine AW.skip ?_)
        refine AW.condF rfl ?_
        repeat (first|refine AL.do tok rfl rfl ?_|refine AL.nil ?_|refine AW.seq fun K hK => ?_|refine AW.region ?_|refine AL.no rfl rfl ?_|(refine hK _ ?_; clear hK)|(clear hK; refine hK _ ?_; clear hK)|(clear hK; clear hK; refine hK _ ?_; clear hK)|refine qaW ?_|refine qa1 tok ?_|refine qa2 tok ?_|refine qa3 tok ?_|refine AL.loadR tok rfl rfl rfl rfl rfl rfl ?_|refine qa4 tok ?_|refine qa5 tok ?_|refine AW.block ?_|refine AW.exit ?_|refine AW.skip ?_)
        refine hK1 _ (i + 1, stepS n, a', cut) ⟨by show i + 1 ≤ l.length; omega, ⟨hv.ok.step, (hv.mw.step).mono (by decide), by show a'.length ≤ i + 1; omega, ho'⟩⟩ (by show l.length - (i + 1) < l.length - i; omega) ?_
        (refine Imp.weakP (fun k => if k = 1 then 4 else k) (fun j k h1 h2 h => by by_cases e0 : j = 1 <;> by_cases f0 : k = 1 <;> simp [*] at h <;> omega) (by first|(simp only [List.map_cons, List.map_nil, net_rn]; done)|(simp only [List.map_cons, List.map_nil, net_rn]; rfl)) (by first|exact (rfl : List.all [] _ = true)|(simp only [List.all_cons, List.all_nil, Bool.and_true]; exact net_lt _ _ _ (by decide))|(rw [List.all_cons, net_lt _ _ _ (by decide)]; rfl)) ?_ ?_ <;> (repeat' (first|exact trivial|exact net_lt _ _ _ (by decide)|(rw [net_rn]; rfl)|exact Nat.lt_of_lt_of_le (Nat.lt_succ_self _) (Nat.le_of_ble_eq_true rfl)|exact rfl|exact Or.inl ⟨rfl, rfl⟩|exact Or.inr ⟨rfl, LF.fn _ _ ‹_›⟩|refine ⟨?_, ?_⟩)))
      · repeat (first|refine AL.do tok rfl rfl ?_|refine AL.nil ?_|refine AW.seq fun K hK => ?_|refine AW.region ?_|refine AL.no rfl rfl ?_|(refine hK _ ?_; clear hK)|(clear hK; refine hK _ ?_; clear hK)|(clear hK; clear hK; refine hK _ ?_; clear hK)|refine qaW ?_|refine qa1 tok ?_|refine qa2 tok ?_|refine qa3 tok ?_|refine AL.loadR tok rfl rfl rfl rfl rfl rfl ?_|refine qa4 tok ?_|refine qa5 tok ?_|refine AW.block ?_|refine AW.exit ?_|refine AW.skip ?_)
        refine AW.cond rfl (fun hk3 => ?_) (fun hk3 => ?_)
        · repeat (first|refine AL.do tok rfl rfl ?_|refine AL.nil ?_|refine AW.seq fun K hK => ?_|refine AW.region ?_|refine AL.no rfl rfl ?_|(refine hK _ ?_; clear hK)|(clear hK; refine hK _ ?_; clear hK)|(clear hK; clear hK; refine hK _ ?_; clear hK)|refine qaW ?_|refine qa1 tok ?_|refine qa2 tok ?_|refine qa3 tok ?_|refine AL.loadR tok rfl rfl rfl rfl rfl rfl ?_|refine qa4 tok ?_|refine qa5 tok ?_|refine AW.block ?_|refine AW.exit ?_|refine AW.skip ?_)
          refine AL.callNet (.loc 0) 1 (hcu) rfl rfl rfl rfl rfl (by decide) rfl rfl rfl rfl rfl rfl ?_
          repeat (first|refine AL.do tok rfl rfl ?_|refine AL.nil ?_|refine AW.seq fun K hK => ?_|refine AW.region ?_|refine AL.no rfl rfl ?_|(refine hK _ ?_; clear hK)|(clear hK; refine hK _ ?_; clear hK)|(clear hK; clear hK; refine hK _ ?_; clear hK)|refine qaW ?_|refine qa1 tok ?_|refine qa2 tok ?_|refine qa3 tok ?_|refine AL.loadR tok rfl rfl rfl rfl rfl rfl ?_|refine qa4 tok ?_|refine qa5 tok ?_|refine AW.block ?_|refine AW.exit ?_|refine AW.skip ?_)
          have hck := hv.ok.cutC l[i].a l[i].b
          cases hp : pairS n l[i].a l[i].b with
          | true =>
            have e1 : mendE n l[i].a l[i].b = 0 := by unfold mendE; rw [if_pos hp]
            have e2 : (cutS n l[i].a l[i].b).way = n.way.filter fun x => !onL l[i].a l[i].b x := by unfold cutS; rw [if_pos hp]
            rw [e1]
            generalize cutS n l[i].a l[i].b = n' at *
            refine AW.condT rfl ?_
            repeat (first|refine AL.do tok rfl rfl ?_|refine AL.nil ?_|refine AW.seq fun K hK => ?_|refine AW.region ?_|refine AL.no rfl rfl ?_|(refine hK _ ?_; clear hK)|(clear hK; refine hK _ ?_; clear hK)|(clear hK; clear hK; refine hK _ ?_; clear hK)|refine qaW ?_|refine qa1 tok ?_|refine qa2 tok ?_|refine qa3 tok ?_|refine AL.loadR tok rfl rfl rfl rfl rfl rfl ?_|refine qa4 tok ?_|refine qa5 tok ?_|refine AW.block ?_|refine AW.exit ?_|refine AW.skip ?_)
            refine hK1 _ (i + 1, n', a, true) ⟨by show i + 1 ≤ l.length; omega, ⟨hck, by rw [e2]; exact hv.mw.filter _, by show a.length ≤ i + 1; omega, by rw [e2]; exact hv.o.cut _⟩⟩ (by show l.length - (i + 1) < l.length - i; omega) ?_
            (refine Imp.weakP (fun k => if k = 1 then 4 else k) (fun j k h1 h2 h => by by_cases e0 : j = 1 <;> by_cases f0 : k = 1 <;> simp [*] at h <;> omega) (by first|(simp only [List.map_cons, List.map_nil, net_rn]; done)|(simp only [List.map_cons, List.map_nil, net_rn]; rfl)) (by first|exact (rfl : List.all [] _ = true)|(simp only [List.all_cons, List.all_nil, Bool.and_true]; exact net_lt _ _ _ (by decide))|(rw [List.all_cons, net_lt _ _ _ (by decide)]; rfl)) ?_ ?_ <;> (repeat' (first|exact trivial|exact net_lt _ _ _ (by decide)|(rw [net_rn]; rfl)|exact Nat.lt_of_lt_of_le (Nat.lt_succ_self _) (Nat.le_of_ble_eq_true rfl)|exact rfl|exact Or.inl ⟨rfl, rfl⟩|exact Or.inr ⟨rfl, LF.fn _ _ ‹_›⟩|refine ⟨?_, ?_⟩)))
          | false =>
            have e1 : mendE n l[i].a l[i].b = 1 := by unfold mendE; rw [if_neg (by rw [hp]; decide)]
            have e2 : cutS n l[i].a l[i].b = n := by unfold cutS; rw [if_neg (by rw [hp]; decide)]
            rw [e1, e2]
            refine AW.condF rfl ?_
            repeat (first|refine AL.do tok rfl rfl ?_|refine AL.nil ?_|refine AW.seq fun K hK => ?_|refine AW.region ?_|refine AL.no rfl rfl ?_|(refine hK _ ?_; clear hK)|(clear hK; refine hK _ ?_; clear hK)|(clear hK; clear hK; refine hK _ ?_; clear hK)|refine qaW ?_|refine qa1 tok ?_|refine qa2 tok ?_|refine qa3 tok ?_|refine AL.loadR tok rfl rfl rfl rfl rfl rfl ?_|refine qa4 tok ?_|refine qa5 tok ?_|refine AW.block ?_|refine AW.exit ?_|refine AW.skip ?_)
            refine hK1 _ (i + 1, n, a, cut) ⟨by show i + 1 ≤ l.length; omega, ⟨hv.ok, hv.mw, by show a.length ≤ i + 1; omega, hv.o⟩⟩ (by show l.length - (i + 1) < l.length - i; omega) ?_
            (refine Imp.weakP (fun k => if k = 1 then 4 else k) (fun j k h1 h2 h => by by_cases e0 : j = 1 <;> by_cases f0 : k = 1 <;> simp [*] at h <;> omega) (by first|(simp only [List.map_cons, List.map_nil, net_rn]; done)|(simp only [List.map_cons, List.map_nil, net_rn]; rfl)) (by first|exact (rfl : List.all [] _ = true)|(simp only [List.all_cons, List.all_nil, Bool.and_true]; exact net_lt _ _ _ (by decide))|(rw [List.all_cons, net_lt _ _ _ (by decide)]; rfl)) ?_ ?_ <;> (repeat' (first|exact trivial|exact net_lt _ _ _ (by decide)|(rw [net_rn]; rfl)|exact Nat.lt_of_lt_of_le (Nat.lt_succ_self _) (Nat.le_of_ble_eq_true rfl)|exact rfl|exact Or.inl ⟨rfl, rfl⟩|exact Or.inr ⟨rfl, LF.fn _ _ ‹_›⟩|refine ⟨?_, ?_⟩)))
        · repeat (first|refine AL.do tok rfl rfl ?_|refine AL.nil ?_|refine AW.seq fun K hK => ?_|refine AW.region ?_|refine AL.no rfl rfl ?_|(refine hK _ ?_; clear hK)|(clear hK; refine hK _ ?_; clear hK)|(clear hK; clear hK; refine hK _ ?_; clear hK)|refine qaW ?_|refine qa1 tok ?_|refine qa2 tok ?_|refine qa3 tok ?_|refine AL.loadR tok rfl rfl rfl rfl rfl rfl ?_|refine qa4 tok ?_|refine qa5 tok ?_|refine AW.block ?_|refine AW.exit ?_|refine AW.skip ?_)
          refine AL.callNet (.loc 0) 1 (hme) rfl rfl rfl rfl rfl (by decide) rfl rfl rfl rfl rfl rfl ?_
          repeat (first|refine AL.do tok rfl rfl ?_|refine AL.nil ?_|refine AW.seq fun K hK => ?_|refine AW.region ?_|refine AL.no rfl rfl ?_|(refine hK _ ?_; clear hK)|(clear hK; refine hK _ ?_; clear hK)|(clear hK; clear hK; refine hK _ ?_; clear hK)|refine qaW ?_|refine qa1 tok ?_|refine qa2 tok ?_|refine qa3 tok ?_|refine AL.loadR tok rfl rfl rfl rfl rfl rfl ?_|refine qa4 tok ?_|refine qa5 tok ?_|refine AW.block ?_|refine AW.exit ?_|refine AW.skip ?_)
          have hmk := hv.ok.mend l[i].a l[i].b
          have e2 : (mendS n l[i].a l[i].b).way = n.way := by unfold mendS; split <;> rfl
          generalize mendS n l[i].a l[i].b = n' at *
          refine hK1 _ (i + 1, n', a, cut) ⟨by show i + 1 ≤ l.length; omega, ⟨hmk, by rw [e2]; exact hv.mw, by show a.length ≤ i + 1; omega, by rw [e2]; exact hv.o⟩⟩ (by show l.length - (i + 1) < l.length - i; omega) ?_
          (refine Imp.weakP (fun k => if k = 1 then 4 else k) (fun j k h1 h2 h => by by_cases e0 : j = 1 <;> by_cases f0 : k = 1 <;> simp [*] at h <;> omega) (by first|(simp only [List.map_cons, List.map_nil, net_rn]; done)|(simp only [List.map_cons, List.map_nil, net_rn]; rfl)) (by first|exact (rfl : List.all [] _ = true)|(simp only [List.all_cons, List.all_nil, Bool.and_true]; exact net_lt _ _ _ (by decide))|(rw [List.all_cons, net_lt _ _ _ (by decide)]; rfl)) ?_ ?_ <;> (repeat' (first|exact trivial|exact net_lt _ _ _ (by decide)|(rw [net_rn]; rfl)|exact Nat.lt_of_lt_of_le (Nat.lt_succ_self _) (Nat.le_of_ble_eq_true rfl)|exact rfl|exact Or.inl ⟨rfl, rfl⟩|exact Or.inr ⟨rfl, LF.fn _ _ ‹_›⟩|refine ⟨?_, ?_⟩)))
  · obtain rfl : i = l.length := by omega
    repeat (first|refine AL.do tok rfl rfl ?_|refine AL.nil ?_|refine AW.seq fun K hK => ?_|refine AW.region ?_|refine AL.no rfl rfl ?_|(refine hK _ ?_; clear hK)|(clear hK; refine hK _ ?_; clear hK)|(clear hK; clear hK; refine hK _ ?_; clear hK)|refine qaW ?_|refine qa1 tok ?_|refine qa2 tok ?_|refine qa3 tok ?_|refine AL.loadR tok rfl rfl rfl rfl rfl rfl ?_|refine qa4 tok ?_|refine qa5 tok ?_|refine AW.block ?_|refine AW.exit ?_|refine AW.skip ?_)
    refine AW.cond rfl (fun hg => by simp at hg) (fun hg => ?_)
    repeat (first|refine AL.do tok rfl rfl ?_|refine AL.nil ?_|refine AW.seq fun K hK => ?_|refine AW.region ?_|refine AL.no rfl rfl ?_|(refine hK _ ?_; clear hK)|(clear hK; refine hK _ ?_; clear hK)|(clear hK; clear hK; refine hK _ ?_; clear hK)|refine qaW ?_|refine qa1 tok ?_|refine qa2 tok ?_|refine qa3 tok ?_|refine AL.loadR tok rfl rfl rfl rfl rfl rfl ?_|refine qa4 tok ?_|refine qa5 tok ?_|refine AW.block ?_|refine AW.exit ?_|refine AW.skip ?_)
    refine AW.loop (ι := Nat × Nt × List Sn) (fun s => ⟨116, [(86, i64 s.1), (5, .ptr (.loc 0) 0), (7, .own (.loc 2)), (8, bo cut)], [(0, some (netB s.2.1 (.own (.loc 1)))), (1, some (wayR s.2.1).blk), (2, some (rowS s.2.2))], [], 3⟩)
      (fun s => s.1 ≤ 90 ∧ OkN s.2.1 ∧ MaxW (82 - s.1) s.2.1.way ∧ s.2.2.length ≤ 120 ∧ InvO cut s.2.2 s.2.1.way) (fun s => 90 - s.1) (0, n, a) ⟨Nat.zero_le _, hv.ok, hv.mw, by show a.length ≤ 120; omega, hv.o⟩ ?_ ?_
    · (refine Imp.weakP id (fun _ _ _ _ h => h) (by first|(simp only [List.map_cons, List.map_nil, net_rn]; done)|(simp only [List.map_cons, List.map_nil, net_rn]; rfl)) (by first|exact (rfl : List.all [] _ = true)|(simp only [List.all_cons, List.all_nil, Bool.and_true]; exact net_lt _ _ _ (by decide))|(rw [List.all_cons, net_lt _ _ _ (by decide)]; rfl)) ?_ ?_ <;> (repeat' (first|exact trivial|exact net_lt _ _ _ (by decide)|(rw [net_rn]; rfl)|exact Nat.lt_of_lt_of_le (Nat.lt_succ_self _) (Nat.le_of_ble_eq_true rfl)|exact rfl|exact Or.inl ⟨rfl, rfl⟩|exact Or.inr ⟨rfl, LF.fn _ _ ‹_›⟩|refine ⟨?_, ?_⟩)))
    clear hv ham hal
    rintro ⟨j, n, a⟩ ⟨hj, hok, hmw, hal, ho⟩ K2 hK2
    dsimp only at hj hok hmw hal ho ⊢
    have ham : (a.map encSn).length = a.length := List.length_map ..
    by_cases hlt : j < 90
    · obtain ⟨a', hde, ho', hal'⟩ := ho.step
      have har : ACallArr n a (stepS n) a' := arrived_calls n a a' hok.cut (hmw.okWay hok (by omega)) hde (by omega) (fun s hs => by have := ho.mx s hs; omega)
      repeat (first|refine AL.do tok rfl rfl ?_|refine AL.nil ?_|refine AW.seq fun K hK => ?_|refine AW.region ?_|refine AL.no rfl rfl ?_|(refine hK _ ?_; clear hK)|(clear hK; refine hK _ ?_; clear hK)|(clear hK; clear hK; refine hK _ ?_; clear hK)|refine qaW ?_|refine qa1 tok ?_|refine qa2 tok ?_|refine qa3 tok ?_|refine AL.loadR tok rfl rfl rfl rfl rfl rfl ?_|refine qa4 tok ?_|refine qa5 tok ?_|refine AW.block ?_|refine AW.exit ?_|refine AW.skip ?_)
      refine AW.cond rfl (fun hg => ?_) (fun hg => by simp at hg; omega)
      repeat (first|refine AL.do tok rfl rfl ?_|refine AL.nil ?_|refine AW.seq fun K hK => ?_|refine AW.region ?_|refine AL.no rfl rfl ?_|(refine hK _ ?_; clear hK)|(clear hK; refine hK _ ?_; clear hK)|(clear hK; clear hK; refine hK _ ?_; clear hK)|refine qaW ?_|refine qa1 tok ?_|refine qa2 tok ?_|refine qa3 tok ?_|refine AL.loadR tok rfl rfl rfl rfl rfl rfl ?_|refine qa4 tok ?_|refine qa5 tok ?_|refine AW.block ?_|refine AW.exit ?_|refine AW.skip ?_)
      refine AL.callArr (.loc 0) (.loc 2) 1 har rfl rfl rfl rfl rfl rfl (by decide) (by decide) (by decide) rfl rfl ?_
      repeat (first|refine AL.do tok rfl rfl ?_|refine AL.nil ?_|refine AW.seq fun K hK => ?_|refine AW.region ?_|refine AL.no rfl rfl ?_|(refine hK _ ?_; clear hK)|(clear hK; refine hK _ ?_; clear hK)|(clear hK; clear hK; refine hK _ ?_; clear hK)|refine qaW ?_|refine qa1 tok ?_|refine qa2 tok ?_|refine qa3 tok ?_|refine AL.loadR tok rfl rfl rfl rfl rfl rfl ?_|refine qa4 tok ?_|refine qa5 tok ?_|refine AW.block ?_|refine AW.exit ?_|refine AW.skip ?_)
      refine AW.condF rfl ?_
      repeat (first|refine AL.do tok rfl rfl ?_|refine AL.nil ?_|refine AW.seq fun K hK => ?_|refine AW.region ?_|refine AL.no rfl rfl ?_|(refine hK _ ?_; clear hK)|(clear hK; refine hK _ ?_; clear hK)|(clear hK; clear hK; refine hK _ ?_; clear hK)|refine qaW ?_|refine qa1 tok ?_|refine qa2 tok ?_|refine qa3 tok ?_|refine AL.loadR tok rfl rfl rfl rfl rfl rfl ?_|refine qa4 tok ?_|refine qa5 tok ?_|refine AW.block ?_|refine AW.exit ?_|refine AW.skip ?_)
      refine hK2 _ (j + 1, stepS n, a') ⟨by show j + 1 ≤ 90; omega, hok.step, hmw.step.mono (by show (82 - (j : Int)) - 1 ≤ 82 - ((j + 1 : Nat) : Int); omega), by show a'.length ≤ 120; omega, ho'⟩ (by show 90 - (j + 1) < 90 - j; omega) ?_
      (refine Imp.weakP (fun k => if k = 1 then 3 else k) (fun j k h1 h2 h => by by_cases e0 : j = 1 <;> by_cases f0 : k = 1 <;> simp [*] at h <;> omega) (by first|(simp only [List.map_cons, List.map_nil, net_rn]; done)|(simp only [List.map_cons, List.map_nil, net_rn]; rfl)) (by first|exact (rfl : List.all [] _ = true)|(simp only [List.all_cons, List.all_nil, Bool.and_true]; exact net_lt _ _ _ (by decide))|(rw [List.all_cons, net_lt _ _ _ (by decide)]; rfl)) ?_ ?_ <;> (repeat' (first|exact trivial|exact net_lt _ _ _ (by decide)|(rw [net_rn]; rfl)|exact Nat.lt_of_lt_of_le (Nat.lt_succ_self _) (Nat.le_of_ble_eq_true rfl)|exact rfl|exact Or.inl ⟨rfl, rfl⟩|exact Or.inr ⟨rfl, LF.fn _ _ ‹_›⟩|refine ⟨?_, ?_⟩)))
    · obtain rfl : j = 90 := by omega
      have hnil : n.way = [] := hmw.nil (by decide)
      have hw0 := waiting_calls n hok.cut
      rw [hnil] at hw0 ho
      have hdone := ho.done
      repeat (first|refine AL.do tok rfl rfl ?_|refine AL.nil ?_|refine AW.seq fun K hK => ?_|refine AW.region ?_|refine AL.no rfl rfl ?_|(refine hK _ ?_; clear hK)|(clear hK; refine hK _ ?_; clear hK)|(clear hK; clear hK; refine hK _ ?_; clear hK)|refine qaW ?_|refine qa1 tok ?_|refine qa2 tok ?_|refine qa3 tok ?_|refine AL.loadR tok rfl rfl rfl rfl rfl rfl ?_|refine qa4 tok ?_|refine qa5 tok ?_|refine AW.block ?_|refine AW.exit ?_|refine AW.skip ?_)
      refine AW.cond rfl (fun hg => by simp at hg) (fun hg => ?_)
      repeat (first|refine AL.do tok rfl rfl ?_|refine AL.nil ?_|refine AW.seq fun K hK => ?_|refine AW.region ?_|refine AL.no rfl rfl ?_|(refine hK _ ?_; clear hK)|(clear hK; refine hK _ ?_; clear hK)|(clear hK; clear hK; refine hK _ ?_; clear hK)|refine qaW ?_|refine qa1 tok ?_|refine qa2 tok ?_|refine qa3 tok ?_|refine AL.loadR tok rfl rfl rfl rfl rfl rfl ?_|refine qa4 tok ?_|refine qa5 tok ?_|refine AW.block ?_|refine AW.exit ?_|refine AW.skip ?_)
      refine AL.callNet (.loc 0) 1 (hw0) rfl rfl rfl rfl rfl (by decide) rfl rfl rfl rfl rfl rfl ?_
      repeat (first|refine AL.do tok rfl rfl ?_|refine AL.nil ?_|refine AW.seq fun K hK => ?_|refine AW.region ?_|refine AL.no rfl rfl ?_|(refine hK _ ?_; clear hK)|(clear hK; refine hK _ ?_; clear hK)|(clear hK; clear hK; refine hK _ ?_; clear hK)|refine qaW ?_|refine qa1 tok ?_|refine qa2 tok ?_|refine qa3 tok ?_|refine AL.loadR tok rfl rfl rfl rfl rfl rfl ?_|refine qa4 tok ?_|refine qa5 tok ?_|refine AW.block ?_|refine AW.exit ?_|refine AW.skip ?_)
      refine AW.condF rfl ?_
      repeat (first|refine AL.do tok rfl rfl ?_|refine AL.nil ?_|refine AW.seq fun K hK => ?_|refine AW.region ?_|refine AL.no rfl rfl ?_|(refine hK _ ?_; clear hK)|(clear hK; refine hK _ ?_; clear hK)|(clear hK; clear hK; refine hK _ ?_; clear hK)|refine qaW ?_|refine qa1 tok ?_|refine qa2 tok ?_|refine qa3 tok ?_|refine AL.loadR tok rfl rfl rfl rfl rfl rfl ?_|refine qa4 tok ?_|refine qa5 tok ?_|refine AW.block ?_|refine AW.exit ?_|refine AW.skip ?_)
      simp only [ham]
      refine AW.loop (ι := Nat) (fun q => ⟨116, [(98, i64 q), (97, i64 a.length), (96, .own (.loc 2)), (8, bo cut)], [(2, some (rowS a))], [], 3⟩)
        (fun q => q ≤ a.length) (fun q => a.length - q) 0 (Nat.zero_le _) ?_ ?_
      · (refine Imp.weakP id (fun _ _ _ _ h => h) (by first|(simp only [List.map_cons, List.map_nil, net_rn]; done)|(simp only [List.map_cons, List.map_nil, net_rn]; rfl)) (by first|exact (rfl : List.all [] _ = true)|(simp only [List.all_cons, List.all_nil, Bool.and_true]; exact net_lt _ _ _ (by decide))|(rw [List.all_cons, net_lt _ _ _ (by decide)]; rfl)) ?_ ?_ <;> (repeat' (first|exact trivial|exact net_lt _ _ _ (by decide)|(rw [net_rn]; rfl)|exact Nat.lt_of_lt_of_le (Nat.lt_succ_self _) (Nat.le_of_ble_eq_true rfl)|exact rfl|exact Or.inl ⟨rfl, rfl⟩|exact Or.inr ⟨rfl, LF.fn _ _ ‹_›⟩|refine ⟨?_, ?_⟩)))
      rintro q hq K3 hK3
      by_cases hlq : q < a.length
      · obtain ⟨d1, d2⟩ := hdone a[q] (List.getElem_mem hlq)
        repeat (first|refine AL.do tok rfl rfl ?_|refine AL.nil ?_|refine AW.seq fun K hK => ?_|refine AW.region ?_|refine AL.no rfl rfl ?_|(refine hK _ ?_; clear hK)|(clear hK; refine hK _ ?_; clear hK)|(clear hK; clear hK; refine hK _ ?_; clear hK)|refine qaW ?_|refine qa1 tok ?_|refine qa2 tok ?_|refine qa3 tok ?_|refine AL.loadR tok rfl rfl rfl rfl rfl rfl ?_|refine qa4 tok ?_|refine qa5 tok ?_|refine AW.block ?_|refine AW.exit ?_|refine AW.skip ?_)
        refine AW.cond rfl (fun hg => ?_) (fun hg => by simp at hg; omega)
        cases cut with
        | true =>
          repeat' (first|refine AL.do tok rfl rfl ?_|refine AL.nil ?_|refine AW.seq fun K hK => ?_|refine AW.region ?_|refine AL.no rfl rfl ?_|(refine hK _ ?_; clear hK)|(clear hK; refine hK _ ?_; clear hK)|(clear hK; clear hK; refine hK _ ?_; clear hK)|refine qaW ?_|refine qa1 tok ?_|refine qa2 tok ?_|refine qa3 tok ?_|refine AL.loadR tok rfl rfl rfl rfl rfl rfl ?_|refine qa4 tok ?_|refine qa5 tok ?_|refine AW.block ?_|refine AW.exit ?_|refine AW.skip ?_|((fail_if_success (refine AL.guard (b := true) rfl rfl ?_ ?_)); (fail_if_success (refine AL.guard (b := false) rfl rfl ?_ ?_)); refine AL.guard rfl rfl (fun hg => ?_) (fun hg => ?_) <;> ((try simp only [DX] at hg) <;> (try first|(exfalso; omega)|exact absurd trivial hg|exact False.elim hg|exact absurd rfl hg)))|refine AW.condT rfl ?_|refine AW.condF rfl ?_|(refine AW.cond rfl (fun hg => ?_) (fun hg => ?_) <;> ((try simp only [DX] at hg) <;> (try first|(exfalso; omega)|exact absurd trivial hg|exact False.elim hg|exact absurd rfl hg))))
          all_goals
            refine hK3 _ (q + 1) (by omega) (by omega) ?_
            (refine Imp.weakP id (fun _ _ _ _ h => h) (by first|(simp only [List.map_cons, List.map_nil, net_rn]; done)|(simp only [List.map_cons, List.map_nil, net_rn]; rfl)) (by first|exact (rfl : List.all [] _ = true)|(simp only [List.all_cons, List.all_nil, Bool.and_true]; exact net_lt _ _ _ (by decide))|(rw [List.all_cons, net_lt _ _ _ (by decide)]; rfl)) ?_ ?_ <;> (repeat' (first|exact trivial|exact net_lt _ _ _ (by decide)|(rw [net_rn]; rfl)|exact Nat.lt_of_lt_of_le (Nat.lt_succ_self _) (Nat.le_of_ble_eq_true rfl)|exact rfl|exact Or.inl ⟨rfl, rfl⟩|exact Or.inr ⟨rfl, LF.fn _ _ ‹_›⟩|refine ⟨?_, ?_⟩)))
        | false =>
          have d3 := d2 rfl
          repeat' (first|refine AL.do tok rfl rfl ?_|refine AL.nil ?_|refine AW.seq fun K hK => ?_|refine AW.region ?_|refine AL.no rfl rfl ?_|(refine hK _ ?_; clear hK)|(clear hK; refine hK _ ?_; clear hK)|(clear hK; clear hK; refine hK _ ?_; clear hK)|refine qaW ?_|refine qa1 tok ?_|refine qa2 tok ?_|refine qa3 tok ?_|refine AL.loadR tok rfl rfl rfl rfl rfl rfl ?_|refine qa4 tok ?_|refine qa5 tok ?_|refine AW.block ?_|refine AW.exit ?_|refine AW.skip ?_|((fail_if_success (refine AL.guard (b := true) rfl rfl ?_ ?_)); (fail_if_success (refine AL.guard (b := false) rfl rfl ?_ ?_)); refine AL.guard rfl rfl (fun hg => ?_) (fun hg => ?_) <;> ((try simp only [DX] at hg) <;> (try first|(exfalso; omega)|exact absurd trivial hg|exact False.elim hg|exact absurd rfl hg)))|refine AW.condT rfl ?_|refine AW.condF rfl ?_|(refine AW.cond rfl (fun hg => ?_) (fun hg => ?_) <;> ((try simp only [DX] at hg) <;> (try first|(exfalso; omega)|exact absurd trivial hg|exact False.elim hg|exact absurd rfl hg))))
          all_goals
            refine hK3 _ (q + 1) (by omega) (by omega) ?_
            (refine Imp.weakP id (fun _ _ _ _ h => h) (by first|(simp only [List.map_cons, List.map_nil, net_rn]; done)|(simp only [List.map_cons, List.map_nil, net_rn]; rfl)) (by first|exact (rfl : List.all [] _ = true)|(simp only [List.all_cons, List.all_nil, Bool.and_true]; exact net_lt _ _ _ (by decide))|(rw [List.all_cons, net_lt _ _ _ (by decide)]; rfl)) ?_ ?_ <;> (repeat' (first|exact trivial|exact net_lt _ _ _ (by decide)|(rw [net_rn]; rfl)|exact Nat.lt_of_lt_of_le (Nat.lt_succ_self _) (Nat.le_of_ble_eq_true rfl)|exact rfl|exact Or.inl ⟨rfl, rfl⟩|exact Or.inr ⟨rfl, LF.fn _ _ ‹_›⟩|refine ⟨?_, ?_⟩)))
      · obtain rfl : q = a.length := by omega
        repeat (first|refine AL.do tok rfl rfl ?_|refine AL.nil ?_|refine AW.seq fun K hK => ?_|refine AW.region ?_|refine AL.no rfl rfl ?_|(refine hK _ ?_; clear hK)|(clear hK; refine hK _ ?_; clear hK)|(clear hK; clear hK; refine hK _ ?_; clear hK)|refine qaW ?_|refine qa1 tok ?_|refine qa2 tok ?_|refine qa3 tok ?_|refine AL.loadR tok rfl rfl rfl rfl rfl rfl ?_|refine qa4 tok ?_|refine qa5 tok ?_|refine AW.block ?_|refine AW.exit ?_|refine AW.skip ?_)
        refine AW.cond rfl (fun hg => by simp at hg) (fun hg => ?_)
        repeat (first|refine AL.do tok rfl rfl ?_|refine AL.nil ?_|refine AW.seq fun K hK => ?_|refine AW.region ?_|refine AL.no rfl rfl ?_|(refine hK _ ?_; clear hK)|(clear hK; refine hK _ ?_; clear hK)|(clear hK; clear hK; refine hK _ ?_; clear hK)|refine qaW ?_|refine qa1 tok ?_|refine qa2 tok ?_|refine qa3 tok ?_|refine AL.loadR tok rfl rfl rfl rfl rfl rfl ?_|refine qa4 tok ?_|refine qa5 tok ?_|refine AW.block ?_|refine AW.exit ?_|refine AW.skip ?_|refine qc1 (ke ..) ?_|refine qc2 (ke ..) ?_)
        refine AW.ret ?_
        refine ⟨_, _, _, _, rfl, Out.pure rfl ⟨?_, rfl⟩ rfl⟩
        rfl
end Go.Proofs.Try
