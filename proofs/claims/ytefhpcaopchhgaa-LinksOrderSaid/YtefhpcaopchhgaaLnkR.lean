/- links: the reference: Send, Step. -/
import Derived.Test.YtefhpcaopchhgaaLnkQ
import Derived.Test.YtefhpcaopchhgaaAMD
import Derived.Test.YtefhpcaopchhgaaWk
set_option linter.unusedSimpArgs false
set_option linter.unusedVariables false
namespace Go.Proofs.Try
open Go Go.AM

def sendER (s : Rs) (d : Dg) (f : Fa) : Int :=
  if linkB s.nodes d.src d.dst = false then 1 else if ¬ d.bytes.length ≤ 65536 then 5 else if ¬ okF f then 1 else if f.drop = true ∨ upR s d.src d.dst = false then 0 else if ¬ (s.way.length : Int) + 1 + f.copies ≤ 4096 then 6 else 0
def putM (l : List It) (d : Dg) (f : Fa) (now : Int) : Nat → List It
  | 0 => l
  | k + 1 => putM l d f now k ++ [⟨now + 1 + f.delay + k, d⟩]
def sendSR (s : Rs) (d : Dg) (f : Fa) : Rs := if sendER s d f = 0 ∧ f.drop = false ∧ upR s d.src d.dst = true then { s with way := putM s.way d f s.now (f.copies.toNat + 1) } else s
theorem putM_len (l : List It) (d : Dg) (f : Fa) (now : Int) : ∀ k, (putM l d f now k).length = l.length + k
  | 0 => rfl
  | k + 1 => by rw [putM, List.length_append, putM_len l d f now k]; rfl
theorem putM_succ (l : List It) (d : Dg) (f : Fa) (now : Int) (k : Nat) : (putM l d f now k).map encIt ++ [encIt ⟨now + 1 + f.delay + k, d⟩] = (putM l d f now (k + 1)).map encIt := by
  rw [putM, List.map_append]
  rfl
set_option maxHeartbeats 8000000 in
set_option maxRecDepth 10000 in
theorem cloneM_calls (l : List It) (hl : l.length ≤ 1000000) : ACallO Try.prog 33 [rowM l] 84 4 (· = l.map encIt) := by
  refine ACalls.body tok Try.func33 rfl (by kernel_rfl) (by rw [Try.ntmps33]; simp) ?_
  simp only [Try.ntmps33, Try.results33, argT]
  repeat (first|refine AL.do tok rfl rfl ?_|refine AL.nil ?_|refine AW.seq fun K hK => ?_|refine AW.region ?_|refine AL.no rfl rfl ?_|(refine hK _ ?_; clear hK)|(clear hK; refine hK _ ?_; clear hK)|(clear hK; clear hK; refine hK _ ?_; clear hK)|refine qaW ?_|refine qa1 tok ?_|refine qa2 tok ?_|refine qa3 tok ?_|refine AL.loadR tok rfl rfl rfl rfl rfl rfl ?_|refine qa4 tok ?_|refine qa5 tok ?_|refine AW.block ?_|refine AW.exit ?_|refine AW.skip ?_)
  refine AL.eqNil tok rfl rfl rfl rfl rfl rfl (fun b hb => ?_)
  repeat (first|refine AL.do tok rfl rfl ?_|refine AL.nil ?_|refine AW.seq fun K hK => ?_|refine AW.region ?_|refine AL.no rfl rfl ?_|(refine hK _ ?_; clear hK)|(clear hK; refine hK _ ?_; clear hK)|(clear hK; clear hK; refine hK _ ?_; clear hK)|refine qaW ?_|refine qa1 tok ?_|refine qa2 tok ?_|refine qa3 tok ?_|refine AL.loadR tok rfl rfl rfl rfl rfl rfl ?_|refine qa4 tok ?_|refine qa5 tok ?_|refine AW.block ?_|refine AW.exit ?_|refine AW.skip ?_)
  refine AW.cond rfl (fun hg => ?_) (fun hg => ?_)
  · repeat (first|refine AL.do tok rfl rfl ?_|refine AL.nil ?_|refine AW.seq fun K hK => ?_|refine AW.region ?_|refine AL.no rfl rfl ?_|(refine hK _ ?_; clear hK)|(clear hK; refine hK _ ?_; clear hK)|(clear hK; clear hK; refine hK _ ?_; clear hK)|refine qaW ?_|refine qa1 tok ?_|refine qa2 tok ?_|refine qa3 tok ?_|refine AL.loadR tok rfl rfl rfl rfl rfl rfl ?_|refine qa4 tok ?_|refine qa5 tok ?_|refine AW.block ?_|refine AW.exit ?_|refine AW.skip ?_)
    refine AW.nilOwn 2 84 4 rfl ?_
    refine AW.ret ?_
    refine ⟨_, _, _, _, rfl, Out.row rfl ⟨_, ?_, rfl, rfl⟩ rfl⟩
    exact (hb hg).symm
  · repeat (first|refine AL.do tok rfl rfl ?_|refine AL.nil ?_|refine AW.seq fun K hK => ?_|refine AW.region ?_|refine AL.no rfl rfl ?_|(refine hK _ ?_; clear hK)|(clear hK; refine hK _ ?_; clear hK)|(clear hK; clear hK; refine hK _ ?_; clear hK)|refine qaW ?_|refine qa1 tok ?_|refine qa2 tok ?_|refine qa3 tok ?_|refine AL.loadR tok rfl rfl rfl rfl rfl rfl ?_|refine qa4 tok ?_|refine qa5 tok ?_|refine AW.block ?_|refine AW.exit ?_|refine AW.skip ?_)
    refine qa6 tok ?_
    simp only [List.nil_append]
    repeat (first|refine AL.do tok rfl rfl ?_|refine AL.nil ?_|refine AW.seq fun K hK => ?_|refine AW.region ?_|refine AL.no rfl rfl ?_|(refine hK _ ?_; clear hK)|(clear hK; refine hK _ ?_; clear hK)|(clear hK; clear hK; refine hK _ ?_; clear hK)|refine qaW ?_|refine qa1 tok ?_|refine qa2 tok ?_|refine qa3 tok ?_|refine AL.loadR tok rfl rfl rfl rfl rfl rfl ?_|refine qa4 tok ?_|refine qa5 tok ?_|refine AW.block ?_|refine AW.exit ?_|refine AW.skip ?_)
    refine AW.ret ?_
    refine ⟨_, _, _, _, rfl, Out.row rfl ⟨_, ?_, rfl, rfl⟩ rfl⟩
    rfl
set_option maxHeartbeats 8000000 in
set_option maxRecDepth 10000 in
theorem cloneC_calls (l : List (Int × Int)) (hl : l.length ≤ 1000000) : ACallO Try.prog 35 [rowC l] 79 2 (· = l.map encC) := by
  refine ACalls.body tok Try.func35 rfl (by kernel_rfl) (by rw [Try.ntmps35]; simp) ?_
  simp only [Try.ntmps35, Try.results35, argT]
  repeat (first|refine AL.do tok rfl rfl ?_|refine AL.nil ?_|refine AW.seq fun K hK => ?_|refine AW.region ?_|refine AL.no rfl rfl ?_|(refine hK _ ?_; clear hK)|(clear hK; refine hK _ ?_; clear hK)|(clear hK; clear hK; refine hK _ ?_; clear hK)|refine qaW ?_|refine qa1 tok ?_|refine qa2 tok ?_|refine qa3 tok ?_|refine AL.loadR tok rfl rfl rfl rfl rfl rfl ?_|refine qa4 tok ?_|refine qa5 tok ?_|refine AW.block ?_|refine AW.exit ?_|refine AW.skip ?_)
  refine AL.eqNil tok rfl rfl rfl rfl rfl rfl (fun b hb => ?_)
  repeat (first|refine AL.do tok rfl rfl ?_|refine AL.nil ?_|refine AW.seq fun K hK => ?_|refine AW.region ?_|refine AL.no rfl rfl ?_|(refine hK _ ?_; clear hK)|(clear hK; refine hK _ ?_; clear hK)|(clear hK; clear hK; refine hK _ ?_; clear hK)|refine qaW ?_|refine qa1 tok ?_|refine qa2 tok ?_|refine qa3 tok ?_|refine AL.loadR tok rfl rfl rfl rfl rfl rfl ?_|refine qa4 tok ?_|refine qa5 tok ?_|refine AW.block ?_|refine AW.exit ?_|refine AW.skip ?_)
  refine AW.cond rfl (fun hg => ?_) (fun hg => ?_)
  · repeat (first|refine AL.do tok rfl rfl ?_|refine AL.nil ?_|refine AW.seq fun K hK => ?_|refine AW.region ?_|refine AL.no rfl rfl ?_|(refine hK _ ?_; clear hK)|(clear hK; refine hK _ ?_; clear hK)|(clear hK; clear hK; refine hK _ ?_; clear hK)|refine qaW ?_|refine qa1 tok ?_|refine qa2 tok ?_|refine qa3 tok ?_|refine AL.loadR tok rfl rfl rfl rfl rfl rfl ?_|refine qa4 tok ?_|refine qa5 tok ?_|refine AW.block ?_|refine AW.exit ?_|refine AW.skip ?_)
    refine AW.nilOwn 2 79 2 rfl ?_
    refine AW.ret ?_
    refine ⟨_, _, _, _, rfl, Out.row rfl ⟨_, ?_, rfl, rfl⟩ rfl⟩
    exact (hb hg).symm
  · repeat (first|refine AL.do tok rfl rfl ?_|refine AL.nil ?_|refine AW.seq fun K hK => ?_|refine AW.region ?_|refine AL.no rfl rfl ?_|(refine hK _ ?_; clear hK)|(clear hK; refine hK _ ?_; clear hK)|(clear hK; clear hK; refine hK _ ?_; clear hK)|refine qaW ?_|refine qa1 tok ?_|refine qa2 tok ?_|refine qa3 tok ?_|refine AL.loadR tok rfl rfl rfl rfl rfl rfl ?_|refine qa4 tok ?_|refine qa5 tok ?_|refine AW.block ?_|refine AW.exit ?_|refine AW.skip ?_)
    refine qa6 tok ?_
    simp only [List.nil_append]
    repeat (first|refine AL.do tok rfl rfl ?_|refine AL.nil ?_|refine AW.seq fun K hK => ?_|refine AW.region ?_|refine AL.no rfl rfl ?_|(refine hK _ ?_; clear hK)|(clear hK; refine hK _ ?_; clear hK)|(clear hK; clear hK; refine hK _ ?_; clear hK)|refine qaW ?_|refine qa1 tok ?_|refine qa2 tok ?_|refine qa3 tok ?_|refine AL.loadR tok rfl rfl rfl rfl rfl rfl ?_|refine qa4 tok ?_|refine qa5 tok ?_|refine AW.block ?_|refine AW.exit ?_|refine AW.skip ?_)
    refine AW.ret ?_
    refine ⟨_, _, _, _, rfl, Out.row rfl ⟨_, ?_, rfl, rfl⟩ rfl⟩
    rfl
abbrev arrR (s : Rs) : List Dg := (s.way.filter fun x => decide (x.wait = s.now + 1)).map (·.d)
abbrev stepR (s : Rs) : Rs := ⟨s.nodes, s.now + 1, s.cuts, s.way.filter fun x => !decide (x.wait = s.now + 1)⟩
theorem filI_succ (p : It → Bool) {l : List It} {i : Nat} (h : i < l.length) : (p l[i] = true → (l.take i).filter p ++ [l[i]] = (l.take (i + 1)).filter p) ∧ (p l[i] = false → (l.take i).filter p = (l.take (i + 1)).filter p) := by
  rw [← List.take_append_getElem h, List.filter_append]
  refine ⟨fun hp => ?_, fun hp => ?_⟩
  · rw [List.filter_cons, if_pos hp]; rfl
  · rw [List.filter_cons, if_neg (by rw [hp]; decide)]; simp
set_option maxHeartbeats 16000000 in
set_option maxRecDepth 10000 in
theorem refStep_calls (s : Rs) (hw : s.way.length ≤ 100000) (hn : 0 ≤ s.now ∧ s.now ≤ 1000000) : ACallP Try.prog 21 [aggR s] (.tup [aggR (stepR s), rowDg (arrR s)]) := by
  obtain ⟨nodes, now, cuts, l⟩ := s
  unfold stepR arrR aggR
  dsimp only at hw hn ⊢
  generalize hp : (fun x : It => decide (x.wait = now + 1)) = p
  have hpx : ∀ x : It, decide (x.wait = now + 1) = p x := fun x => by rw [← hp]
  have hN : (fun x : It => !decide (x.wait = now + 1)) = fun x => !p x := by rw [← hp]
  rw [hN]
  have hlm : (l.map encIt).length = l.length := List.length_map ..
  refine ACalls.body tok Try.func21 rfl (by kernel_rfl) (by rw [Try.ntmps21]; simp) ?_
  simp only [Try.ntmps21, Try.results21, argT]
  repeat (first|refine AL.do tok rfl rfl ?_|refine AL.nil ?_|refine AW.seq fun K hK => ?_|refine AW.region ?_|refine AL.no rfl rfl ?_|(refine hK _ ?_; clear hK)|(clear hK; refine hK _ ?_; clear hK)|(clear hK; clear hK; refine hK _ ?_; clear hK)|refine qaW ?_|refine qa1 tok ?_|refine qa2 tok ?_|refine qa3 tok ?_|refine AL.loadR tok rfl rfl rfl rfl rfl rfl ?_|refine qa4 tok ?_|refine qa5 tok ?_|refine AW.block ?_|refine AW.exit ?_|refine AW.skip ?_)
  (try simp only [hlm])
  refine AW.nilOwn 5 31 3 rfl ?_
  refine AW.nilOwnB 2 3 84 4 rfl rfl rfl ?_
  refine AW.loop (ι := Nat) (fun i => ⟨42, [(19, i64 i), (18, i64 l.length), (17, rowM l), (5, .own (.loc 3)), (4, .ptr (.loc 2) 0), (2, .ptr (.loc 1) 0)], [(3, some (.row 31 3 ((((l.take i).filter p).map (·.d)).map encDg))), (4, some (.row 84 4 (((l.take i).filter fun x => !p x).map encIt))), (2, some (.box 56 [i64 nodes, i64 (now + 1), rowC cuts, .own (.loc 4)])), (1, some (.box 56 [i64 0, i64 0, .nilrow, .nilrow]))], [], 5⟩)
    (fun i => i ≤ l.length) (fun i => l.length - i) 0 (Nat.zero_le _) ?_ ?_
  · (refine Imp.weak id (fun _ _ _ _ h => h) (by first|assumption|(intro b hb; cases hb)) ?_ ?_ <;> (repeat' (first|exact trivial|exact Nat.lt_of_lt_of_le (Nat.lt_succ_self _) (Nat.le_of_ble_eq_true rfl)|exact rfl|exact Or.inl ⟨rfl, rfl⟩|exact Or.inr ⟨rfl, LF.fn _ _ ‹_›⟩|refine ⟨?_, ?_⟩)))
  rintro i hi K1 hK1
  have hA : ((l.take i).filter p).length ≤ i := Nat.le_trans (List.length_filter_le _ _) (by rw [List.length_take]; omega)
  have hB : ((l.take i).filter fun x => !p x).length ≤ i := Nat.le_trans (List.length_filter_le _ _) (by rw [List.length_take]; omega)
  by_cases hlt : i < l.length
  · obtain ⟨a1, a2⟩ := filI_succ p hlt
    obtain ⟨b1, b2⟩ := filI_succ (fun x => !p x) hlt
    repeat (first|refine AL.do tok rfl rfl ?_|refine AL.nil ?_|refine AW.seq fun K hK => ?_|refine AW.region ?_|refine AL.no rfl rfl ?_|(refine hK _ ?_; clear hK)|(clear hK; refine hK _ ?_; clear hK)|(clear hK; clear hK; refine hK _ ?_; clear hK)|refine qaW ?_|refine qa1 tok ?_|refine qa2 tok ?_|refine qa3 tok ?_|refine AL.loadR tok rfl rfl rfl rfl rfl rfl ?_|refine qa4 tok ?_|refine qa5 tok ?_|refine AW.block ?_|refine AW.exit ?_|refine AW.skip ?_)
    refine AW.cond rfl (fun hg => ?_) (fun hg => by simp at hg; omega)
    repeat (first|refine AL.do tok rfl rfl ?_|refine AL.nil ?_|refine AW.seq fun K hK => ?_|refine AW.region ?_|refine AL.no rfl rfl ?_|(refine hK _ ?_; clear hK)|(clear hK; refine hK _ ?_; clear hK)|(clear hK; clear hK; refine hK _ ?_; clear hK)|refine qaW ?_|refine qa1 tok ?_|refine qa2 tok ?_|refine qa3 tok ?_|refine AL.loadR tok rfl rfl rfl rfl rfl rfl ?_|refine qa4 tok ?_|refine qa5 tok ?_|refine AW.block ?_|refine AW.exit ?_|refine AW.skip ?_)
    rw [hpx]
    cases hpi : p l[i] with
    | true =>
      refine AW.condT rfl ?_
      repeat (first|refine AL.do tok rfl rfl ?_|refine AL.nil ?_|refine AW.seq fun K hK => ?_|refine AW.region ?_|refine AL.no rfl rfl ?_|(refine hK _ ?_; clear hK)|(clear hK; refine hK _ ?_; clear hK)|(clear hK; clear hK; refine hK _ ?_; clear hK)|refine qaW ?_|refine qa1 tok ?_|refine qa2 tok ?_|refine qa3 tok ?_|refine AL.loadR tok rfl rfl rfl rfl rfl rfl ?_|refine qa4 tok ?_|refine qa5 tok ?_|refine AW.block ?_|refine AW.exit ?_|refine AW.skip ?_)
      refine qa6 (ys := [encDg l[i].d]) (hel := fun x hx => by rw [List.mem_singleton.1 hx]; rfl) tok ?_
      rw [show (((l.take i).filter p).map (·.d)).map encDg ++ [encDg l[i].d] = (((l.take (i + 1)).filter p).map (·.d)).map encDg by rw [← a1 hpi]; simp, b2 (by rw [hpi]; rfl)]
      repeat (first|refine AL.do tok rfl rfl ?_|refine AL.nil ?_|refine AW.seq fun K hK => ?_|refine AW.region ?_|refine AL.no rfl rfl ?_|(refine hK _ ?_; clear hK)|(clear hK; refine hK _ ?_; clear hK)|(clear hK; clear hK; refine hK _ ?_; clear hK)|refine qaW ?_|refine qa1 tok ?_|refine qa2 tok ?_|refine qa3 tok ?_|refine AL.loadR tok rfl rfl rfl rfl rfl rfl ?_|refine qa4 tok ?_|refine qa5 tok ?_|refine AW.block ?_|refine AW.exit ?_|refine AW.skip ?_)
      refine hK1 _ (i + 1) (by omega) (by omega) ?_
      (refine Imp.weak (fun k => if k = 3 then 7 else k) (fun j k h1 h2 h => by by_cases e1 : j = 3 <;> by_cases e2 : k = 3 <;> simp [e1, e2] at h <;> omega) (by first|assumption|(intro b hb; cases hb)) ?_ ?_ <;> (repeat' (first|exact trivial|exact Nat.lt_of_lt_of_le (Nat.lt_succ_self _) (Nat.le_of_ble_eq_true rfl)|exact rfl|exact Or.inl ⟨rfl, rfl⟩|exact Or.inr ⟨rfl, LF.fn _ _ ‹_›⟩|refine ⟨?_, ?_⟩)))
    | false =>
      refine AW.condF rfl ?_
      repeat (first|refine AL.do tok rfl rfl ?_|refine AL.nil ?_|refine AW.seq fun K hK => ?_|refine AW.region ?_|refine AL.no rfl rfl ?_|(refine hK _ ?_; clear hK)|(clear hK; refine hK _ ?_; clear hK)|(clear hK; clear hK; refine hK _ ?_; clear hK)|refine qaW ?_|refine qa1 tok ?_|refine qa2 tok ?_|refine qa3 tok ?_|refine AL.loadR tok rfl rfl rfl rfl rfl rfl ?_|refine qa4 tok ?_|refine qa5 tok ?_|refine AW.block ?_|refine AW.exit ?_|refine AW.skip ?_)
      refine qa6 (ys := [encIt l[i]]) (hel := fun x hx => by rw [List.mem_singleton.1 hx]; rfl) tok ?_
      rw [show ((l.take i).filter fun x => !p x).map encIt ++ [encIt l[i]] = ((l.take (i + 1)).filter fun x => !p x).map encIt by rw [← b1 (by rw [hpi]; rfl)]; simp, a2 hpi]
      repeat (first|refine AL.do tok rfl rfl ?_|refine AL.nil ?_|refine AW.seq fun K hK => ?_|refine AW.region ?_|refine AL.no rfl rfl ?_|(refine hK _ ?_; clear hK)|(clear hK; refine hK _ ?_; clear hK)|(clear hK; clear hK; refine hK _ ?_; clear hK)|refine qaW ?_|refine qa1 tok ?_|refine qa2 tok ?_|refine qa3 tok ?_|refine AL.loadR tok rfl rfl rfl rfl rfl rfl ?_|refine qa4 tok ?_|refine qa5 tok ?_|refine AW.block ?_|refine AW.exit ?_|refine AW.skip ?_)
      refine hK1 _ (i + 1) (by omega) (by omega) ?_
      (refine Imp.weak (fun k => if k = 4 then 7 else k) (fun j k h1 h2 h => by by_cases e1 : j = 4 <;> by_cases e2 : k = 4 <;> simp [e1, e2] at h <;> omega) (by first|assumption|(intro b hb; cases hb)) ?_ ?_ <;> (repeat' (first|exact trivial|exact Nat.lt_of_lt_of_le (Nat.lt_succ_self _) (Nat.le_of_ble_eq_true rfl)|exact rfl|exact Or.inl ⟨rfl, rfl⟩|exact Or.inr ⟨rfl, LF.fn _ _ ‹_›⟩|refine ⟨?_, ?_⟩)))
  · obtain rfl : i = l.length := by omega
    rw [List.take_length] at *
    repeat (first|refine AL.do tok rfl rfl ?_|refine AL.nil ?_|refine AW.seq fun K hK => ?_|refine AW.region ?_|refine AL.no rfl rfl ?_|(refine hK _ ?_; clear hK)|(clear hK; refine hK _ ?_; clear hK)|(clear hK; clear hK; refine hK _ ?_; clear hK)|refine qaW ?_|refine qa1 tok ?_|refine qa2 tok ?_|refine qa3 tok ?_|refine AL.loadR tok rfl rfl rfl rfl rfl rfl ?_|refine qa4 tok ?_|refine qa5 tok ?_|refine AW.block ?_|refine AW.exit ?_|refine AW.skip ?_)
    refine AW.cond rfl (fun hg => by simp at hg) (fun hg => ?_)
    refine AW.frz 3 rfl rfl rfl ?_
    refine AW.frz 4 rfl rfl rfl ?_
    repeat (first|refine AL.do tok rfl rfl ?_|refine AL.nil ?_|refine AW.seq fun K hK => ?_|refine AW.region ?_|refine AL.no rfl rfl ?_|(refine hK _ ?_; clear hK)|(clear hK; refine hK _ ?_; clear hK)|(clear hK; clear hK; refine hK _ ?_; clear hK)|refine qaW ?_|refine qa1 tok ?_|refine qa2 tok ?_|refine qa3 tok ?_|refine AL.loadR tok rfl rfl rfl rfl rfl rfl ?_|refine qa4 tok ?_|refine qa5 tok ?_|refine AW.block ?_|refine AW.exit ?_|refine AW.skip ?_)
    refine AW.ret ?_
    refine ⟨_, _, _, _, rfl, Out.pure rfl ⟨?_, rfl⟩ rfl⟩
    rfl
end Go.Proofs.Try
