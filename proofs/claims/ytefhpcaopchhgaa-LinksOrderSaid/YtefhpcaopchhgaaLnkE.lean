/- links: Step. -/
import Derived.Test.YtefhpcaopchhgaaLnkD
import Derived.Test.YtefhpcaopchhgaaWk
set_option linter.unusedSimpArgs false
set_option linter.unusedVariables false
namespace Go.Proofs.Try
open Go Go.AM

abbrev soon (x : It) : Bool := decide (x.wait - 1 = 0)
abbrev nearer (x : It) : It := { x with wait := x.wait - 1 }
def arrS (l : List It) : List Dg := (l.filter soon).map (·.d)
def leftS (l : List It) : List It := (l.filter fun x => !soon x).map nearer
def stepS (n : Nt) : Nt := setW n (leftS n.way)
theorem step_succ {l : List It} {i : Nat} (h : i < l.length) : (soon l[i] = true → (arrS (l.take i)).map encDg ++ [encDg l[i].d] = (arrS (l.take (i + 1))).map encDg ∧ leftS (l.take i) = leftS (l.take (i + 1))) ∧ (soon l[i] = false → (leftS (l.take i)).map encIt ++ [encIt (nearer l[i])] = (leftS (l.take (i + 1))).map encIt ∧ arrS (l.take i) = arrS (l.take (i + 1))) := by
  unfold arrS leftS
  rw [← List.take_append_getElem h, List.filter_append, List.filter_append]
  refine ⟨fun hs => ?_, fun hs => ?_⟩
  · rw [List.filter_cons, if_pos hs, List.filter_cons, if_neg (by rw [hs]; decide)]
    simp
  · rw [List.filter_cons, if_pos (by rw [hs]; decide), List.filter_cons, if_neg (by rw [hs]; decide)]
    simp
theorem arrS_len (l : List It) : (arrS l).length ≤ l.length := by
  unfold arrS
  rw [List.length_map]
  exact List.length_filter_le _ _
theorem leftS_len (l : List It) : (leftS l).length ≤ l.length := by
  unfold leftS
  rw [List.length_map]
  exact List.length_filter_le _ _
def OkWay (l : List It) : Prop := l.length ≤ 100000 ∧ ∀ x ∈ l, 1 ≤ x.wait ∧ x.wait ≤ 4000000000000
set_option maxHeartbeats 16000000 in
set_option maxRecDepth 10000 in
theorem step_calls (n : Nt) (hc : n.cut.length = 49) (hw : OkWay n.way) : ACallNet 12 [.ptr (.par 0) 0] n (rowDg (arrS n.way)) (stepS n) := by
  unfold stepS
  have hwl := hw.1
  generalize hl : n.way = l at *
  have hlm : (l.map encIt).length = l.length := List.length_map ..
  refine ACallsX.body tok Try.func12 rfl (by kernel_rfl) (by rw [Try.ntmps12]; simp) ?_
  simp only [Try.ntmps12, Try.results12, argT, rowsH, Rw.blk, List.length_cons, List.length_nil]
  repeat (first|refine AL.do tok rfl rfl ?_|refine AL.nil ?_|refine AW.seq fun K hK => ?_|refine AW.region ?_|refine AL.no rfl rfl ?_|(refine hK _ ?_; clear hK)|(clear hK; refine hK _ ?_; clear hK)|(clear hK; clear hK; refine hK _ ?_; clear hK)|refine qaW ?_|refine qa1 tok ?_|refine qa2 tok ?_|refine qa3 tok ?_|refine AL.loadR tok rfl rfl rfl rfl rfl rfl ?_|refine qa4 tok ?_|refine qa5 tok ?_|refine AW.block ?_|refine AW.exit ?_|refine AW.skip ?_)
  refine AL.v rfl rfl (VOp.loadC tok rfl rfl (net_way (by rw [hc])) rfl rfl) ?_
  repeat (first|refine AL.do tok rfl rfl ?_|refine AL.nil ?_|refine AW.seq fun K hK => ?_|refine AW.region ?_|refine AL.no rfl rfl ?_|(refine hK _ ?_; clear hK)|(clear hK; refine hK _ ?_; clear hK)|(clear hK; clear hK; refine hK _ ?_; clear hK)|refine qaW ?_|refine qa1 tok ?_|refine qa2 tok ?_|refine qa3 tok ?_|refine AL.loadR tok rfl rfl rfl rfl rfl rfl ?_|refine qa4 tok ?_|refine qa5 tok ?_|refine AW.block ?_|refine AW.exit ?_|refine AW.skip ?_)
  simp only [hl, hlm]
  refine AW.nilOwn 3 31 3 rfl ?_
  refine AW.nilOwn 4 76 4 rfl ?_
  refine AW.loop (ι := Nat) (fun i => ⟨38, [(12, i64 i), (11, i64 l.length), (10, .own (.loc 0)), (3, .own (.loc 1)), (4, .own (.loc 2)), (0, .ptr (.par 0) 0)], [(1, some (.row 31 3 ((arrS (l.take i)).map encDg))), (2, some (.row 76 4 ((leftS (l.take i)).map encIt))), (0, some (.row 76 4 (l.map encIt)))], [netB n (.own (.loc 0))], 3⟩)
    (fun i => i ≤ l.length) (fun i => l.length - i) 0 (Nat.zero_le _) ?_ ?_
  · (refine Imp.weakP id (fun _ _ _ _ h => h) (by simp only [List.map_cons, List.map_nil, net_rn]; rfl) (by first|(simp only [List.all_cons, List.all_nil, Bool.and_true]; exact net_lt _ _ _ (by decide))|(rw [List.all_cons, net_lt _ _ _ (by decide)]; rfl)) ?_ ?_ <;> (repeat' (first|exact trivial|exact Nat.lt_of_lt_of_le (Nat.lt_succ_self _) (Nat.le_of_ble_eq_true rfl)|exact rfl|exact Or.inl ⟨rfl, rfl⟩|exact Or.inr ⟨rfl, LF.fn _ _ ‹_›⟩|refine ⟨?_, ?_⟩)))
  rintro i hi K1 hK1
  have hA := arrS_len (l.take i)
  have hB := leftS_len (l.take i)
  rw [List.length_take] at hA hB
  by_cases hlt : i < l.length
  · have hx := hw.2 _ (List.getElem_mem hlt)
    obtain ⟨a1, a2⟩ := step_succ hlt
    repeat (first|refine AL.do tok rfl rfl ?_|refine AL.nil ?_|refine AW.seq fun K hK => ?_|refine AW.region ?_|refine AL.no rfl rfl ?_|(refine hK _ ?_; clear hK)|(clear hK; refine hK _ ?_; clear hK)|(clear hK; clear hK; refine hK _ ?_; clear hK)|refine qaW ?_|refine qa1 tok ?_|refine qa2 tok ?_|refine qa3 tok ?_|refine AL.loadR tok rfl rfl rfl rfl rfl rfl ?_|refine qa4 tok ?_|refine qa5 tok ?_|refine AW.block ?_|refine AW.exit ?_|refine AW.skip ?_)
    refine AW.cond rfl (fun hg => ?_) (fun hg => by simp [hlm] at hg; omega)
    repeat (first|refine AL.do tok rfl rfl ?_|refine AL.nil ?_|refine AW.seq fun K hK => ?_|refine AW.region ?_|refine AL.no rfl rfl ?_|(refine hK _ ?_; clear hK)|(clear hK; refine hK _ ?_; clear hK)|(clear hK; clear hK; refine hK _ ?_; clear hK)|refine qaW ?_|refine qa1 tok ?_|refine qa2 tok ?_|refine qa3 tok ?_|refine AL.loadR tok rfl rfl rfl rfl rfl rfl ?_|refine qa4 tok ?_|refine qa5 tok ?_|refine AW.block ?_|refine AW.exit ?_|refine AW.skip ?_)
    refine AW.cond rfl (fun hg => ?_) (fun hg => ?_)
    · obtain ⟨b1, b2⟩ := a1 hg
      repeat (first|refine AL.do tok rfl rfl ?_|refine AL.nil ?_|refine AW.seq fun K hK => ?_|refine AW.region ?_|refine AL.no rfl rfl ?_|(refine hK _ ?_; clear hK)|(clear hK; refine hK _ ?_; clear hK)|(clear hK; clear hK; refine hK _ ?_; clear hK)|refine qaW ?_|refine qa1 tok ?_|refine qa2 tok ?_|refine qa3 tok ?_|refine AL.loadR tok rfl rfl rfl rfl rfl rfl ?_|refine qa4 tok ?_|refine qa5 tok ?_|refine AW.block ?_|refine AW.exit ?_|refine AW.skip ?_)
      refine qa6 (ys := [encDg l[i].d]) (hel := fun x hx => by rw [List.mem_singleton.1 hx]; rfl) tok ?_
      rw [b1, b2]
      repeat (first|refine AL.do tok rfl rfl ?_|refine AL.nil ?_|refine AW.seq fun K hK => ?_|refine AW.region ?_|refine AL.no rfl rfl ?_|(refine hK _ ?_; clear hK)|(clear hK; refine hK _ ?_; clear hK)|(clear hK; clear hK; refine hK _ ?_; clear hK)|refine qaW ?_|refine qa1 tok ?_|refine qa2 tok ?_|refine qa3 tok ?_|refine AL.loadR tok rfl rfl rfl rfl rfl rfl ?_|refine qa4 tok ?_|refine qa5 tok ?_|refine AW.block ?_|refine AW.exit ?_|refine AW.skip ?_)
      refine hK1 _ (i + 1) (by omega) (by omega) ?_
      (refine Imp.weakP (fun k => if k = 1 then 5 else k) (fun j k h1 h2 h => by by_cases e0 : j = 1 <;> by_cases f0 : k = 1 <;> simp [*] at h <;> omega) (by simp only [List.map_cons, List.map_nil, net_rn]; rfl) (by first|(simp only [List.all_cons, List.all_nil, Bool.and_true]; exact net_lt _ _ _ (by decide))|(rw [List.all_cons, net_lt _ _ _ (by decide)]; rfl)) ?_ ?_ <;> (repeat' (first|exact trivial|exact Nat.lt_of_lt_of_le (Nat.lt_succ_self _) (Nat.le_of_ble_eq_true rfl)|exact rfl|exact Or.inl ⟨rfl, rfl⟩|exact Or.inr ⟨rfl, LF.fn _ _ ‹_›⟩|refine ⟨?_, ?_⟩)))
    · obtain ⟨b1, b2⟩ := a2 hg
      repeat (first|refine AL.do tok rfl rfl ?_|refine AL.nil ?_|refine AW.seq fun K hK => ?_|refine AW.region ?_|refine AL.no rfl rfl ?_|(refine hK _ ?_; clear hK)|(clear hK; refine hK _ ?_; clear hK)|(clear hK; clear hK; refine hK _ ?_; clear hK)|refine qaW ?_|refine qa1 tok ?_|refine qa2 tok ?_|refine qa3 tok ?_|refine AL.loadR tok rfl rfl rfl rfl rfl rfl ?_|refine qa4 tok ?_|refine qa5 tok ?_|refine AW.block ?_|refine AW.exit ?_|refine AW.skip ?_)
      refine qa6 (ys := [encIt (nearer l[i])]) (hel := fun x hx => by rw [List.mem_singleton.1 hx]; rfl) tok ?_
      rw [b1, b2]
      repeat (first|refine AL.do tok rfl rfl ?_|refine AL.nil ?_|refine AW.seq fun K hK => ?_|refine AW.region ?_|refine AL.no rfl rfl ?_|(refine hK _ ?_; clear hK)|(clear hK; refine hK _ ?_; clear hK)|(clear hK; clear hK; refine hK _ ?_; clear hK)|refine qaW ?_|refine qa1 tok ?_|refine qa2 tok ?_|refine qa3 tok ?_|refine AL.loadR tok rfl rfl rfl rfl rfl rfl ?_|refine qa4 tok ?_|refine qa5 tok ?_|refine AW.block ?_|refine AW.exit ?_|refine AW.skip ?_)
      refine hK1 _ (i + 1) (by omega) (by omega) ?_
      (refine Imp.weakP (fun k => if k = 2 then 5 else k) (fun j k h1 h2 h => by by_cases e0 : j = 2 <;> by_cases f0 : k = 2 <;> simp [*] at h <;> omega) (by simp only [List.map_cons, List.map_nil, net_rn]; rfl) (by first|(simp only [List.all_cons, List.all_nil, Bool.and_true]; exact net_lt _ _ _ (by decide))|(rw [List.all_cons, net_lt _ _ _ (by decide)]; rfl)) ?_ ?_ <;> (repeat' (first|exact trivial|exact Nat.lt_of_lt_of_le (Nat.lt_succ_self _) (Nat.le_of_ble_eq_true rfl)|exact rfl|exact Or.inl ⟨rfl, rfl⟩|exact Or.inr ⟨rfl, LF.fn _ _ ‹_›⟩|refine ⟨?_, ?_⟩)))
  · obtain rfl : i = l.length := by omega
    rw [List.take_length] at *
    repeat (first|refine AL.do tok rfl rfl ?_|refine AL.nil ?_|refine AW.seq fun K hK => ?_|refine AW.region ?_|refine AL.no rfl rfl ?_|(refine hK _ ?_; clear hK)|(clear hK; refine hK _ ?_; clear hK)|(clear hK; clear hK; refine hK _ ?_; clear hK)|refine qaW ?_|refine qa1 tok ?_|refine qa2 tok ?_|refine qa3 tok ?_|refine AL.loadR tok rfl rfl rfl rfl rfl rfl ?_|refine qa4 tok ?_|refine qa5 tok ?_|refine AW.block ?_|refine AW.exit ?_|refine AW.skip ?_)
    refine AW.cond rfl (fun hg => by simp [hlm] at hg) (fun hg => ?_)
    refine AW.frz 1 rfl rfl rfl ?_
    repeat (first|refine AL.do tok rfl rfl ?_|refine AL.nil ?_|refine AW.seq fun K hK => ?_|refine AW.region ?_|refine AL.no rfl rfl ?_|(refine hK _ ?_; clear hK)|(clear hK; refine hK _ ?_; clear hK)|(clear hK; clear hK; refine hK _ ?_; clear hK)|refine qaW ?_|refine qa1 tok ?_|refine qa2 tok ?_|refine qa3 tok ?_|refine AL.loadR tok rfl rfl rfl rfl rfl rfl ?_|refine qa4 tok ?_|refine qa5 tok ?_|refine AW.block ?_|refine AW.exit ?_|refine AW.skip ?_)
    refine AL.storeC tok rfl rfl (by rw [net_len, hc]; decide) rfl rfl rfl rfl rfl (by rw [net_wset (by rw [hc])]; rfl) rfl ?_
    repeat (first|refine AL.do tok rfl rfl ?_|refine AL.nil ?_|refine AW.seq fun K hK => ?_|refine AW.region ?_|refine AL.no rfl rfl ?_|(refine hK _ ?_; clear hK)|(clear hK; refine hK _ ?_; clear hK)|(clear hK; clear hK; refine hK _ ?_; clear hK)|refine qaW ?_|refine qa1 tok ?_|refine qa2 tok ?_|refine qa3 tok ?_|refine AL.loadR tok rfl rfl rfl rfl rfl rfl ?_|refine qa4 tok ?_|refine qa5 tok ?_|refine AW.block ?_|refine AW.exit ?_|refine AW.skip ?_)
    refine AW.ret ?_
    refine net_ret (n' := setW n (leftS l)) rfl rfl rfl ⟨?_, rfl, rfl⟩
    rfl
end Go.Proofs.Try
