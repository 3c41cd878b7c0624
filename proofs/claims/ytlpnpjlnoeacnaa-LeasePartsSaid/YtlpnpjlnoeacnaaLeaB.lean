/- lease: Recall, Settle, Count. -/
import Derived.Test.YtlpnpjlnoeacnaaLeaA
import Derived.Test.YtlpnpjlnoeacnaaWk
set_option linter.unusedSimpArgs false
set_option linter.unusedVariables false
namespace Go.Proofs.Try
open Go Go.AM

abbrev isOwn (a : Int) (x : Le) : Bool := decide (x.own = a)
def recallS (l : List Le) (a : Int) : List Le × List Le := (l.filter fun x => !isOwn a x, l.filter (isOwn a))
set_option maxHeartbeats 8000000 in
set_option maxRecDepth 10000 in
theorem recall_calls (l : List Le) (a : Int) (hlen : l.length ≤ 1000000) (ho : OkL l) : ACallP Try.prog 23 [rowL l, i64 a] (.tup [rowL (recallS l a).1, rowL (recallS l a).2]) := by
  have ks := split1_calls l (isOwn a) 60 [.ptr (.par 1) 0] [boxI a] hlen ho (fun x hx => by rw [List.mem_singleton.1 hx]; exact .ptr _ _) (fun b hb => ?_) (fun x _ => owner_calls x a _)
  rotate_left
  · rcases List.mem_cons.1 hb with rfl | hb
    · intro x hx
      rw [List.mem_singleton.1 hx]
      exact .fn _ _ fun y hy => by rw [List.mem_singleton.1 hy]; exact .ptr _ _
    · rw [List.mem_singleton.1 hb]
      intro x hx
      rw [List.mem_singleton.1 hx]
      exact .d _
  refine ACalls.body tok Try.func23 rfl (by kernel_rfl) (by rw [Try.ntmps23]; simp) ?_
  simp only [Try.ntmps23, Try.results23, argT]
  repeat (first|refine AL.do tok rfl rfl ?_|refine AL.nil ?_|refine AW.seq fun K hK => ?_|refine AW.region ?_|refine AL.no rfl rfl ?_|(refine hK _ ?_; clear hK)|(clear hK; refine hK _ ?_; clear hK)|(clear hK; clear hK; refine hK _ ?_; clear hK)|refine qaW ?_|refine qa1 tok ?_|refine qa2 tok ?_|refine qa3 tok ?_|refine AL.loadR tok rfl rfl rfl rfl rfl rfl ?_|refine qa4 tok ?_|refine qa5 tok ?_|refine AW.block ?_|refine AW.exit ?_|refine AW.skip ?_)
  refine AL.buildF tok rfl rfl rfl rfl rfl rfl rfl rfl rfl rfl ?_
  repeat (first|refine AL.do tok rfl rfl ?_|refine AL.nil ?_|refine AW.seq fun K hK => ?_|refine AW.region ?_|refine AL.no rfl rfl ?_|(refine hK _ ?_; clear hK)|(clear hK; refine hK _ ?_; clear hK)|(clear hK; clear hK; refine hK _ ?_; clear hK)|refine qaW ?_|refine qa1 tok ?_|refine qa2 tok ?_|refine qa3 tok ?_|refine AL.loadR tok rfl rfl rfl rfl rfl rfl ?_|refine qa4 tok ?_|refine qa5 tok ?_|refine AW.block ?_|refine AW.exit ?_|refine AW.skip ?_)
  refine AL.callN [.loc 1, .loc 0] ks rfl rfl rfl rfl rfl rfl (by decide) rfl rfl (fun r Hr hr => ?_)
  obtain ⟨rfl, rfl⟩ := hr
  refine ⟨rfl, ?_⟩
  repeat (first|refine AL.do tok rfl rfl ?_|refine AL.nil ?_|refine AW.seq fun K hK => ?_|refine AW.region ?_|refine AL.no rfl rfl ?_|(refine hK _ ?_; clear hK)|(clear hK; refine hK _ ?_; clear hK)|(clear hK; clear hK; refine hK _ ?_; clear hK)|refine qaW ?_|refine qa1 tok ?_|refine qa2 tok ?_|refine qa3 tok ?_|refine AL.loadR tok rfl rfl rfl rfl rfl rfl ?_|refine qa4 tok ?_|refine qa5 tok ?_|refine AW.block ?_|refine AW.exit ?_|refine AW.skip ?_)
  refine AW.frz 2 rfl rfl rfl ?_
  refine AW.frz 3 rfl rfl rfl ?_
  refine AW.ret ?_
  refine ⟨_, _, _, _, rfl, Out.pure rfl ⟨?_, rfl⟩ rfl⟩
  rfl
abbrev isOne (a b : Int) (x : Le) : Bool := decide (x.own = a) && decide (x.tag = b)
abbrev isUp (a b : Int) (x : Le) : Bool := decide (x.own = a) && decide (x.tag ≤ b)
def settleS (l : List Le) (a b : Int) (all : Bool) : List Le × List Le × Int :=
  if l.filter (isOne a b) = [] then ([], [], 8) else
  if all then (l.filter fun x => !isUp a b x, l.filter (isUp a b), 0) else (l.filter fun x => !isOne a b x, l.filter (isOne a b), 0)
abbrev settleAV (r : List Le × List Le × Int) : AV := .tup [rowL r.1, rowL r.2.1, i64 r.2.2]
theorem cond_lf (f1 f2 : FuncId) (a b : Int) : ∀ x ∈ [condB [.fn f1 [.ptr (.par 1) 0], .fn f2 [.ptr (.par 2) 0]], boxI a, boxI b], LFB x := by
  intro x hx
  simp only [List.mem_cons, List.not_mem_nil, or_false] at hx
  rcases hx with rfl | rfl | rfl
  · intro y hy
    simp only [List.mem_cons, List.not_mem_nil, or_false] at hy
    rcases hy with rfl | rfl
    · exact .fn _ _ fun z hz => by rw [List.mem_singleton.1 hz]; exact .ptr _ _
    · exact .fn _ _ fun z hz => by rw [List.mem_singleton.1 hz]; exact .ptr _ _
  · intro y hy; rw [List.mem_singleton.1 hy]; exact .d _
  · intro y hy; rw [List.mem_singleton.1 hy]; exact .d _
set_option maxHeartbeats 8000000 in
set_option maxRecDepth 10000 in
theorem settle_pr (l : List Le) (a b : Int) (all : Bool) (hlen : l.length ≤ 1000000) (ho : OkL l) : ACallPR Try.prog 21 [rowL l, i64 a, i64 b, bo all] fun r' => nd3 r' = settleAV (settleS l a b all) := by
  have ks1 := split2_calls l (isOne a b) (fun x => decide (x.own = a)) (fun x => decide (x.tag = b)) 56 58 [.ptr (.par 1) 0] [.ptr (.par 2) 0] [boxI a, boxI b] hlen ho (fun _ => rfl) (fun x hx => by rw [List.mem_singleton.1 hx]; exact .ptr _ _) (fun x hx => by rw [List.mem_singleton.1 hx]; exact .ptr _ _) (cond_lf _ _ a b) (fun x _ => mine_calls x a b _) (fun x _ => exact_calls x a b _)
  have ks2 := split2_calls l (isUp a b) (fun x => decide (x.own = a)) (fun x => decide (x.tag ≤ b)) 56 57 [.ptr (.par 1) 0] [.ptr (.par 2) 0] [boxI a, boxI b] hlen ho (fun _ => rfl) (fun x hx => by rw [List.mem_singleton.1 hx]; exact .ptr _ _) (fun x hx => by rw [List.mem_singleton.1 hx]; exact .ptr _ _) (cond_lf _ _ a b) (fun x _ => mine_calls x a b _) (fun x _ => upTo_calls x a b _)
  unfold settleS
  generalize l.filter (isOne a b) = one at *
  generalize (l.filter fun x => !isOne a b x) = rest at *
  generalize l.filter (isUp a b) = up at *
  generalize (l.filter fun x => !isUp a b x) = low at *
  have hone : (one.map encL).length = one.length := List.length_map ..
  refine ACalls.body tok Try.func21 rfl (by kernel_rfl) (by rw [Try.ntmps21]; simp) ?_
  simp only [Try.ntmps21, Try.results21, argT]
  repeat (first|refine AL.do tok rfl rfl ?_|refine AL.nil ?_|refine AW.seq fun K hK => ?_|refine AW.region ?_|refine AL.no rfl rfl ?_|(refine hK _ ?_; clear hK)|(clear hK; refine hK _ ?_; clear hK)|(clear hK; clear hK; refine hK _ ?_; clear hK)|refine qaW ?_|refine qa1 tok ?_|refine qa2 tok ?_|refine qa3 tok ?_|refine AL.loadR tok rfl rfl rfl rfl rfl rfl ?_|refine qa4 tok ?_|refine qa5 tok ?_|refine AW.block ?_|refine AW.exit ?_|refine AW.skip ?_)
  refine AL.buildF tok rfl rfl rfl rfl rfl rfl rfl rfl rfl rfl ?_
  repeat (first|refine AL.do tok rfl rfl ?_|refine AL.nil ?_|refine AW.seq fun K hK => ?_|refine AW.region ?_|refine AL.no rfl rfl ?_|(refine hK _ ?_; clear hK)|(clear hK; refine hK _ ?_; clear hK)|(clear hK; clear hK; refine hK _ ?_; clear hK)|refine qaW ?_|refine qa1 tok ?_|refine qa2 tok ?_|refine qa3 tok ?_|refine AL.loadR tok rfl rfl rfl rfl rfl rfl ?_|refine qa4 tok ?_|refine qa5 tok ?_|refine AW.block ?_|refine AW.exit ?_|refine AW.skip ?_)
  refine AL.callN [.loc 2, .loc 0, .loc 1] ks1 rfl rfl rfl rfl rfl rfl (by decide) rfl rfl (fun r Hr hr => ?_)
  obtain ⟨rfl, rfl⟩ := hr
  refine ⟨rfl, ?_⟩
  repeat (first|refine AL.do tok rfl rfl ?_|refine AL.nil ?_|refine AW.seq fun K hK => ?_|refine AW.region ?_|refine AL.no rfl rfl ?_|(refine hK _ ?_; clear hK)|(clear hK; refine hK _ ?_; clear hK)|(clear hK; clear hK; refine hK _ ?_; clear hK)|refine qaW ?_|refine qa1 tok ?_|refine qa2 tok ?_|refine qa3 tok ?_|refine AL.loadR tok rfl rfl rfl rfl rfl rfl ?_|refine qa4 tok ?_|refine qa5 tok ?_|refine AW.block ?_|refine AW.exit ?_|refine AW.skip ?_)
  by_cases h0 : one = []
  · subst h0
    refine AW.cond rfl (fun _ => ?_) (fun hg => by simp at hg)
    repeat (first|refine AL.do tok rfl rfl ?_|refine AL.nil ?_|refine AW.seq fun K hK => ?_|refine AW.region ?_|refine AL.no rfl rfl ?_|(refine hK _ ?_; clear hK)|(clear hK; refine hK _ ?_; clear hK)|(clear hK; clear hK; refine hK _ ?_; clear hK)|refine qaW ?_|refine qa1 tok ?_|refine qa2 tok ?_|refine qa3 tok ?_|refine AL.loadR tok rfl rfl rfl rfl rfl rfl ?_|refine qa4 tok ?_|refine qa5 tok ?_|refine AW.block ?_|refine AW.exit ?_|refine AW.skip ?_)
    refine AW.ret ?_
    refine ⟨_, _, _, _, rfl, Out.pure rfl ⟨?_, rfl⟩ rfl⟩
    rw [if_pos rfl]
    rfl
  · have hl0 : one.length ≠ 0 := fun h => h0 (List.eq_nil_of_length_eq_zero h)
    refine AW.cond rfl (fun hg => by simp at hg; exact absurd hg h0) (fun _ => ?_)
    repeat (first|refine AL.do tok rfl rfl ?_|refine AL.nil ?_|refine AW.seq fun K hK => ?_|refine AW.region ?_|refine AL.no rfl rfl ?_|(refine hK _ ?_; clear hK)|(clear hK; refine hK _ ?_; clear hK)|(clear hK; clear hK; refine hK _ ?_; clear hK)|refine qaW ?_|refine qa1 tok ?_|refine qa2 tok ?_|refine qa3 tok ?_|refine AL.loadR tok rfl rfl rfl rfl rfl rfl ?_|refine qa4 tok ?_|refine qa5 tok ?_|refine AW.block ?_|refine AW.exit ?_|refine AW.skip ?_)
    cases all with
    | false =>
      refine AW.cond rfl (fun _ => ?_) (fun hg => by simp at hg)
      refine AW.frz 3 rfl rfl rfl ?_
      refine AW.frz 4 rfl rfl rfl ?_
      repeat (first|refine AL.do tok rfl rfl ?_|refine AL.nil ?_|refine AW.seq fun K hK => ?_|refine AW.region ?_|refine AL.no rfl rfl ?_|(refine hK _ ?_; clear hK)|(clear hK; refine hK _ ?_; clear hK)|(clear hK; clear hK; refine hK _ ?_; clear hK)|refine qaW ?_|refine qa1 tok ?_|refine qa2 tok ?_|refine qa3 tok ?_|refine AL.loadR tok rfl rfl rfl rfl rfl rfl ?_|refine qa4 tok ?_|refine qa5 tok ?_|refine AW.block ?_|refine AW.exit ?_|refine AW.skip ?_)
      refine AW.ret ?_
      refine ⟨_, _, _, _, rfl, Out.pure rfl ⟨?_, rfl⟩ rfl⟩
      rw [if_neg h0, if_neg (by decide)]
      rfl
    | true =>
      refine AW.cond rfl (fun hg => by simp at hg) (fun _ => ?_)
      repeat (first|refine AL.do tok rfl rfl ?_|refine AL.nil ?_|refine AW.seq fun K hK => ?_|refine AW.region ?_|refine AL.no rfl rfl ?_|(refine hK _ ?_; clear hK)|(clear hK; refine hK _ ?_; clear hK)|(clear hK; clear hK; refine hK _ ?_; clear hK)|refine qaW ?_|refine qa1 tok ?_|refine qa2 tok ?_|refine qa3 tok ?_|refine AL.loadR tok rfl rfl rfl rfl rfl rfl ?_|refine qa4 tok ?_|refine qa5 tok ?_|refine AW.block ?_|refine AW.exit ?_|refine AW.skip ?_)
      refine AL.buildF tok rfl rfl rfl rfl rfl rfl rfl rfl rfl rfl ?_
      repeat (first|refine AL.do tok rfl rfl ?_|refine AL.nil ?_|refine AW.seq fun K hK => ?_|refine AW.region ?_|refine AL.no rfl rfl ?_|(refine hK _ ?_; clear hK)|(clear hK; refine hK _ ?_; clear hK)|(clear hK; clear hK; refine hK _ ?_; clear hK)|refine qaW ?_|refine qa1 tok ?_|refine qa2 tok ?_|refine qa3 tok ?_|refine AL.loadR tok rfl rfl rfl rfl rfl rfl ?_|refine qa4 tok ?_|refine qa5 tok ?_|refine AW.block ?_|refine AW.exit ?_|refine AW.skip ?_)
      refine AL.callN [.loc 5, .loc 0, .loc 1] ks2 rfl rfl rfl rfl rfl rfl (by decide) rfl rfl (fun r Hr hr => ?_)
      obtain ⟨rfl, rfl⟩ := hr
      refine ⟨rfl, ?_⟩
      repeat (first|refine AL.do tok rfl rfl ?_|refine AL.nil ?_|refine AW.seq fun K hK => ?_|refine AW.region ?_|refine AL.no rfl rfl ?_|(refine hK _ ?_; clear hK)|(clear hK; refine hK _ ?_; clear hK)|(clear hK; clear hK; refine hK _ ?_; clear hK)|refine qaW ?_|refine qa1 tok ?_|refine qa2 tok ?_|refine qa3 tok ?_|refine AL.loadR tok rfl rfl rfl rfl rfl rfl ?_|refine qa4 tok ?_|refine qa5 tok ?_|refine AW.block ?_|refine AW.exit ?_|refine AW.skip ?_)
      refine AW.frz 6 rfl rfl rfl ?_
      refine AW.frz 7 rfl rfl rfl ?_
      refine AW.ret ?_
      refine ⟨_, _, _, _, rfl, Out.pure rfl ⟨?_, rfl⟩ rfl⟩
      rw [if_neg h0, if_pos rfl]
      rfl
theorem settle_calls (l : List Le) (a b : Int) (all : Bool) (hlen : l.length ≤ 1000000) (ho : OkL l) : ACallP Try.prog 21 [rowL l, i64 a, i64 b, bo all] (settleAV (settleS l a b all)) := (settle_pr l a b all hlen ho).nilR
set_option maxHeartbeats 8000000 in
set_option maxRecDepth 10000 in
theorem count_calls (l : List Le) (a : Int) (hlen : l.length ≤ 1000000) : ACallP Try.prog 11 [rowL l, i64 a] (i64 (l.filter (isOwn a)).length) := by
  have hlm : (l.map encL).length = l.length := List.length_map ..
  refine ACalls.body tok Try.func11 rfl (by kernel_rfl) (by rw [Try.ntmps11]; simp) ?_
  simp only [Try.ntmps11, Try.results11, argT]
  repeat (first|refine AL.do tok rfl rfl ?_|refine AL.nil ?_|refine AW.seq fun K hK => ?_|refine AW.region ?_|refine AL.no rfl rfl ?_|(refine hK _ ?_; clear hK)|(clear hK; refine hK _ ?_; clear hK)|(clear hK; clear hK; refine hK _ ?_; clear hK)|refine qaW ?_|refine qa1 tok ?_|refine qa2 tok ?_|refine qa3 tok ?_|refine AL.loadR tok rfl rfl rfl rfl rfl rfl ?_|refine qa4 tok ?_|refine qa5 tok ?_|refine AW.block ?_|refine AW.exit ?_|refine AW.skip ?_)
  (try simp only [hlm])
  refine AW.loop (ι := Nat) (fun i => ⟨22, [(10, i64 i), (9, i64 l.length), (8, rowL l), (5, i64 ((l.take i).filter (isOwn a)).length), (1, i64 a)], [], [], 0⟩)
    (fun i => i ≤ l.length) (fun i => l.length - i) 0 (Nat.zero_le _) ?_ ?_
  · (refine Imp.weak id (fun _ _ _ _ h => h) (by first|assumption|(intro b hb; cases hb)) ?_ ?_ <;> (repeat' (first|exact trivial|exact Nat.lt_of_lt_of_le (Nat.lt_succ_self _) (Nat.le_of_ble_eq_true rfl)|exact rfl|exact Or.inl ⟨rfl, rfl⟩|exact Or.inr ⟨rfl, LF.fn _ _ ‹_›⟩|refine ⟨?_, ?_⟩)))
  rintro i hi K1 hK1
  have hA : ((l.take i).filter (isOwn a)).length ≤ i := Nat.le_trans (List.length_filter_le _ _) (by rw [List.length_take]; omega)
  by_cases hlt : i < l.length
  · have hs : (l.take (i + 1)).filter (isOwn a) = (l.take i).filter (isOwn a) ++ (if isOwn a l[i] then [l[i]] else []) := by
      rw [← List.take_append_getElem hlt, List.filter_append]
      congr 1
      cases hc : isOwn a l[i] <;> simp [hc]
    by_cases hc : l[i].own = a
    · have hs2 : (((l.take (i + 1)).filter (isOwn a)).length : Int) = ((l.take i).filter (isOwn a)).length + 1 := by rw [hs, if_pos (by simp [hc])]; simp
      repeat' (first|refine AL.do tok rfl rfl ?_|refine AL.nil ?_|refine AW.seq fun K hK => ?_|refine AW.region ?_|refine AL.no rfl rfl ?_|(refine hK _ ?_; clear hK)|(clear hK; refine hK _ ?_; clear hK)|(clear hK; clear hK; refine hK _ ?_; clear hK)|refine qaW ?_|refine qa1 tok ?_|refine qa2 tok ?_|refine qa3 tok ?_|refine AL.loadR tok rfl rfl rfl rfl rfl rfl ?_|refine qa4 tok ?_|refine qa5 tok ?_|refine AW.block ?_|refine AW.exit ?_|refine AW.skip ?_|((fail_if_success (refine AL.guard (b := true) rfl rfl ?_ ?_)); (fail_if_success (refine AL.guard (b := false) rfl rfl ?_ ?_)); refine AL.guard rfl rfl (fun hg => ?_) (fun hg => ?_) <;> ((try simp only [DX] at hg) <;> (try first|(exfalso; omega)|exact absurd trivial hg|exact False.elim hg|exact absurd rfl hg)))|refine AW.condT rfl ?_|refine AW.condF rfl ?_|(refine AW.cond rfl (fun hg => ?_) (fun hg => ?_) <;> ((try simp only [DX] at hg) <;> (try first|(exfalso; omega)|exact absurd trivial hg|exact False.elim hg|exact absurd rfl hg))))
      all_goals (try simp only [DX] at *)
      all_goals try (exfalso; first | exact hg | exact hg rfl | omega)
      refine hK1 _ (i + 1) (by omega) (by omega) ?_
      rw [hs2]
      (refine Imp.weak id (fun _ _ _ _ h => h) (by first|assumption|(intro b hb; cases hb)) ?_ ?_ <;> (repeat' (first|exact trivial|exact Nat.lt_of_lt_of_le (Nat.lt_succ_self _) (Nat.le_of_ble_eq_true rfl)|exact rfl|exact Or.inl ⟨rfl, rfl⟩|exact Or.inr ⟨rfl, LF.fn _ _ ‹_›⟩|refine ⟨?_, ?_⟩)))
    · have hs2 : (((l.take (i + 1)).filter (isOwn a)).length : Int) = ((l.take i).filter (isOwn a)).length := by rw [hs, if_neg (by simp [hc])]; simp
      repeat' (first|refine AL.do tok rfl rfl ?_|refine AL.nil ?_|refine AW.seq fun K hK => ?_|refine AW.region ?_|refine AL.no rfl rfl ?_|(refine hK _ ?_; clear hK)|(clear hK; refine hK _ ?_; clear hK)|(clear hK; clear hK; refine hK _ ?_; clear hK)|refine qaW ?_|refine qa1 tok ?_|refine qa2 tok ?_|refine qa3 tok ?_|refine AL.loadR tok rfl rfl rfl rfl rfl rfl ?_|refine qa4 tok ?_|refine qa5 tok ?_|refine AW.block ?_|refine AW.exit ?_|refine AW.skip ?_|((fail_if_success (refine AL.guard (b := true) rfl rfl ?_ ?_)); (fail_if_success (refine AL.guard (b := false) rfl rfl ?_ ?_)); refine AL.guard rfl rfl (fun hg => ?_) (fun hg => ?_) <;> ((try simp only [DX] at hg) <;> (try first|(exfalso; omega)|exact absurd trivial hg|exact False.elim hg|exact absurd rfl hg)))|refine AW.condT rfl ?_|refine AW.condF rfl ?_|(refine AW.cond rfl (fun hg => ?_) (fun hg => ?_) <;> ((try simp only [DX] at hg) <;> (try first|(exfalso; omega)|exact absurd trivial hg|exact False.elim hg|exact absurd rfl hg))))
      all_goals (try simp only [DX] at *)
      all_goals try (exfalso; first | exact hg | exact hg rfl | omega)
      refine hK1 _ (i + 1) (by omega) (by omega) ?_
      rw [hs2]
      (refine Imp.weak id (fun _ _ _ _ h => h) (by first|assumption|(intro b hb; cases hb)) ?_ ?_ <;> (repeat' (first|exact trivial|exact Nat.lt_of_lt_of_le (Nat.lt_succ_self _) (Nat.le_of_ble_eq_true rfl)|exact rfl|exact Or.inl ⟨rfl, rfl⟩|exact Or.inr ⟨rfl, LF.fn _ _ ‹_›⟩|refine ⟨?_, ?_⟩)))
  · obtain rfl : i = l.length := by omega
    rw [List.take_length] at *
    repeat' (first|refine AL.do tok rfl rfl ?_|refine AL.nil ?_|refine AW.seq fun K hK => ?_|refine AW.region ?_|refine AL.no rfl rfl ?_|(refine hK _ ?_; clear hK)|(clear hK; refine hK _ ?_; clear hK)|(clear hK; clear hK; refine hK _ ?_; clear hK)|refine qaW ?_|refine qa1 tok ?_|refine qa2 tok ?_|refine qa3 tok ?_|refine AL.loadR tok rfl rfl rfl rfl rfl rfl ?_|refine qa4 tok ?_|refine qa5 tok ?_|refine AW.block ?_|refine AW.exit ?_|refine AW.skip ?_|((fail_if_success (refine AL.guard (b := true) rfl rfl ?_ ?_)); (fail_if_success (refine AL.guard (b := false) rfl rfl ?_ ?_)); refine AL.guard rfl rfl (fun hg => ?_) (fun hg => ?_) <;> ((try simp only [DX] at hg) <;> (try first|(exfalso; omega)|exact absurd trivial hg|exact False.elim hg|exact absurd rfl hg)))|refine AW.condT rfl ?_|refine AW.condF rfl ?_|(refine AW.cond rfl (fun hg => ?_) (fun hg => ?_) <;> ((try simp only [DX] at hg) <;> (try first|(exfalso; omega)|exact absurd trivial hg|exact False.elim hg|exact absurd rfl hg))))
    all_goals (try simp only [DX] at *)
    all_goals try (exfalso; first | exact hg | exact hg rfl | omega)
    refine AW.ret ?_
    refine ⟨_, _, _, _, rfl, Out.pure rfl ⟨?_, rfl⟩ rfl⟩
    rfl
end Go.Proofs.Try
