/- queue: whether a queue is valid. -/
import Derived.Test.YtlpnpjlnoeacnaaQueA
import Derived.Test.YtlpnpjlnoeacnaaAMD
import Derived.Test.YtlpnpjlnoeacnaaWk
set_option linter.unusedSimpArgs false
set_option linter.unusedVariables false
namespace Go.Proofs.Try
open Go Go.AM

theorem memE_step {l : List En} {i : Nat} (h : i < l.length) (x : Int) : decide (x ∈ (l.drop i).map (·.num)) = (decide (l[i].num = x) || decide (x ∈ (l.drop (i + 1)).map (·.num))) := by
  rw [List.drop_eq_getElem_cons h, List.map_cons]
  by_cases e : l[i].num = x
  · simp [e]
  · have : ¬ x = l[i].num := fun h => e h.symm
    simp [e, this]
set_option maxHeartbeats 8000000 in
set_option maxRecDepth 10000 in
theorem refHas_calls (l : List En) (x : Int) (hl : l.length ≤ 1000000) : ACallP Try.prog 40 [rowE l, i64 x] (bo (decide (x ∈ l.map (·.num)))) := by
  have hlm : (l.map encE).length = l.length := List.length_map ..
  refine ACalls.body tok Try.func40 rfl (by kernel_rfl) (by rw [Try.ntmps40]; simp) ?_
  simp only [Try.ntmps40, Try.results40, argT]
  repeat (first|refine AL.do tok rfl rfl ?_|refine AL.nil ?_|refine AW.seq fun K hK => ?_|refine AW.region ?_|refine AL.no rfl rfl ?_|(refine hK _ ?_; clear hK)|(clear hK; refine hK _ ?_; clear hK)|(clear hK; clear hK; refine hK _ ?_; clear hK)|refine qaW ?_|refine qa1 tok ?_|refine qa2 tok ?_|refine qa3 tok ?_|refine AL.loadR tok rfl rfl rfl rfl rfl rfl ?_|refine qa4 tok ?_|refine qa5 tok ?_|refine AW.block ?_|refine AW.exit ?_|refine AW.skip ?_)
  (try simp only [hlm])
  refine AW.loop (ι := Nat) (fun i => ⟨18, [(9, i64 i), (8, i64 l.length), (7, rowE l), (1, i64 x)], [], [], 0⟩)
    (fun i => i ≤ l.length ∧ decide (x ∈ (l.drop i).map (·.num)) = decide (x ∈ l.map (·.num))) (fun i => l.length - i) 0 ⟨Nat.zero_le _, rfl⟩ ?_ ?_
  · (refine Imp.weak id (fun _ _ _ _ h => h) (by first|assumption|(intro b hb; cases hb)) ?_ ?_ <;> (repeat' (first|exact trivial|exact Nat.lt_of_lt_of_le (Nat.lt_succ_self _) (Nat.le_of_ble_eq_true rfl)|exact rfl|exact Or.inl ⟨rfl, rfl⟩|exact Or.inr ⟨rfl, LF.fn _ _ ‹_›⟩|refine ⟨?_, ?_⟩)))
  rintro i ⟨hi, hf⟩ K1 hK1
  by_cases hlt : i < l.length
  · have hs := memE_step hlt x
    repeat (first|refine AL.do tok rfl rfl ?_|refine AL.nil ?_|refine AW.seq fun K hK => ?_|refine AW.region ?_|refine AL.no rfl rfl ?_|(refine hK _ ?_; clear hK)|(clear hK; refine hK _ ?_; clear hK)|(clear hK; clear hK; refine hK _ ?_; clear hK)|refine qaW ?_|refine qa1 tok ?_|refine qa2 tok ?_|refine qa3 tok ?_|refine AL.loadR tok rfl rfl rfl rfl rfl rfl ?_|refine qa4 tok ?_|refine qa5 tok ?_|refine AW.block ?_|refine AW.exit ?_|refine AW.skip ?_)
    refine AW.cond rfl (fun hg => ?_) (fun hg => by simp at hg; omega)
    repeat (first|refine AL.do tok rfl rfl ?_|refine AL.nil ?_|refine AW.seq fun K hK => ?_|refine AW.region ?_|refine AL.no rfl rfl ?_|(refine hK _ ?_; clear hK)|(clear hK; refine hK _ ?_; clear hK)|(clear hK; clear hK; refine hK _ ?_; clear hK)|refine qaW ?_|refine qa1 tok ?_|refine qa2 tok ?_|refine qa3 tok ?_|refine AL.loadR tok rfl rfl rfl rfl rfl rfl ?_|refine qa4 tok ?_|refine qa5 tok ?_|refine AW.block ?_|refine AW.exit ?_|refine AW.skip ?_)
    refine AW.cond rfl (fun hg => ?_) (fun hg => ?_)
    · repeat (first|refine AL.do tok rfl rfl ?_|refine AL.nil ?_|refine AW.seq fun K hK => ?_|refine AW.region ?_|refine AL.no rfl rfl ?_|(refine hK _ ?_; clear hK)|(clear hK; refine hK _ ?_; clear hK)|(clear hK; clear hK; refine hK _ ?_; clear hK)|refine qaW ?_|refine qa1 tok ?_|refine qa2 tok ?_|refine qa3 tok ?_|refine AL.loadR tok rfl rfl rfl rfl rfl rfl ?_|refine qa4 tok ?_|refine qa5 tok ?_|refine AW.block ?_|refine AW.exit ?_|refine AW.skip ?_)
      refine AW.ret ?_
      refine ⟨_, _, _, _, rfl, Out.pure rfl ⟨?_, rfl⟩ rfl⟩
      rw [← hf, hs, hg]
      rfl
    · repeat (first|refine AL.do tok rfl rfl ?_|refine AL.nil ?_|refine AW.seq fun K hK => ?_|refine AW.region ?_|refine AL.no rfl rfl ?_|(refine hK _ ?_; clear hK)|(clear hK; refine hK _ ?_; clear hK)|(clear hK; clear hK; refine hK _ ?_; clear hK)|refine qaW ?_|refine qa1 tok ?_|refine qa2 tok ?_|refine qa3 tok ?_|refine AL.loadR tok rfl rfl rfl rfl rfl rfl ?_|refine qa4 tok ?_|refine qa5 tok ?_|refine AW.block ?_|refine AW.exit ?_|refine AW.skip ?_)
      refine hK1 _ (i + 1) ⟨by omega, by rw [← hf, hs, hg]; rfl⟩ (by omega) ?_
      (refine Imp.weak id (fun _ _ _ _ h => h) (by first|assumption|(intro b hb; cases hb)) ?_ ?_ <;> (repeat' (first|exact trivial|exact Nat.lt_of_lt_of_le (Nat.lt_succ_self _) (Nat.le_of_ble_eq_true rfl)|exact rfl|exact Or.inl ⟨rfl, rfl⟩|exact Or.inr ⟨rfl, LF.fn _ _ ‹_›⟩|refine ⟨?_, ?_⟩)))
  · repeat (first|refine AL.do tok rfl rfl ?_|refine AL.nil ?_|refine AW.seq fun K hK => ?_|refine AW.region ?_|refine AL.no rfl rfl ?_|(refine hK _ ?_; clear hK)|(clear hK; refine hK _ ?_; clear hK)|(clear hK; clear hK; refine hK _ ?_; clear hK)|refine qaW ?_|refine qa1 tok ?_|refine qa2 tok ?_|refine qa3 tok ?_|refine AL.loadR tok rfl rfl rfl rfl rfl rfl ?_|refine qa4 tok ?_|refine qa5 tok ?_|refine AW.block ?_|refine AW.exit ?_|refine AW.skip ?_)
    refine AW.cond rfl (fun hg => by simp at hg; omega) (fun hg => ?_)
    repeat (first|refine AL.do tok rfl rfl ?_|refine AL.nil ?_|refine AW.seq fun K hK => ?_|refine AW.region ?_|refine AL.no rfl rfl ?_|(refine hK _ ?_; clear hK)|(clear hK; refine hK _ ?_; clear hK)|(clear hK; clear hK; refine hK _ ?_; clear hK)|refine qaW ?_|refine qa1 tok ?_|refine qa2 tok ?_|refine qa3 tok ?_|refine AL.loadR tok rfl rfl rfl rfl rfl rfl ?_|refine qa4 tok ?_|refine qa5 tok ?_|refine AW.block ?_|refine AW.exit ?_|refine AW.skip ?_)
    refine AW.ret ?_
    refine ⟨_, _, _, _, rfl, Out.pure rfl ⟨?_, rfl⟩ rfl⟩
    rw [← hf, List.drop_eq_nil_of_le (by omega)]
    rfl
def nums (l : List En) (i : Nat) : List Int := (l.take i).map (·.num)
theorem nums_succ {l : List En} {i : Nat} (h : i < l.length) : nums l i ++ [l[i].num] = nums l (i + 1) := by
  unfold nums
  rw [← List.take_append_getElem h, List.map_append]
  rfl
def precAt (l : List En) (i : Nat) (x : En) : Bool := match l[i - 1]? with
  | some a => precS a x
  | none => true
def validRow (q : Qu) (i : Nat) (x : En) : Int := if entryS x q.next = 0 then (if x.num ∈ nums q.ready i then 26 else if 0 < i ∧ precAt q.ready i x = false then 22 else 0) else entryS x q.next
def validRows (q : Qu) : Nat → Nat → Int
  | _, 0 => 0
  | i, n + 1 => match q.ready[i]? with
    | some x => if validRow q i x = 0 then validRows q (i + 1) n else validRow q i x
    | none => 0
theorem validRows_step {q : Qu} {i : Nat} (h : i < q.ready.length) : validRows q i (q.ready.length - i) = if validRow q i q.ready[i] = 0 then validRows q (i + 1) (q.ready.length - (i + 1)) else validRow q i q.ready[i] := by
  rw [show q.ready.length - i = (q.ready.length - (i + 1)) + 1 by omega, validRows, List.getElem?_eq_getElem h]
def validS (q : Qu) : Int := if checkSp q.spec = 0 then (if q.next < 1 ∨ 1099511627776 < q.next then 1 else if 4352 < q.ready.length then 5 else validRows q 0 q.ready.length) else checkSp q.spec
def OkQ (q : Qu) : Prop := OkE q.ready
set_option maxHeartbeats 16000000 in
set_option maxRecDepth 10000 in
theorem refValid_calls25 (q : Qu) (ho : OkQ q) : ACallP Try.prog 13 [aggQ q] (i64 (validS q)) := by
  have hvs : validS q = if checkSp q.spec = 0 then (if q.next < 1 ∨ 1099511627776 < q.next then 1 else if 4352 < q.ready.length then 5 else validRows q 0 q.ready.length) else checkSp q.spec := rfl
  have hst := fun i h => validRows_step (q := q) (i := i) h
  have hvr : ∀ i (h : i < q.ready.length), validRow q i q.ready[i] = if entryS q.ready[i] q.next = 0 then (if q.ready[i].num ∈ nums q.ready i then 26 else if 0 < i ∧ precAt q.ready i q.ready[i] = false then 22 else 0) else entryS q.ready[i] q.next := fun i h => rfl
  have hv0 : validRows q q.ready.length 0 = 0 := rfl
  obtain ⟨s, nx, l⟩ := q
  have ho : OkE l := ho
  simp only at hvs hst hvr hv0
  rw [hvs]
  have k1 := refCheckSp_calls s
  generalize checkSp s = c at *
  generalize validRows ⟨s, nx, l⟩ = V at *
  generalize validRow ⟨s, nx, l⟩ = R at *
  have hlm : (l.map encE).length = l.length := List.length_map ..
  refine ACalls.body tok Try.func13 rfl (by kernel_rfl) (by rw [Try.ntmps13]; simp) ?_
  simp only [Try.ntmps13, Try.results13, argT]
  repeat' (first|refine AL.do tok rfl rfl ?_|refine AL.nil ?_|refine AW.seq fun K hK => ?_|refine AW.region ?_|refine AL.no rfl rfl ?_|(refine hK _ ?_; clear hK)|(clear hK; refine hK _ ?_; clear hK)|(clear hK; clear hK; refine hK _ ?_; clear hK)|refine qaW ?_|refine qa1 tok ?_|refine qa2 tok ?_|refine qa3 tok ?_|refine AL.loadR tok rfl rfl rfl rfl rfl rfl ?_|refine qa4 tok ?_|refine qa5 tok ?_|refine AW.block ?_|refine AW.exit ?_|refine AW.skip ?_|refine qc1 (k1 ..) ?_|refine qc2 (k1 ..) ?_|refine qc1 (in_calls ..) ?_|refine qc2 (in_calls ..) ?_|((fail_if_success (refine AL.guard (b := true) rfl rfl ?_ ?_)); (fail_if_success (refine AL.guard (b := false) rfl rfl ?_ ?_)); refine AL.guard rfl rfl (fun hg => ?_) (fun hg => ?_) <;> ((try simp only [DX] at hg) <;> (try first|(exfalso; omega)|exact absurd trivial hg|exact False.elim hg|exact absurd rfl hg)))|refine AW.condT rfl ?_|refine AW.condF rfl ?_|(refine AW.cond rfl (fun hg => ?_) (fun hg => ?_) <;> ((try simp only [DX] at hg) <;> (try first|(exfalso; omega)|exact absurd trivial hg|exact False.elim hg|exact absurd rfl hg))))
  all_goals (try simp only [DX] at *)
  · refine AW.ret ?_
    refine ⟨_, _, _, _, rfl, Out.pure rfl ⟨?_, rfl⟩ rfl⟩
    rw [if_neg (by omega)]
  · refine AW.ret ?_
    refine ⟨_, _, _, _, rfl, Out.pure rfl ⟨?_, rfl⟩ rfl⟩
    rw [if_pos (by omega), if_pos (by omega)]
  · refine AW.ret ?_
    refine ⟨_, _, _, _, rfl, Out.pure rfl ⟨?_, rfl⟩ rfl⟩
    rw [if_pos (by omega), if_neg (by omega), if_pos (by omega)]
  have hc : c = 0 := by assumption
  have hn1 : 1 ≤ nx ∧ nx ≤ 1099511627776 := by omega
  have hl : l.length ≤ 4352 := by omega
  (try simp only [hlm])
  refine AW.loop (ι := Nat) (fun i => ⟨57, [(24, i64 i), (23, i64 l.length), (22, rowE l), (1, .ptr (.loc 0) 0)], [(0, some (.box 32 [st s.name, i64 s.max, i64 s.ttl, i64 s.att, st s.dead, i64 nx, rowE l]))], [], 1⟩)
    (fun i => i ≤ l.length ∧ V i (l.length - i) = V 0 l.length) (fun i => l.length - i) 0 ⟨Nat.zero_le _, rfl⟩ ?_ ?_
  · (refine Imp.weak id (fun _ _ _ _ h => h) (by first|assumption|(intro b hb; cases hb)) ?_ ?_ <;> (repeat' (first|exact trivial|exact Nat.lt_of_lt_of_le (Nat.lt_succ_self _) (Nat.le_of_ble_eq_true rfl)|exact rfl|exact Or.inl ⟨rfl, rfl⟩|exact Or.inr ⟨rfl, LF.fn _ _ ‹_›⟩|refine ⟨?_, ?_⟩)))
  rintro i ⟨hi, hf⟩ K1 hK1
  by_cases hlt : i < l.length
  · have hst := hst i hlt
    have hvr := hvr i hlt
    have k2 := refEntry_calls l[i] nx (by omega) (by have := (ho _ (List.getElem_mem hlt)).1; omega)
    have k4 : ACallP Try.prog 40 [rowE (l.take i), i64 l[i].num] (bo (decide (l[i].num ∈ nums l i))) := refHas_calls (l.take i) l[i].num (by rw [List.length_take]; omega)
    have k3 : 0 < i → ACallP Try.prog 41 [aggE (l[((i : Int) - 1).toNat]'(by omega)), aggE l[i]] (bo (precAt l i l[i])) := fun h => by
      have e : precAt l i l[i] = precS (l[((i : Int) - 1).toNat]'(by omega)) l[i] := by
        unfold precAt
        have e1 : ((i : Int) - 1).toNat = i - 1 := by omega
        rw [List.getElem?_eq_getElem (show i - 1 < l.length by omega)]
        simp only [e1]
      rw [e]
      exact refPrec_calls _ _
    generalize precAt l i l[i] = pb at *
    generalize entryS l[i] nx = e at *
    repeat (first|refine AL.do tok rfl rfl ?_|refine AL.nil ?_|refine AW.seq fun K hK => ?_|refine AW.region ?_|refine AL.no rfl rfl ?_|(refine hK _ ?_; clear hK)|(clear hK; refine hK _ ?_; clear hK)|(clear hK; clear hK; refine hK _ ?_; clear hK)|refine qaW ?_|refine qa1 tok ?_|refine qa2 tok ?_|refine qa3 tok ?_|refine AL.loadR tok rfl rfl rfl rfl rfl rfl ?_|refine qa4 tok ?_|refine qa5 tok ?_|refine AW.block ?_|refine AW.exit ?_|refine AW.skip ?_)
    refine AW.cond rfl (fun hg => ?_) (fun hg => by simp at hg; omega)
    repeat (first|refine AL.do tok rfl rfl ?_|refine AL.nil ?_|refine AW.seq fun K hK => ?_|refine AW.region ?_|refine AL.no rfl rfl ?_|(refine hK _ ?_; clear hK)|(clear hK; refine hK _ ?_; clear hK)|(clear hK; clear hK; refine hK _ ?_; clear hK)|refine qaW ?_|refine qa1 tok ?_|refine qa2 tok ?_|refine qa3 tok ?_|refine AL.loadR tok rfl rfl rfl rfl rfl rfl ?_|refine qa4 tok ?_|refine qa5 tok ?_|refine AW.block ?_|refine AW.exit ?_|refine AW.skip ?_|refine qc1 (k2 ..) ?_|refine qc2 (k2 ..) ?_)
    refine AW.cond rfl (fun hg => ?_) (fun hg => ?_)
    · have he : ¬ e = 0 := by simpa using hg
      repeat (first|refine AL.do tok rfl rfl ?_|refine AL.nil ?_|refine AW.seq fun K hK => ?_|refine AW.region ?_|refine AL.no rfl rfl ?_|(refine hK _ ?_; clear hK)|(clear hK; refine hK _ ?_; clear hK)|(clear hK; clear hK; refine hK _ ?_; clear hK)|refine qaW ?_|refine qa1 tok ?_|refine qa2 tok ?_|refine qa3 tok ?_|refine AL.loadR tok rfl rfl rfl rfl rfl rfl ?_|refine qa4 tok ?_|refine qa5 tok ?_|refine AW.block ?_|refine AW.exit ?_|refine AW.skip ?_)
      refine AW.ret ?_
      refine ⟨_, _, _, _, rfl, Out.pure rfl ⟨?_, rfl⟩ rfl⟩
      rw [if_pos hc, if_neg (by omega), if_neg (by omega), ← hf, hst, hvr, if_neg he, if_neg he]
    have he : e = 0 := by simpa using hg
    rw [if_pos he] at hvr
    repeat (first|refine AL.do tok rfl rfl ?_|refine AL.nil ?_|refine AW.seq fun K hK => ?_|refine AW.region ?_|refine AL.no rfl rfl ?_|(refine hK _ ?_; clear hK)|(clear hK; refine hK _ ?_; clear hK)|(clear hK; clear hK; refine hK _ ?_; clear hK)|refine qaW ?_|refine qa1 tok ?_|refine qa2 tok ?_|refine qa3 tok ?_|refine AL.loadR tok rfl rfl rfl rfl rfl rfl ?_|refine qa4 tok ?_|refine qa5 tok ?_|refine AW.block ?_|refine AW.exit ?_|refine AW.skip ?_)
    refine AW.drawn mix (by kernel_rfl) ?_
    repeat' (first|refine AQ.do tok rfl rfl rfl ?_|refine AQ.no rfl rfl ?_|refine qqW ?_|refine AQ.nil ?_|refine AQ.callB rfl rfl rfl rfl rfl rfl (k4 ..) rfl ?_|(refine AQ.guard rfl rfl (fun hg => ?_) (fun hg => ?_) <;> ((try simp only [DX] at hg) <;> (try first|(exfalso; omega)|exact absurd trivial hg|exact False.elim hg|exact absurd rfl hg))))
    repeat (first|refine AL.do tok rfl rfl ?_|refine AL.nil ?_|refine AW.seq fun K hK => ?_|refine AW.region ?_|refine AL.no rfl rfl ?_|(refine hK _ ?_; clear hK)|(clear hK; refine hK _ ?_; clear hK)|(clear hK; clear hK; refine hK _ ?_; clear hK)|refine qaW ?_|refine qa1 tok ?_|refine qa2 tok ?_|refine qa3 tok ?_|refine AL.loadR tok rfl rfl rfl rfl rfl rfl ?_|refine qa4 tok ?_|refine qa5 tok ?_|refine AW.block ?_|refine AW.exit ?_|refine AW.skip ?_)
    refine AW.cond rfl (fun hg => ?_) (fun hg => ?_)
    · have hm : l[i].num ∈ nums l i := of_decide_eq_true hg
      repeat (first|refine AL.do tok rfl rfl ?_|refine AL.nil ?_|refine AW.seq fun K hK => ?_|refine AW.region ?_|refine AL.no rfl rfl ?_|(refine hK _ ?_; clear hK)|(clear hK; refine hK _ ?_; clear hK)|(clear hK; clear hK; refine hK _ ?_; clear hK)|refine qaW ?_|refine qa1 tok ?_|refine qa2 tok ?_|refine qa3 tok ?_|refine AL.loadR tok rfl rfl rfl rfl rfl rfl ?_|refine qa4 tok ?_|refine qa5 tok ?_|refine AW.block ?_|refine AW.exit ?_|refine AW.skip ?_)
      refine AW.ret ?_
      refine ⟨_, _, _, _, rfl, Out.pure rfl ⟨?_, rfl⟩ rfl⟩
      rw [if_pos hc, if_neg (by omega), if_neg (by omega), ← hf, hst, hvr, if_pos hm]
      rfl
    have hm : l[i].num ∉ nums l i := of_decide_eq_false hg
    rw [if_neg hm] at hvr
    repeat (first|refine AL.do tok rfl rfl ?_|refine AL.nil ?_|refine AW.seq fun K hK => ?_|refine AW.region ?_|refine AL.no rfl rfl ?_|(refine hK _ ?_; clear hK)|(clear hK; refine hK _ ?_; clear hK)|(clear hK; clear hK; refine hK _ ?_; clear hK)|refine qaW ?_|refine qa1 tok ?_|refine qa2 tok ?_|refine qa3 tok ?_|refine AL.loadR tok rfl rfl rfl rfl rfl rfl ?_|refine qa4 tok ?_|refine qa5 tok ?_|refine AW.block ?_|refine AW.exit ?_|refine AW.skip ?_)
    by_cases h0 : 0 < i
    · have k3 := k3 h0
      refine AW.drawn mix (by kernel_rfl) ?_
      repeat' (first|refine AQ.do tok rfl rfl rfl ?_|refine AQ.no rfl rfl ?_|refine qqW ?_|refine AQ.nil ?_|refine AQ.callB rfl rfl rfl rfl rfl rfl (k3 ..) rfl ?_|(refine AQ.guard rfl rfl (fun hg => ?_) (fun hg => ?_) <;> ((try simp only [DX] at hg) <;> (try first|(exfalso; omega)|exact absurd trivial hg|exact False.elim hg|exact absurd rfl hg))))
      all_goals (try simp only [DX] at *)
      all_goals try (exfalso; omega)
      repeat (first|refine AL.do tok rfl rfl ?_|refine AL.nil ?_|refine AW.seq fun K hK => ?_|refine AW.region ?_|refine AL.no rfl rfl ?_|(refine hK _ ?_; clear hK)|(clear hK; refine hK _ ?_; clear hK)|(clear hK; clear hK; refine hK _ ?_; clear hK)|refine qaW ?_|refine qa1 tok ?_|refine qa2 tok ?_|refine qa3 tok ?_|refine AL.loadR tok rfl rfl rfl rfl rfl rfl ?_|refine qa4 tok ?_|refine qa5 tok ?_|refine AW.block ?_|refine AW.exit ?_|refine AW.skip ?_)
      refine AW.cond rfl (fun hg => ?_) (fun hg => ?_)
      · have hpb : pb = false := by simpa using hg
        repeat (first|refine AL.do tok rfl rfl ?_|refine AL.nil ?_|refine AW.seq fun K hK => ?_|refine AW.region ?_|refine AL.no rfl rfl ?_|(refine hK _ ?_; clear hK)|(clear hK; refine hK _ ?_; clear hK)|(clear hK; clear hK; refine hK _ ?_; clear hK)|refine qaW ?_|refine qa1 tok ?_|refine qa2 tok ?_|refine qa3 tok ?_|refine AL.loadR tok rfl rfl rfl rfl rfl rfl ?_|refine qa4 tok ?_|refine qa5 tok ?_|refine AW.block ?_|refine AW.exit ?_|refine AW.skip ?_)
        refine AW.ret ?_
        refine ⟨_, _, _, _, rfl, Out.pure rfl ⟨?_, rfl⟩ rfl⟩
        rw [if_pos ⟨h0, hpb⟩] at hvr
        rw [hvr, if_neg (by decide)] at hst
        rw [if_pos hc, if_neg (by omega), if_neg (by omega), ← hf, hst]
      · have hpb : ¬ (0 < i ∧ pb = false) := fun h => by simp at hg; rw [hg] at h; exact absurd h.2 (by decide)
        rw [if_neg hpb] at hvr
        rw [hvr, if_pos rfl] at hst
        repeat (first|refine AL.do tok rfl rfl ?_|refine AL.nil ?_|refine AW.seq fun K hK => ?_|refine AW.region ?_|refine AL.no rfl rfl ?_|(refine hK _ ?_; clear hK)|(clear hK; refine hK _ ?_; clear hK)|(clear hK; clear hK; refine hK _ ?_; clear hK)|refine qaW ?_|refine qa1 tok ?_|refine qa2 tok ?_|refine qa3 tok ?_|refine AL.loadR tok rfl rfl rfl rfl rfl rfl ?_|refine qa4 tok ?_|refine qa5 tok ?_|refine AW.block ?_|refine AW.exit ?_|refine AW.skip ?_)
        refine hK1 _ (i + 1) ⟨by omega, by rw [← hf, hst]⟩ (by omega) ?_
        (refine Imp.weak id (fun _ _ _ _ h => h) (by first|assumption|(intro b hb; cases hb)) ?_ ?_ <;> (repeat' (first|exact trivial|exact Nat.lt_of_lt_of_le (Nat.lt_succ_self _) (Nat.le_of_ble_eq_true rfl)|exact rfl|exact Or.inl ⟨rfl, rfl⟩|exact Or.inr ⟨rfl, LF.fn _ _ ‹_›⟩|refine ⟨?_, ?_⟩)))
    · have hpb : ¬ (0 < i ∧ pb = false) := fun h => h0 h.1
      rw [if_neg hpb] at hvr
      rw [hvr, if_pos rfl] at hst
      refine AW.drawn mix (by kernel_rfl) ?_
      repeat' (first|refine AQ.do tok rfl rfl rfl ?_|refine AQ.no rfl rfl ?_|refine qqW ?_|refine AQ.nil ?_|(refine AQ.guard rfl rfl (fun hg => ?_) (fun hg => ?_) <;> ((try simp only [DX] at hg) <;> (try first|(exfalso; omega)|exact absurd trivial hg|exact False.elim hg|exact absurd rfl hg))))
      all_goals (try simp only [DX] at *)
      all_goals try (exfalso; omega)
      repeat (first|refine AL.do tok rfl rfl ?_|refine AL.nil ?_|refine AW.seq fun K hK => ?_|refine AW.region ?_|refine AL.no rfl rfl ?_|(refine hK _ ?_; clear hK)|(clear hK; refine hK _ ?_; clear hK)|(clear hK; clear hK; refine hK _ ?_; clear hK)|refine qaW ?_|refine qa1 tok ?_|refine qa2 tok ?_|refine qa3 tok ?_|refine AL.loadR tok rfl rfl rfl rfl rfl rfl ?_|refine qa4 tok ?_|refine qa5 tok ?_|refine AW.block ?_|refine AW.exit ?_|refine AW.skip ?_)
      refine AW.cond rfl (fun hg => by simp at hg) (fun hg => ?_)
      repeat (first|refine AL.do tok rfl rfl ?_|refine AL.nil ?_|refine AW.seq fun K hK => ?_|refine AW.region ?_|refine AL.no rfl rfl ?_|(refine hK _ ?_; clear hK)|(clear hK; refine hK _ ?_; clear hK)|(clear hK; clear hK; refine hK _ ?_; clear hK)|refine qaW ?_|refine qa1 tok ?_|refine qa2 tok ?_|refine qa3 tok ?_|refine AL.loadR tok rfl rfl rfl rfl rfl rfl ?_|refine qa4 tok ?_|refine qa5 tok ?_|refine AW.block ?_|refine AW.exit ?_|refine AW.skip ?_)
      refine hK1 _ (i + 1) ⟨by omega, by rw [← hf, hst]⟩ (by omega) ?_
      (refine Imp.weak id (fun _ _ _ _ h => h) (by first|assumption|(intro b hb; cases hb)) ?_ ?_ <;> (repeat' (first|exact trivial|exact Nat.lt_of_lt_of_le (Nat.lt_succ_self _) (Nat.le_of_ble_eq_true rfl)|exact rfl|exact Or.inl ⟨rfl, rfl⟩|exact Or.inr ⟨rfl, LF.fn _ _ ‹_›⟩|refine ⟨?_, ?_⟩)))
  · repeat (first|refine AL.do tok rfl rfl ?_|refine AL.nil ?_|refine AW.seq fun K hK => ?_|refine AW.region ?_|refine AL.no rfl rfl ?_|(refine hK _ ?_; clear hK)|(clear hK; refine hK _ ?_; clear hK)|(clear hK; clear hK; refine hK _ ?_; clear hK)|refine qaW ?_|refine qa1 tok ?_|refine qa2 tok ?_|refine qa3 tok ?_|refine AL.loadR tok rfl rfl rfl rfl rfl rfl ?_|refine qa4 tok ?_|refine qa5 tok ?_|refine AW.block ?_|refine AW.exit ?_|refine AW.skip ?_)
    refine AW.cond rfl (fun hg => by simp at hg; omega) (fun hg => ?_)
    repeat (first|refine AL.do tok rfl rfl ?_|refine AL.nil ?_|refine AW.seq fun K hK => ?_|refine AW.region ?_|refine AL.no rfl rfl ?_|(refine hK _ ?_; clear hK)|(clear hK; refine hK _ ?_; clear hK)|(clear hK; clear hK; refine hK _ ?_; clear hK)|refine qaW ?_|refine qa1 tok ?_|refine qa2 tok ?_|refine qa3 tok ?_|refine AL.loadR tok rfl rfl rfl rfl rfl rfl ?_|refine qa4 tok ?_|refine qa5 tok ?_|refine AW.block ?_|refine AW.exit ?_|refine AW.skip ?_)
    refine AW.ret ?_
    refine ⟨_, _, _, _, rfl, Out.pure rfl ⟨?_, rfl⟩ rfl⟩
    obtain rfl : i = l.length := by omega
    rw [if_pos hc, if_neg (by omega), if_neg (by omega), ← hf, Nat.sub_self, hv0]
end Go.Proofs.Try
