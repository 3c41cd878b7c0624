/- links: what is on a link is lost with it. -/
import Derived.Test.YtefhpcaopchhgaaLnkB
import Derived.Test.YtefhpcaopchhgaaWk
set_option linter.unusedSimpArgs false
set_option linter.unusedVariables false
namespace Go.Proofs.Try
open Go Go.AM

abbrev aggIt (x : It) : AV := .agg [i64 x.wait, i64 x.d.src, i64 x.d.dst, rowU x.d.bytes]
abbrev boxI (a : Int) : Blk := .box 3 [i64 a]
def onL (a b : Int) (x : It) : Bool := (decide (x.d.src = a) && decide (x.d.dst = b)) || (decide (x.d.src = b) && decide (x.d.dst = a))
set_option maxHeartbeats 8000000 in
set_option maxRecDepth 10000 in
theorem onL_calls (a b : Int) (x : It) : ACallU Try.prog 31 [aggIt x, .ptr (.par 0) 0, .ptr (.par 1) 0] [boxI a, boxI b] (bo (onL a b x)) := by
  refine ACalls.body tok Try.func31 rfl (by kernel_rfl) (by rw [Try.ntmps31]; simp) ?_
  simp only [Try.ntmps31, Try.results31, argT]
  repeat' (first|refine AL.do tok rfl rfl ?_|refine AL.nil ?_|refine AW.seq fun K hK => ?_|refine AW.region ?_|refine AL.no rfl rfl ?_|(refine hK _ ?_; clear hK)|(clear hK; refine hK _ ?_; clear hK)|(clear hK; clear hK; refine hK _ ?_; clear hK)|refine qaW ?_|refine qa1 tok ?_|refine qa2 tok ?_|refine qa3 tok ?_|refine AL.loadR tok rfl rfl rfl rfl rfl rfl ?_|refine qa4 tok ?_|refine qa5 tok ?_|refine AW.block ?_|refine AW.exit ?_|refine AW.skip ?_|((fail_if_success (refine AL.guard (b := true) rfl rfl ?_ ?_)); (fail_if_success (refine AL.guard (b := false) rfl rfl ?_ ?_)); refine AL.guard rfl rfl (fun hg => ?_) (fun hg => ?_) <;> ((try simp only [DX] at hg) <;> (try first|(exfalso; omega)|exact absurd trivial hg|exact False.elim hg|exact absurd rfl hg)))|refine AW.condT rfl ?_|refine AW.condF rfl ?_|(refine AW.cond rfl (fun hg => ?_) (fun hg => ?_) <;> ((try simp only [DX] at hg) <;> (try first|(exfalso; omega)|exact absurd trivial hg|exact False.elim hg|exact absurd rfl hg)))|refine AW.ret ?_)
  all_goals (refine ⟨_, _, _, _, rfl, Out.pure rfl ⟨?_, rfl, rfl, rfl⟩ rfl⟩; simp [onL, *] <;> (intros; omega))
def idxI (p : It → Bool) : List It → Nat → Int
  | [], _ => -1
  | c :: r, k => if p c then k else idxI p r (k + 1)
theorem idxI_neg {p : It → Bool} : ∀ {l : List It} {k : Nat}, idxI p l k = -1 → l.filter (fun x => !p x) = l
  | [], k, _ => rfl
  | c :: r, k, h => by
    rw [idxI] at h
    split at h
    · omega
    · rename_i hp
      rw [List.filter_cons, if_pos (by simpa using hp), idxI_neg h]
theorem idxI_pos {p : It → Bool} : ∀ {l : List It} {k : Nat}, idxI p l k ≠ -1 → ∃ j, j < l.length ∧ idxI p l k = ((k + j : Nat) : Int) ∧ (l.take j).filter (fun x => !p x) = l.take j ∧ (l.take (j + 1)).filter (fun x => !p x) = l.take j
  | [], k, h => absurd rfl h
  | c :: r, k, h => by
    rw [idxI] at h
    by_cases hp : p c = true
    · refine ⟨0, by simp, by rw [idxI, if_pos hp]; simp, by simp, by simp [hp]⟩
    · rw [if_neg hp] at h
      obtain ⟨j, h1, h2, h3, h4⟩ := idxI_pos h
      refine ⟨j + 1, by simpa using h1, by rw [idxI, if_neg hp, h2]; congr 1; omega, ?_, ?_⟩
      · rw [List.take_succ_cons, List.filter_cons, if_pos (by simpa using hp), h3]
      · rw [List.take_succ_cons, List.filter_cons, if_pos (by simpa using hp), h4, List.take_succ_cons]
set_option maxHeartbeats 4000000 in
set_option maxRecDepth 10000 in
theorem indexI_calls (l : List It) (p : It → Bool) (f : FuncId) (caps : List AV) (Hp : List Blk) (hc : ∀ c ∈ l, ACallU Try.prog f (aggIt c :: caps) Hp (bo (p c)))
    (hlc : ∀ x ∈ caps, LF x) (hlb : ∀ b ∈ Hp, LFB b) : ACallU Try.prog 38 [.d (.row (l.map encIt)), .fn f caps] Hp (i64 (idxI p l 0)) := by
  refine ACalls.body tok Try.func38 rfl (by kernel_rfl) (by rw [Try.ntmps38]; simp) ?_
  simp only [Try.ntmps38, Try.results38, argT]
  refine AW.bound 0 rfl fun hm => ?_
  rw [List.length_map] at hm
  repeat (first|refine AL.do tok rfl rfl ?_|refine AL.nil ?_|refine AW.seq fun K hK => ?_|refine AW.region ?_|refine AL.no rfl rfl ?_|(refine hK _ ?_; clear hK)|(clear hK; refine hK _ ?_; clear hK)|(clear hK; clear hK; refine hK _ ?_; clear hK)|refine qaW ?_|refine qa1 tok ?_|refine qa2 tok ?_|refine qa3 tok ?_|refine AL.loadR tok rfl rfl rfl rfl rfl rfl ?_|refine qa4 tok ?_|refine qa5 tok ?_|refine AW.block ?_|refine AW.exit ?_|refine AW.skip ?_)
  simp only [List.length_map]
  refine AW.loop (ι := Nat) (fun i => ⟨19, [(8, i64 i), (7, i64 l.length), (0, .d (.row (l.map encIt))), (1, .fn f caps)], [], Hp, 0⟩) (fun i => i ≤ l.length ∧ idxI p (l.drop i) i = idxI p l 0) (fun i => l.length - i) 0 ⟨Nat.zero_le _, rfl⟩ ?_ ?_
  · (refine Imp.weak id (fun _ _ _ _ h => h) (by first|assumption|(intro b hb; cases hb)) ?_ ?_ <;> (repeat' (first|exact trivial|exact Nat.lt_of_lt_of_le (Nat.lt_succ_self _) (Nat.le_of_ble_eq_true rfl)|exact rfl|exact Or.inl ⟨rfl, rfl⟩|exact Or.inr ⟨rfl, LF.fn _ _ ‹_›⟩|refine ⟨?_, ?_⟩)))
  rintro i ⟨hi, hf⟩ K1 hK1
  by_cases hlt : i < l.length
  · have hstep : idxI p (l.drop i) i = if p l[i] then (i : Int) else idxI p (l.drop (i + 1)) (i + 1) := by
      rw [List.drop_eq_getElem_cons hlt]; rfl
    repeat (first|refine AL.do tok rfl rfl ?_|refine AL.nil ?_|refine AW.seq fun K hK => ?_|refine AW.region ?_|refine AL.no rfl rfl ?_|(refine hK _ ?_; clear hK)|(clear hK; refine hK _ ?_; clear hK)|(clear hK; clear hK; refine hK _ ?_; clear hK)|refine qaW ?_|refine qa1 tok ?_|refine qa2 tok ?_|refine qa3 tok ?_|refine AL.loadR tok rfl rfl rfl rfl rfl rfl ?_|refine qa4 tok ?_|refine qa5 tok ?_|refine AW.block ?_|refine AW.exit ?_|refine AW.skip ?_)
    refine AW.cond rfl (fun hg => ?_) (fun hg => by simp at hg; omega)
    repeat (first|refine AL.do tok rfl rfl ?_|refine AL.nil ?_|refine AW.seq fun K hK => ?_|refine AW.region ?_|refine AL.no rfl rfl ?_|(refine hK _ ?_; clear hK)|(clear hK; refine hK _ ?_; clear hK)|(clear hK; clear hK; refine hK _ ?_; clear hK)|refine qaW ?_|refine qa1 tok ?_|refine qa2 tok ?_|refine qa3 tok ?_|refine AL.loadR tok rfl rfl rfl rfl rfl rfl ?_|refine qa4 tok ?_|refine qa5 tok ?_|refine AW.block ?_|refine AW.exit ?_|refine AW.skip ?_)
    refine AL.callPoly rfl rfl rfl rfl rfl hlc hlb (hc l[i] (by simp)) (fun r hr => ?_)
    subst hr
    repeat (first|refine AL.do tok rfl rfl ?_|refine AL.nil ?_|refine AW.seq fun K hK => ?_|refine AW.region ?_|refine AL.no rfl rfl ?_|(refine hK _ ?_; clear hK)|(clear hK; refine hK _ ?_; clear hK)|(clear hK; clear hK; refine hK _ ?_; clear hK)|refine qaW ?_|refine qa1 tok ?_|refine qa2 tok ?_|refine qa3 tok ?_|refine AL.loadR tok rfl rfl rfl rfl rfl rfl ?_|refine qa4 tok ?_|refine qa5 tok ?_|refine AW.block ?_|refine AW.exit ?_|refine AW.skip ?_)
    refine AW.cond rfl (fun hg => ?_) (fun hg => ?_)
    · repeat (first|refine AL.do tok rfl rfl ?_|refine AL.nil ?_|refine AW.seq fun K hK => ?_|refine AW.region ?_|refine AL.no rfl rfl ?_|(refine hK _ ?_; clear hK)|(clear hK; refine hK _ ?_; clear hK)|(clear hK; clear hK; refine hK _ ?_; clear hK)|refine qaW ?_|refine qa1 tok ?_|refine qa2 tok ?_|refine qa3 tok ?_|refine AL.loadR tok rfl rfl rfl rfl rfl rfl ?_|refine qa4 tok ?_|refine qa5 tok ?_|refine AW.block ?_|refine AW.exit ?_|refine AW.skip ?_)
      refine AW.ret ?_
      refine ⟨_, _, _, _, rfl, Out.pure rfl ⟨?_, rfl, rfl, rfl⟩ rfl⟩
      rw [← hf, hstep, hg]; rfl
    · repeat (first|refine AL.do tok rfl rfl ?_|refine AL.nil ?_|refine AW.seq fun K hK => ?_|refine AW.region ?_|refine AL.no rfl rfl ?_|(refine hK _ ?_; clear hK)|(clear hK; refine hK _ ?_; clear hK)|(clear hK; clear hK; refine hK _ ?_; clear hK)|refine qaW ?_|refine qa1 tok ?_|refine qa2 tok ?_|refine qa3 tok ?_|refine AL.loadR tok rfl rfl rfl rfl rfl rfl ?_|refine qa4 tok ?_|refine qa5 tok ?_|refine AW.block ?_|refine AW.exit ?_|refine AW.skip ?_)
      refine hK1 _ (i + 1) ⟨by omega, ?_⟩ (by omega) ?_
      · rw [← hf, hstep, hg]; rfl
      · (refine Imp.weak id (fun _ _ _ _ h => h) (by first|assumption|(intro b hb; cases hb)) ?_ ?_ <;> (repeat' (first|exact trivial|exact Nat.lt_of_lt_of_le (Nat.lt_succ_self _) (Nat.le_of_ble_eq_true rfl)|exact rfl|exact Or.inl ⟨rfl, rfl⟩|exact Or.inr ⟨rfl, LF.fn _ _ ‹_›⟩|refine ⟨?_, ?_⟩)))
  · repeat (first|refine AL.do tok rfl rfl ?_|refine AL.nil ?_|refine AW.seq fun K hK => ?_|refine AW.region ?_|refine AL.no rfl rfl ?_|(refine hK _ ?_; clear hK)|(clear hK; refine hK _ ?_; clear hK)|(clear hK; clear hK; refine hK _ ?_; clear hK)|refine qaW ?_|refine qa1 tok ?_|refine qa2 tok ?_|refine qa3 tok ?_|refine AL.loadR tok rfl rfl rfl rfl rfl rfl ?_|refine qa4 tok ?_|refine qa5 tok ?_|refine AW.block ?_|refine AW.exit ?_|refine AW.skip ?_)
    refine AW.cond rfl (fun hg => by simp at hg; omega) (fun hg => ?_)
    repeat (first|refine AL.do tok rfl rfl ?_|refine AL.nil ?_|refine AW.seq fun K hK => ?_|refine AW.region ?_|refine AL.no rfl rfl ?_|(refine hK _ ?_; clear hK)|(clear hK; refine hK _ ?_; clear hK)|(clear hK; clear hK; refine hK _ ?_; clear hK)|refine qaW ?_|refine qa1 tok ?_|refine qa2 tok ?_|refine qa3 tok ?_|refine AL.loadR tok rfl rfl rfl rfl rfl rfl ?_|refine qa4 tok ?_|refine qa5 tok ?_|refine AW.block ?_|refine AW.exit ?_|refine AW.skip ?_)
    refine AW.ret ?_
    refine ⟨_, _, _, _, rfl, Out.pure rfl ⟨?_, rfl, rfl, rfl⟩ rfl⟩
    rw [← hf, List.drop_eq_nil_of_le (by omega)]
    rfl
theorem boxI_lf (a b : Int) : ∀ x ∈ [boxI a, boxI b], LFB x := by
  intro x hx
  rcases List.mem_cons.1 hx with rfl | hx
  · intro y hy; rw [List.mem_singleton.1 hy]; exact .d _
  · rw [List.mem_singleton.1 hx]
    intro y hy; rw [List.mem_singleton.1 hy]; exact .d _
abbrev capL : List AV := [.ptr (.par 0) 0, .ptr (.par 1) 0]
abbrev rowI (l : List It) : Rw := ⟨76, 4, l.map encIt⟩
theorem keep_step {l W : List It} {p : It → Bool} {k j : Nat} (hj : j < l.length) (hk : k ≤ j) (hW : W.length = l.length) (h1 : W.take k = (l.take j).filter (fun x => !p x)) (h2 : W.drop j = l.drop j) :
    W[j]'(by omega) = l[j] ∧ (p l[j] = true → W.take k = (l.take (j + 1)).filter (fun x => !p x)) ∧ (p l[j] = false → (W.set k l[j]).take (k + 1) = (l.take (j + 1)).filter (fun x => !p x)) ∧ W.drop (j + 1) = l.drop (j + 1) ∧ (W.set k l[j]).drop (j + 1) = l.drop (j + 1) := by
  have e : W[j]'(by omega) = l[j] := by
    have := congrArg (fun x => x[0]?) h2
    simp only [List.getElem?_drop, Nat.add_zero] at this
    rw [List.getElem?_eq_getElem (by omega), List.getElem?_eq_getElem hj] at this
    exact Option.some.inj this
  have e2 : W.drop (j + 1) = l.drop (j + 1) := by
    have := congrArg (List.drop 1) h2
    simpa [List.drop_drop] using this
  refine ⟨e, fun hp => ?_, fun hp => ?_, e2, ?_⟩
  · rw [List.take_succ_eq_append_getElem hj, List.filter_append, ← h1]; simp [hp]
  · rw [List.take_succ_eq_append_getElem hj, List.filter_append, ← h1, List.take_succ_eq_append_getElem (by simp; omega), List.take_set_of_le (Nat.le_refl _)]
    simp [hp]
  · rw [List.drop_set_of_lt (by omega), e2]
theorem outDI {σ : St} {a b : Int} {j : Nat} {l : List It} (hp : σ.Hp = [boxI a, boxI b]) (hr : hk σ (.loc j) = some (rowI l).blk) : OutX σ (fun Hp' Hr => AV.own (.loc 0) = AV.own (.loc 0) ∧ Hp' = [boxI a, boxI b] ∧ Hr = [rowI l]) [boxI a, boxI b] [rowI l] [j] := by
  refine ⟨⟨rfl, rfl, rfl⟩, rfl, by simp, fun k i rw h1 h2 => ?_, hp, rfl⟩
  cases k with
  | zero =>
    simp at h1 h2
    subst h1; subst h2
    exact hr
  | succ k => simp at h1
set_option maxHeartbeats 16000000 in
set_option maxRecDepth 10000 in
theorem deleteI_calls (l : List It) (a b : Int) (hl : l.length ≤ 1000000) : ACallsX Try.prog 30 [.own (.loc 0), .fn 31 capL] [boxI a, boxI b] [rowI l] fun r Hp' Hr => r = .own (.loc 0) ∧ Hp' = [boxI a, boxI b] ∧ Hr = [rowI (l.filter fun x => !onL a b x)] := by
  have k1 := indexI_calls l (onL a b) 31 capL [boxI a, boxI b] (fun c _ => onL_calls a b c) (by
    intro x hx
    simp only [List.mem_cons, List.not_mem_nil, or_false] at hx
    rcases hx with rfl | rfl <;> exact .ptr _ _) (boxI_lf a b)
  have hlf := boxI_lf a b
  have hneg := @idxI_neg (onL a b) l 0
  have hpos := @idxI_pos (onL a b) l 0
  generalize idxI (onL a b) l 0 = r0 at *
  have hlm : (l.map encIt).length = l.length := List.length_map ..
  refine ACallsX.body tok Try.func30 rfl (by kernel_rfl) (by rw [Try.ntmps30]; simp) ?_
  simp only [Try.ntmps30, Try.results30, argT, rowsH, Rw.blk, List.length_cons, List.length_nil]
  repeat (first|refine AL.do tok rfl rfl ?_|refine AL.nil ?_|refine AW.seq fun K hK => ?_|refine AW.region ?_|refine AL.no rfl rfl ?_|(refine hK _ ?_; clear hK)|(clear hK; refine hK _ ?_; clear hK)|(clear hK; clear hK; refine hK _ ?_; clear hK)|refine qaW ?_|refine qa1 tok ?_|refine qa2 tok ?_|refine qa3 tok ?_|refine AL.loadR tok rfl rfl rfl rfl rfl rfl ?_|refine qa4 tok ?_|refine qa5 tok ?_|refine AW.block ?_|refine AW.exit ?_|refine AW.skip ?_)
  refine AL.callBU rfl rfl rfl rfl [.par 0, .par 1] (HpC := [boxI a, boxI b]) rfl rfl (by decide) (ys := .d (.row (l.map encIt)) :: .fn 31 capL :: []) rfl rfl k1 (fun r hr => ?_)
  subst hr
  refine ⟨rfl, ?_⟩
  repeat (first|refine AL.do tok rfl rfl ?_|refine AL.nil ?_|refine AW.seq fun K hK => ?_|refine AW.region ?_|refine AL.no rfl rfl ?_|(refine hK _ ?_; clear hK)|(clear hK; refine hK _ ?_; clear hK)|(clear hK; clear hK; refine hK _ ?_; clear hK)|refine qaW ?_|refine qa1 tok ?_|refine qa2 tok ?_|refine qa3 tok ?_|refine AL.loadR tok rfl rfl rfl rfl rfl rfl ?_|refine qa4 tok ?_|refine qa5 tok ?_|refine AW.block ?_|refine AW.exit ?_|refine AW.skip ?_)
  refine AW.cond rfl (fun hg => ?_) (fun hg => ?_)
  · repeat (first|refine AL.do tok rfl rfl ?_|refine AL.nil ?_|refine AW.seq fun K hK => ?_|refine AW.region ?_|refine AL.no rfl rfl ?_|(refine hK _ ?_; clear hK)|(clear hK; refine hK _ ?_; clear hK)|(clear hK; clear hK; refine hK _ ?_; clear hK)|refine qaW ?_|refine qa1 tok ?_|refine qa2 tok ?_|refine qa3 tok ?_|refine AL.loadR tok rfl rfl rfl rfl rfl rfl ?_|refine qa4 tok ?_|refine qa5 tok ?_|refine AW.block ?_|refine AW.exit ?_|refine AW.skip ?_)
    refine AW.ret ?_
    refine ⟨_, _, _, _, _, rfl, rfl, rfl, outDI rfl (j := 0) ?_⟩
    rw [hneg (by simpa using hg)]
    rfl
  · obtain ⟨j0, hj0, hr0, hf1, hf2⟩ := hpos (by simpa using hg)
    rw [Nat.zero_add] at hr0
    subst hr0
    clear hneg hpos
    repeat (first|refine AL.do tok rfl rfl ?_|refine AL.nil ?_|refine AW.seq fun K hK => ?_|refine AW.region ?_|refine AL.no rfl rfl ?_|(refine hK _ ?_; clear hK)|(clear hK; refine hK _ ?_; clear hK)|(clear hK; clear hK; refine hK _ ?_; clear hK)|refine qaW ?_|refine qa1 tok ?_|refine qa2 tok ?_|refine qa3 tok ?_|refine AL.loadR tok rfl rfl rfl rfl rfl rfl ?_|refine qa4 tok ?_|refine qa5 tok ?_|refine AW.block ?_|refine AW.exit ?_|refine AW.skip ?_)
    refine AW.loop (ι := Nat × Nat × List It) (fun s => ⟨42, [(6, i64 s.1), (5, i64 s.2.1), (0, .own (.loc 0)), (1, .fn 31 capL)], [(0, some (rowI s.2.2).blk)], [boxI a, boxI b], 1⟩) (fun s => s.1 ≤ l.length ∧ s.2.1 < s.1 ∧ s.2.2.length = l.length ∧ s.2.2.take s.2.1 = (l.take s.1).filter (fun x => !onL a b x) ∧ s.2.2.drop s.1 = l.drop s.1) (fun s => l.length - s.1) (j0 + 1, j0, l) ⟨hj0, Nat.lt_succ_self _, rfl, hf2.symm, rfl⟩ ?_ ?_
    · (refine Imp.weak id (fun _ _ _ _ h => h) (by first|assumption|(intro b hb; cases hb)) ?_ ?_ <;> (repeat' (first|exact trivial|exact Nat.lt_of_lt_of_le (Nat.lt_succ_self _) (Nat.le_of_ble_eq_true rfl)|exact rfl|exact Or.inl ⟨rfl, rfl⟩|exact Or.inr ⟨rfl, LF.fn _ _ ‹_›⟩|refine ⟨?_, ?_⟩)))
    rintro ⟨i, k, W⟩ ⟨hi, hk, hW, h1, h2⟩ K1 hK1
    dsimp only at hi hk hW h1 h2 ⊢
    have hlw : (W.map encIt).length = l.length := by rw [List.length_map, hW]
    by_cases hlt : i < l.length
    · obtain ⟨e1, e2, e3, e4, e5⟩ := keep_step hlt (by omega) hW h1 h2
      repeat (first|refine AL.do tok rfl rfl ?_|refine AL.nil ?_|refine AW.seq fun K hK => ?_|refine AW.region ?_|refine AL.no rfl rfl ?_|(refine hK _ ?_; clear hK)|(clear hK; refine hK _ ?_; clear hK)|(clear hK; clear hK; refine hK _ ?_; clear hK)|refine qaW ?_|refine qa1 tok ?_|refine qa2 tok ?_|refine qa3 tok ?_|refine AL.loadR tok rfl rfl rfl rfl rfl rfl ?_|refine qa4 tok ?_|refine qa5 tok ?_|refine AW.block ?_|refine AW.exit ?_|refine AW.skip ?_)
      refine AW.cond rfl (fun hg => ?_) (fun hg => by simp [hlw] at hg; omega)
      repeat (first|refine AL.do tok rfl rfl ?_|refine AL.nil ?_|refine AW.seq fun K hK => ?_|refine AW.region ?_|refine AL.no rfl rfl ?_|(refine hK _ ?_; clear hK)|(clear hK; refine hK _ ?_; clear hK)|(clear hK; clear hK; refine hK _ ?_; clear hK)|refine qaW ?_|refine qa1 tok ?_|refine qa2 tok ?_|refine qa3 tok ?_|refine AL.loadR tok rfl rfl rfl rfl rfl rfl ?_|refine qa4 tok ?_|refine qa5 tok ?_|refine AW.block ?_|refine AW.exit ?_|refine AW.skip ?_)
      rw [e1]
      refine AL.callPoly rfl rfl rfl rfl rfl ?_ (boxI_lf a b) (onL_calls a b l[i]) (fun r hr => ?_)
      · intro x hx
        simp only [List.mem_cons, List.not_mem_nil, or_false] at hx
        rcases hx with rfl | rfl <;> exact .ptr _ _
      subst hr
      repeat (first|refine AL.do tok rfl rfl ?_|refine AL.nil ?_|refine AW.seq fun K hK => ?_|refine AW.region ?_|refine AL.no rfl rfl ?_|(refine hK _ ?_; clear hK)|(clear hK; refine hK _ ?_; clear hK)|(clear hK; clear hK; refine hK _ ?_; clear hK)|refine qaW ?_|refine qa1 tok ?_|refine qa2 tok ?_|refine qa3 tok ?_|refine AL.loadR tok rfl rfl rfl rfl rfl rfl ?_|refine qa4 tok ?_|refine qa5 tok ?_|refine AW.block ?_|refine AW.exit ?_|refine AW.skip ?_)
      refine AW.cond rfl (fun hg => ?_) (fun hg => ?_)
      · have hg : onL a b l[i] = false := by simpa using hg
        repeat (first|refine AL.do tok rfl rfl ?_|refine AL.nil ?_|refine AW.seq fun K hK => ?_|refine AW.region ?_|refine AL.no rfl rfl ?_|(refine hK _ ?_; clear hK)|(clear hK; refine hK _ ?_; clear hK)|(clear hK; clear hK; refine hK _ ?_; clear hK)|refine qaW ?_|refine qa1 tok ?_|refine qa2 tok ?_|refine qa3 tok ?_|refine AL.loadR tok rfl rfl rfl rfl rfl rfl ?_|refine qa4 tok ?_|refine qa5 tok ?_|refine AW.block ?_|refine AW.exit ?_|refine AW.skip ?_)
        refine AL.storeRM tok (l[i]) rfl rfl rfl (by first | omega | (simp; omega) | decide) rfl rfl rfl rfl (Nat.le_of_ble_eq_true rfl) rfl ?_
        repeat (first|refine AL.do tok rfl rfl ?_|refine AL.nil ?_|refine AW.seq fun K hK => ?_|refine AW.region ?_|refine AL.no rfl rfl ?_|(refine hK _ ?_; clear hK)|(clear hK; refine hK _ ?_; clear hK)|(clear hK; clear hK; refine hK _ ?_; clear hK)|refine qaW ?_|refine qa1 tok ?_|refine qa2 tok ?_|refine qa3 tok ?_|refine AL.loadR tok rfl rfl rfl rfl rfl rfl ?_|refine qa4 tok ?_|refine qa5 tok ?_|refine AW.block ?_|refine AW.exit ?_|refine AW.skip ?_)
        refine hK1 _ (i + 1, k + 1, W.set k l[i]) ⟨by show i + 1 ≤ _; omega, by show k + 1 < i + 1; omega, by simpa using hW, e3 hg, e5⟩ (by show l.length - (i + 1) < l.length - i; omega) ?_
        (refine Imp.weak id (fun _ _ _ _ h => h) (by first|assumption|(intro b hb; cases hb)) ?_ ?_ <;> (repeat' (first|exact trivial|exact Nat.lt_of_lt_of_le (Nat.lt_succ_self _) (Nat.le_of_ble_eq_true rfl)|exact rfl|exact Or.inl ⟨rfl, rfl⟩|exact Or.inr ⟨rfl, LF.fn _ _ ‹_›⟩|refine ⟨?_, ?_⟩)))
      · have hg : onL a b l[i] = true := by simpa using hg
        repeat (first|refine AL.do tok rfl rfl ?_|refine AL.nil ?_|refine AW.seq fun K hK => ?_|refine AW.region ?_|refine AL.no rfl rfl ?_|(refine hK _ ?_; clear hK)|(clear hK; refine hK _ ?_; clear hK)|(clear hK; clear hK; refine hK _ ?_; clear hK)|refine qaW ?_|refine qa1 tok ?_|refine qa2 tok ?_|refine qa3 tok ?_|refine AL.loadR tok rfl rfl rfl rfl rfl rfl ?_|refine qa4 tok ?_|refine qa5 tok ?_|refine AW.block ?_|refine AW.exit ?_|refine AW.skip ?_)
        refine hK1 _ (i + 1, k, W) ⟨by show i + 1 ≤ _; omega, by show k < i + 1; omega, hW, e2 hg, e4⟩ (by show l.length - (i + 1) < l.length - i; omega) ?_
        (refine Imp.weak id (fun _ _ _ _ h => h) (by first|assumption|(intro b hb; cases hb)) ?_ ?_ <;> (repeat' (first|exact trivial|exact Nat.lt_of_lt_of_le (Nat.lt_succ_self _) (Nat.le_of_ble_eq_true rfl)|exact rfl|exact Or.inl ⟨rfl, rfl⟩|exact Or.inr ⟨rfl, LF.fn _ _ ‹_›⟩|refine ⟨?_, ?_⟩)))
    · repeat (first|refine AL.do tok rfl rfl ?_|refine AL.nil ?_|refine AW.seq fun K hK => ?_|refine AW.region ?_|refine AL.no rfl rfl ?_|(refine hK _ ?_; clear hK)|(clear hK; refine hK _ ?_; clear hK)|(clear hK; clear hK; refine hK _ ?_; clear hK)|refine qaW ?_|refine qa1 tok ?_|refine qa2 tok ?_|refine qa3 tok ?_|refine AL.loadR tok rfl rfl rfl rfl rfl rfl ?_|refine qa4 tok ?_|refine qa5 tok ?_|refine AW.block ?_|refine AW.exit ?_|refine AW.skip ?_)
      refine AW.cond rfl (fun hg => by simp [hlw] at hg; omega) (fun hg => ?_)
      have hil : i = l.length := by omega
      subst hil
      rw [List.take_length] at h1
      have hkl : k ≤ W.length := by omega
      have hE : W.map encIt ≠ [] := fun e => by rw [e] at hlw; simp at hlw; omega
      repeat (first|refine AL.do tok rfl rfl ?_|refine AL.nil ?_|refine AW.seq fun K hK => ?_|refine AW.region ?_|refine AL.no rfl rfl ?_|(refine hK _ ?_; clear hK)|(clear hK; refine hK _ ?_; clear hK)|(clear hK; clear hK; refine hK _ ?_; clear hK)|refine qaW ?_|refine qa1 tok ?_|refine qa2 tok ?_|refine qa3 tok ?_|refine AL.loadR tok rfl rfl rfl rfl rfl rfl ?_|refine qa4 tok ?_|refine qa5 tok ?_|refine AW.block ?_|refine AW.exit ?_|refine AW.skip ?_)
      refine AL.clear tok rfl rfl rfl rfl (by first|assumption|(intro e; have := congrArg List.length e; simp at this; omega)) rfl rfl rfl rfl rfl rfl rfl ?_
      repeat (first|refine AL.do tok rfl rfl ?_|refine AL.nil ?_|refine AW.seq fun K hK => ?_|refine AW.region ?_|refine AL.no rfl rfl ?_|(refine hK _ ?_; clear hK)|(clear hK; refine hK _ ?_; clear hK)|(clear hK; clear hK; refine hK _ ?_; clear hK)|refine qaW ?_|refine qa1 tok ?_|refine qa2 tok ?_|refine qa3 tok ?_|refine AL.loadR tok rfl rfl rfl rfl rfl rfl ?_|refine qa4 tok ?_|refine qa5 tok ?_|refine AW.block ?_|refine AW.exit ?_|refine AW.skip ?_)
      refine AW.trunc 4 rfl rfl (fun e => ?_) ?_
      · have h3 := congrArg List.length e
        simp only [List.length_append, List.length_take, List.length_replicate, List.length_drop, List.length_nil, hlw, Int.toNat_natCast, Nat.zero_add] at h3
        omega
      refine AW.ret ?_
      refine ⟨_, _, _, _, _, rfl, rfl, rfl, outDI rfl (j := 1) ?_⟩
      have hkk : ((W.map encIt).take k).length = k := by rw [List.length_take, hlw]; omega
      simp only [Int.toNat_natCast, Nat.zero_add]
      show some (Blk.row _ _ _) = some (Blk.row _ _ ((l.filter fun x => !onL a b x).map encIt))
      rw [← h1, List.map_take, Int.toNat_zero, Nat.sub_zero]
      congr 2
      rw [List.append_assoc, List.take_append_of_le_length (by omega), List.take_take, Nat.min_self]
end Go.Proofs.Try
