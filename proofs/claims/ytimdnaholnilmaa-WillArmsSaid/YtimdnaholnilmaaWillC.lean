/- will: cancelled, armed, taken. -/
import Derived.Test.YtimdnaholnilmaaWillB
set_option linter.unusedSimpArgs false
set_option linter.unusedVariables false
namespace Go.Proofs.Try
open Go Go.AM

theorem idxS_lt {p : Du → Bool} : ∀ {l : List Du} {k : Nat} {i : Int}, idxS p l k = i → ¬ i < 0 → ∃ j : Nat, i = ((k + j : Nat) : Int) ∧ ∃ h : j < l.length, p l[j] = true ∧ ∀ m (hm : m < j), p (l[m]'(by omega)) = false
  | [], k, i, h, hi => by simp [idxS] at h; omega
  | c :: r, k, i, h, hi => by
    unfold idxS at h
    by_cases hc : p c = true
    · rw [if_pos hc] at h
      exact ⟨0, by omega, by simp, by simpa using hc, fun m hm => by omega⟩
    · rw [if_neg hc] at h
      obtain ⟨j, h1, h2, h3, h4⟩ := idxS_lt h hi
      refine ⟨j + 1, by omega, by simpa using h2, by simpa using h3, fun m hm => ?_⟩
      cases m with
      | zero => simpa using hc
      | succ m => simpa using h4 m (by omega)
theorem idxS_neg {p : Du → Bool} : ∀ {l : List Du} {k : Nat}, idxS p l k < 0 → ∀ c ∈ l, p c = false
  | [], k, h, c, hc => by simp at hc
  | c :: r, k, h, d, hd => by
    unfold idxS at h
    by_cases hc : p c = true
    · rw [if_pos hc] at h; omega
    · rw [if_neg hc] at h
      rcases List.mem_cons.1 hd with rfl | hd
      · simpa using hc
      · exact idxS_neg h d hd
/-- The list without the first will of a client. -/
def cancelS (l : List Du) (q : ByteArray) : List Du := l.eraseP fun d => decide (d.client = q)
def hasS (l : List Du) (q : ByteArray) : Bool := l.any fun d => decide (d.client = q)

theorem shiftL {α : Type} (A : List α) (j : Nat) (h : j < A.length) : List.take j A ++ List.take (A.length - j) (List.drop (j + 1) (List.take (j + 1 + (A.length - (j + 1))) A)) ++ List.drop (j + Min.min (List.drop (j + 1) (List.take (j + 1 + (A.length - (j + 1))) A)).length (A.length - j)) A =
    List.take j A ++ List.drop (j + 1) A ++ List.drop (A.length - 1) A := by
  rw [show j + 1 + (A.length - (j + 1)) = A.length by omega, List.take_length, List.length_drop, Nat.min_eq_left (by omega), List.take_of_length_le (l := List.drop (j + 1) A) (by simp; omega), show j + (A.length - (j + 1)) = A.length - 1 by omega]
theorem eraseP_idx {α : Type} {p : α → Bool} : ∀ {l : List α} {j : Nat} (h : j < l.length), p l[j] = true → (∀ m (hm : m < j), p (l[m]'(by omega)) = false) → l.eraseP p = l.take j ++ l.drop (j + 1)
  | a :: l, 0, h, hp, hb => by simp at hp; simp [hp]
  | a :: l, j + 1, h, hp, hb => by
    have h0 : p a = false := by simpa using hb 0 (by omega)
    have ih := eraseP_idx (l := l) (j := j) (by simpa using h) (by simpa using hp) (fun m hm => by simpa using hb (m + 1) (by omega))
    rw [List.eraseP_cons_of_neg (by simp [h0]), ih]
    rfl

set_option maxHeartbeats 8000000 in
set_option maxRecDepth 10000 in
theorem cancel_ot (l : List Du) (q : ByteArray) (hl : l.length ≤ 1000000) (hp : ∀ d ∈ l, d.msg.props.length ≤ 4398046510976) : ACallOT Try.prog 19 [rowD l, st q] 51 11 ((cancelS l q).map encD) (.one (.bool (hasS l q))) := by
  have hcl := cloneD_calls l hl hp
  refine ACalls.body tok Try.func19 rfl (by kernel_rfl) (by rw [Try.ntmps19]; simp) ?_
  simp only [Try.ntmps19, Try.results19, argT]
  repeat (first|refine AL.do tok rfl rfl ?_|refine AL.nil ?_|refine AW.seq fun K hK => ?_|refine AW.region ?_|refine AL.no rfl rfl ?_|(refine hK _ ?_; clear hK)|(clear hK; refine hK _ ?_; clear hK)|(clear hK; clear hK; refine hK _ ?_; clear hK)|refine qa7 qv1 ?_|refine qa7 qv2 ?_|refine qa7 qv3 ?_|refine qa7 (qv4 tok) ?_|refine qa7 (qv5 tok) ?_|refine qa7 qv6 ?_|refine qa7 qv7 ?_|refine qa7 (qv8 tok) ?_|refine qa7 (qv9 tok) ?_|refine qa7 (qv10 tok) ?_|refine qa7 (qv11 tok) ?_|refine qa7 (qv12 tok) ?_|refine qa7 (qv13 tok) ?_|refine qa7 (qv14 tok) ?_|refine qa7 (qv15 tok) ?_|refine qa7 (qv16 tok) ?_|refine qa7 qv17 ?_|refine qa7 (qv18 tok) ?_|refine qa7 qv19 ?_|refine qa7 (qv20 tok) ?_|refine qa7 (qv21 tok) ?_|refine qa7 (qv22 tok) ?_|refine qa1 tok ?_|refine qa2 tok ?_|refine qa3 tok ?_|refine AL.loadR tok rfl rfl rfl rfl rfl rfl ?_|refine qa4 tok ?_|refine qa5 tok ?_|refine AW.block ?_|refine AW.exit ?_|refine AW.skip ?_)
  refine AL.callO rfl rfl rfl rfl rfl hcl (fun xs hxs => ?_)
  subst hxs
  repeat (first|refine AL.do tok rfl rfl ?_|refine AL.nil ?_|refine AW.seq fun K hK => ?_|refine AW.region ?_|refine AL.no rfl rfl ?_|(refine hK _ ?_; clear hK)|(clear hK; refine hK _ ?_; clear hK)|(clear hK; clear hK; refine hK _ ?_; clear hK)|refine qa7 qv1 ?_|refine qa7 qv2 ?_|refine qa7 qv3 ?_|refine qa7 (qv4 tok) ?_|refine qa7 (qv5 tok) ?_|refine qa7 qv6 ?_|refine qa7 qv7 ?_|refine qa7 (qv8 tok) ?_|refine qa7 (qv9 tok) ?_|refine qa7 (qv10 tok) ?_|refine qa7 (qv11 tok) ?_|refine qa7 (qv12 tok) ?_|refine qa7 (qv13 tok) ?_|refine qa7 (qv14 tok) ?_|refine qa7 (qv15 tok) ?_|refine qa7 (qv16 tok) ?_|refine qa7 qv17 ?_|refine qa7 (qv18 tok) ?_|refine qa7 qv19 ?_|refine qa7 (qv20 tok) ?_|refine qa7 (qv21 tok) ?_|refine qa7 (qv22 tok) ?_|refine qa1 tok ?_|refine qa2 tok ?_|refine qa3 tok ?_|refine AL.loadR tok rfl rfl rfl rfl rfl rfl ?_|refine qa4 tok ?_|refine qa5 tok ?_|refine AW.block ?_|refine AW.exit ?_|refine AW.skip ?_)
  refine AL.callBU rfl rfl rfl rfl [.loc 0] (ys := [rowD l, .fn 36 [.ptr (.par 0) 0]]) (HpC := [.box 9 [st q]]) rfl rfl (by decide) rfl rfl
    (indexF_calls l _ _ _ _ (fun c _ => cancel1_calls c q) (by simp; exact .ptr _ _) (by simp [LFB]; exact .d _)) (fun r hr => ⟨by subst hr; rfl, ?_⟩)
  subst hr
  repeat (first|refine AL.do tok rfl rfl ?_|refine AL.nil ?_|refine AW.seq fun K hK => ?_|refine AW.region ?_|refine AL.no rfl rfl ?_|(refine hK _ ?_; clear hK)|(clear hK; refine hK _ ?_; clear hK)|(clear hK; clear hK; refine hK _ ?_; clear hK)|refine qa7 qv1 ?_|refine qa7 qv2 ?_|refine qa7 qv3 ?_|refine qa7 (qv4 tok) ?_|refine qa7 (qv5 tok) ?_|refine qa7 qv6 ?_|refine qa7 qv7 ?_|refine qa7 (qv8 tok) ?_|refine qa7 (qv9 tok) ?_|refine qa7 (qv10 tok) ?_|refine qa7 (qv11 tok) ?_|refine qa7 (qv12 tok) ?_|refine qa7 (qv13 tok) ?_|refine qa7 (qv14 tok) ?_|refine qa7 (qv15 tok) ?_|refine qa7 (qv16 tok) ?_|refine qa7 qv17 ?_|refine qa7 (qv18 tok) ?_|refine qa7 qv19 ?_|refine qa7 (qv20 tok) ?_|refine qa7 (qv21 tok) ?_|refine qa7 (qv22 tok) ?_|refine qa1 tok ?_|refine qa2 tok ?_|refine qa3 tok ?_|refine AL.loadR tok rfl rfl rfl rfl rfl rfl ?_|refine qa4 tok ?_|refine qa5 tok ?_|refine AW.block ?_|refine AW.exit ?_|refine AW.skip ?_)
  generalize hi : idxS (fun d => decide (d.client = q)) l 0 = i
  refine AW.cond rfl (fun hg => ?_) (fun hg => ?_)
  · rw [decide_eq_true_eq] at hg
    subst hi
    have hn := idxS_neg hg
    repeat (first|refine AL.do tok rfl rfl ?_|refine AL.nil ?_|refine AW.seq fun K hK => ?_|refine AW.region ?_|refine AL.no rfl rfl ?_|(refine hK _ ?_; clear hK)|(clear hK; refine hK _ ?_; clear hK)|(clear hK; clear hK; refine hK _ ?_; clear hK)|refine qa7 qv1 ?_|refine qa7 qv2 ?_|refine qa7 qv3 ?_|refine qa7 (qv4 tok) ?_|refine qa7 (qv5 tok) ?_|refine qa7 qv6 ?_|refine qa7 qv7 ?_|refine qa7 (qv8 tok) ?_|refine qa7 (qv9 tok) ?_|refine qa7 (qv10 tok) ?_|refine qa7 (qv11 tok) ?_|refine qa7 (qv12 tok) ?_|refine qa7 (qv13 tok) ?_|refine qa7 (qv14 tok) ?_|refine qa7 (qv15 tok) ?_|refine qa7 (qv16 tok) ?_|refine qa7 qv17 ?_|refine qa7 (qv18 tok) ?_|refine qa7 qv19 ?_|refine qa7 (qv20 tok) ?_|refine qa7 (qv21 tok) ?_|refine qa7 (qv22 tok) ?_|refine qa1 tok ?_|refine qa2 tok ?_|refine qa3 tok ?_|refine AL.loadR tok rfl rfl rfl rfl rfl rfl ?_|refine qa4 tok ?_|refine qa5 tok ?_|refine AW.block ?_|refine AW.exit ?_|refine AW.skip ?_)
    refine AW.ret ?_
    refine ⟨_, _, _, _, rfl, Out.rowT rfl ⟨?_, ?_⟩ rfl⟩
    · have : hasS l q = false := by simpa [hasS] using hn
      rw [this]
    · rw [cancelS, List.eraseP_of_forall_not (fun a ha => by simpa using hn a ha)]
  · rw [decide_eq_false_iff_not] at hg
    obtain ⟨j, rfl, hj, hpj, hbef⟩ := idxS_lt hi hg
    rw [Nat.zero_add] at *
    have hlm : (l.map encD).length = l.length := List.length_map ..
    repeat (first|refine AL.do tok rfl rfl ?_|refine AL.nil ?_|refine AW.seq fun K hK => ?_|refine AW.region ?_|refine AL.no rfl rfl ?_|(refine hK _ ?_; clear hK)|(clear hK; refine hK _ ?_; clear hK)|(clear hK; clear hK; refine hK _ ?_; clear hK)|refine qa7 qv1 ?_|refine qa7 qv2 ?_|refine qa7 qv3 ?_|refine qa7 (qv4 tok) ?_|refine qa7 (qv5 tok) ?_|refine qa7 qv6 ?_|refine qa7 qv7 ?_|refine qa7 (qv8 tok) ?_|refine qa7 (qv9 tok) ?_|refine qa7 (qv10 tok) ?_|refine qa7 (qv11 tok) ?_|refine qa7 (qv12 tok) ?_|refine qa7 (qv13 tok) ?_|refine qa7 (qv14 tok) ?_|refine qa7 (qv15 tok) ?_|refine qa7 (qv16 tok) ?_|refine qa7 qv17 ?_|refine qa7 (qv18 tok) ?_|refine qa7 qv19 ?_|refine qa7 (qv20 tok) ?_|refine qa7 (qv21 tok) ?_|refine qa7 (qv22 tok) ?_|refine qa1 tok ?_|refine qa2 tok ?_|refine qa3 tok ?_|refine AL.loadR tok rfl rfl rfl rfl rfl rfl ?_|refine qa4 tok ?_|refine qa5 tok ?_|refine AW.block ?_|refine AW.exit ?_|refine AW.skip ?_)
    refine AW.any mix [[], [], [0, 1], [], [], [4], [3, 4, 5], [0, 1, 2, 3, 4, 5, 6]] [[17, 19, 20, 21, 22], [16, 19, 20, 21, 22], [19, 20, 21, 22], [16, 17, 18, 20, 21], [16, 17, 18, 19], [16, 17, 18, 19], [16, 17, 18], []] [[], [], [], [], [], [], [], []] [(7, 1)] (by decide +kernel) rfl (by first|assumption|(intro b hb; cases hb)) ?_ <;> repeat' (first|refine AR.step rfl rfl (by first|exact OSp.do tok rfl rfl rfl|exact OSp.no rfl rfl|exact OSp.noN rfl|exact OSp.v rfl rfl qv1|exact OSp.v rfl rfl qv2|exact OSp.v rfl rfl qv3|exact OSp.v rfl rfl (qv4 tok)|exact OSp.v rfl rfl (qv5 tok)|exact OSp.v rfl rfl qv6|exact OSp.v rfl rfl qv7|exact OSp.v rfl rfl (qv8 tok)|exact OSp.v rfl rfl (qv9 tok)|exact OSp.v rfl rfl (qv10 tok)|exact OSp.v rfl rfl (qv11 tok)|exact OSp.v rfl rfl (qv12 tok)|exact OSp.v rfl rfl (qv13 tok)|exact OSp.v rfl rfl (qv14 tok)|exact OSp.v rfl rfl (qv15 tok)|exact OSp.v rfl rfl (qv16 tok)|exact OSp.v rfl rfl qv17|exact OSp.v rfl rfl (qv18 tok)|exact OSp.v rfl rfl qv19|exact OSp.v rfl rfl (qv20 tok)|exact OSp.v rfl rfl (qv21 tok)|exact OSp.v rfl rfl (qv22 tok)|exact OSp.copy tok rfl rfl rfl rfl rfl rfl rfl (by (first | (intro x hx; obtain ⟨_, _, rfl⟩ := List.mem_map.1 hx; rfl) | (intro x hx; replace hx := List.mem_of_mem_take (List.mem_of_mem_drop hx); obtain ⟨_, _, rfl⟩ := List.mem_map.1 hx; rfl) | (simp; done))) rfl rfl rfl rfl|exact OSp.buildSlice tok rfl rfl rfl rfl rfl rfl rfl rfl|exact OSp.append tok rfl rfl rfl rfl rfl rfl rfl rfl rfl rfl rfl (by first|(intro x hx; obtain ⟨_, _, rfl⟩ := List.mem_map.1 hx; rfl)|(simp; done)) (by simp; omega) (by simp; omega)|exact OSp.alloc tok rfl rfl rfl rfl|exact OSp.box tok rfl rfl rfl rfl rfl|exact OSp.boxC tok rfl rfl rfl rfl rfl|exact OSp.store tok rfl rfl rfl rfl rfl rfl rfl rfl) (by rfl) (by rfl) ?_|refine AR.done rfl rfl ?_|(refine AR.guard rfl rfl rfl rfl (fun hg => ?_) (fun hg => ?_) <;> ((try simp only [DX] at hg) <;> (try first|(exfalso; omega)|exact absurd trivial hg|exact False.elim hg|exact absurd rfl hg))))
    simp only [Int.toNat_natCast, toNat_succ, Nat.zero_add]
    rw [shiftL _ _ (by omega)]
    have hne : List.take j (l.map encD) ++ List.drop (j + 1) (l.map encD) ++ List.drop ((l.map encD).length - 1) (l.map encD) ≠ [] := by
      intro e
      have := congrArg List.length e
      simp at this
      omega
    have hlen : (List.take j (l.map encD) ++ List.drop (j + 1) (l.map encD) ++ List.drop ((l.map encD).length - 1) (l.map encD)).length = l.length := by simp; omega
    repeat (first|refine AL.do tok rfl rfl ?_|refine AL.nil ?_|refine AW.seq fun K hK => ?_|refine AW.region ?_|refine AL.no rfl rfl ?_|(refine hK _ ?_; clear hK)|(clear hK; refine hK _ ?_; clear hK)|(clear hK; clear hK; refine hK _ ?_; clear hK)|refine qa7 qv1 ?_|refine qa7 qv2 ?_|refine qa7 qv3 ?_|refine qa7 (qv4 tok) ?_|refine qa7 (qv5 tok) ?_|refine qa7 qv6 ?_|refine qa7 qv7 ?_|refine qa7 (qv8 tok) ?_|refine qa7 (qv9 tok) ?_|refine qa7 (qv10 tok) ?_|refine qa7 (qv11 tok) ?_|refine qa7 (qv12 tok) ?_|refine qa7 (qv13 tok) ?_|refine qa7 (qv14 tok) ?_|refine qa7 (qv15 tok) ?_|refine qa7 (qv16 tok) ?_|refine qa7 qv17 ?_|refine qa7 (qv18 tok) ?_|refine qa7 qv19 ?_|refine qa7 (qv20 tok) ?_|refine qa7 (qv21 tok) ?_|refine qa7 (qv22 tok) ?_|refine qa1 tok ?_|refine qa2 tok ?_|refine qa3 tok ?_|refine AL.loadR tok rfl rfl rfl rfl rfl rfl ?_|refine qa4 tok ?_|refine qa5 tok ?_|refine AW.block ?_|refine AW.exit ?_|refine AW.skip ?_)
    refine AW.trunc 4 rfl rfl hne ?_
    refine AW.ret ?_
    refine ⟨_, _, _, _, rfl, Out.rowT rfl ⟨?_, ?_⟩ rfl⟩
    · have : hasS l q = true := by simp only [hasS, List.any_eq_true]; exact ⟨_, List.getElem_mem hj, hpj⟩
      rw [this]
    · rw [hlen, show ((l.length : Int) - 1).toNat - Int.toNat 0 = l.length - 1 by omega, List.take_append_of_le_length (by simp; omega), List.take_of_length_le (by simp; omega), cancelS, eraseP_idx hj hpj hbef]
      simp
theorem cancel_calls (l : List Du) (q : ByteArray) (hl : l.length ≤ 1000000) (hp : ∀ d ∈ l, d.msg.props.length ≤ 4398046510976) : ACallP Try.prog 19 [rowD l, st q] (.tup [rowD (cancelS l q), bo (hasS l q)]) := (cancel_ot l q hl hp).dr

def befS (a b : Du) : Bool := decide (a.at_ < b.at_) || decide (a.at_ = b.at_) && strLess a.client b.client
theorem ordS_neg (a b : Du) : decide (ordS a b < 0) = befS a b := by
  unfold ordS befS cmpI cmpS orS orS orS
  by_cases h1 : a.at_ < b.at_
  · simp [h1]
  · by_cases h2 : b.at_ < a.at_
    · simp [h1, h2]
      omega
    · have h3 : a.at_ = b.at_ := by omega
      simp only [h1, h2, if_false, h3]
      by_cases h4 : strLess a.client b.client = true
      · simp [h4]
      · by_cases h5 : a.client = b.client
        · rw [h5] at h4 ⊢
          simp [h4]
        · simp [h4, h5]
set_option maxHeartbeats 8000000 in
set_option maxRecDepth 10000 in
/-- Where a will belongs in a list in order. -/
theorem search_calls (l : List Du) (d : Du) (hl : l.length ≤ 1000000) (k : Nat) (hk : k ≤ l.length) (h1 : ∀ j (h : j < l.length), j < k → befS l[j] d = true) (h2 : ∀ j (h : j < l.length), k ≤ j → befS l[j] d = false) :
    ∃ b, ACallP Try.prog 31 [rowD l, aggD d, .fn 32 []] (.tup [i64 k, bo b]) := by
  refine ⟨decide ((k : Int) < (l.length : Int)) && decide ((match l[k]? with | some x => ordS x d | none => 0) = 0), ?_⟩
  refine ACalls.body tok Try.func31 rfl (by kernel_rfl) (by rw [Try.ntmps31]; simp) ?_
  simp only [Try.ntmps31, Try.results31, argT]
  have hlm : (l.map encD).length = l.length := List.length_map ..
  repeat (first|refine AL.do tok rfl rfl ?_|refine AL.nil ?_|refine AW.seq fun K hK => ?_|refine AW.region ?_|refine AL.no rfl rfl ?_|(refine hK _ ?_; clear hK)|(clear hK; refine hK _ ?_; clear hK)|(clear hK; clear hK; refine hK _ ?_; clear hK)|refine qa7 qv1 ?_|refine qa7 qv2 ?_|refine qa7 qv3 ?_|refine qa7 (qv4 tok) ?_|refine qa7 (qv5 tok) ?_|refine qa7 qv6 ?_|refine qa7 qv7 ?_|refine qa7 (qv8 tok) ?_|refine qa7 (qv9 tok) ?_|refine qa7 (qv10 tok) ?_|refine qa7 (qv11 tok) ?_|refine qa7 (qv12 tok) ?_|refine qa7 (qv13 tok) ?_|refine qa7 (qv14 tok) ?_|refine qa7 (qv15 tok) ?_|refine qa7 (qv16 tok) ?_|refine qa7 qv17 ?_|refine qa7 (qv18 tok) ?_|refine qa7 qv19 ?_|refine qa7 (qv20 tok) ?_|refine qa7 (qv21 tok) ?_|refine qa7 (qv22 tok) ?_|refine qa1 tok ?_|refine qa2 tok ?_|refine qa3 tok ?_|refine AL.loadR tok rfl rfl rfl rfl rfl rfl ?_|refine qa4 tok ?_|refine qa5 tok ?_|refine AW.block ?_|refine AW.exit ?_|refine AW.skip ?_)
  simp only [hlm]
  refine AW.loop (ι := Nat × Nat) (fun x => ⟨49, [(9, i64 x.1), (10, i64 x.2), (8, i64 l.length), (0, rowD l), (4, .ptr (.loc 0) 0), (2, .fn 32 [])], [(0, some (.box 51 [st d.client, i64 d.at_, st d.msg.topic, st d.msg.payload, i64 d.msg.level, bo d.msg.retain, i64 d.msg.prio, i64 d.msg.expires, st d.msg.sender, i64 d.msg.seq, rowP d.msg.props]))], [], 1⟩)
    (fun x => x.1 ≤ k ∧ k ≤ x.2 ∧ x.2 ≤ l.length) (fun x => x.2 - x.1) (0, l.length) ⟨Nat.zero_le _, hk, Nat.le_refl _⟩ ?_ ?_
  · (refine Imp.weak id (fun _ _ _ _ h => h) (by first|assumption|(intro b hb; cases hb)) ?_ ?_ <;> (repeat' (first|exact trivial|exact Nat.lt_of_lt_of_le (Nat.lt_succ_self _) (Nat.le_of_ble_eq_true rfl)|exact rfl|exact Or.inl ⟨rfl, rfl⟩|exact Or.inr ⟨rfl, LF.fn _ _ ‹_›⟩|refine ⟨?_, ?_⟩)))
  rintro ⟨i, j⟩ ⟨hi, hj, hjl⟩ K1 hK1
  simp only at hi hj hjl
  dsimp only
  by_cases hlt : i < j
  · repeat (first|refine AL.do tok rfl rfl ?_|refine AL.nil ?_|refine AW.seq fun K hK => ?_|refine AW.region ?_|refine AL.no rfl rfl ?_|(refine hK _ ?_; clear hK)|(clear hK; refine hK _ ?_; clear hK)|(clear hK; clear hK; refine hK _ ?_; clear hK)|refine qa7 qv1 ?_|refine qa7 qv2 ?_|refine qa7 qv3 ?_|refine qa7 (qv4 tok) ?_|refine qa7 (qv5 tok) ?_|refine qa7 qv6 ?_|refine qa7 qv7 ?_|refine qa7 (qv8 tok) ?_|refine qa7 (qv9 tok) ?_|refine qa7 (qv10 tok) ?_|refine qa7 (qv11 tok) ?_|refine qa7 (qv12 tok) ?_|refine qa7 (qv13 tok) ?_|refine qa7 (qv14 tok) ?_|refine qa7 (qv15 tok) ?_|refine qa7 (qv16 tok) ?_|refine qa7 qv17 ?_|refine qa7 (qv18 tok) ?_|refine qa7 qv19 ?_|refine qa7 (qv20 tok) ?_|refine qa7 (qv21 tok) ?_|refine qa7 (qv22 tok) ?_|refine qa1 tok ?_|refine qa2 tok ?_|refine qa3 tok ?_|refine AL.loadR tok rfl rfl rfl rfl rfl rfl ?_|refine qa4 tok ?_|refine qa5 tok ?_|refine AW.block ?_|refine AW.exit ?_|refine AW.skip ?_)
    refine AW.cond rfl (fun hg => ?_) (fun hg => by simp at hg; omega)
    repeat (first|refine AL.do tok rfl rfl ?_|refine AL.nil ?_|refine AW.seq fun K hK => ?_|refine AW.region ?_|refine AL.no rfl rfl ?_|(refine hK _ ?_; clear hK)|(clear hK; refine hK _ ?_; clear hK)|(clear hK; clear hK; refine hK _ ?_; clear hK)|refine qa7 qv1 ?_|refine qa7 qv2 ?_|refine qa7 qv3 ?_|refine qa7 (qv4 tok) ?_|refine qa7 (qv5 tok) ?_|refine qa7 qv6 ?_|refine qa7 qv7 ?_|refine qa7 (qv8 tok) ?_|refine qa7 (qv9 tok) ?_|refine qa7 (qv10 tok) ?_|refine qa7 (qv11 tok) ?_|refine qa7 (qv12 tok) ?_|refine qa7 (qv13 tok) ?_|refine qa7 (qv14 tok) ?_|refine qa7 (qv15 tok) ?_|refine qa7 (qv16 tok) ?_|refine qa7 qv17 ?_|refine qa7 (qv18 tok) ?_|refine qa7 qv19 ?_|refine qa7 (qv20 tok) ?_|refine qa7 (qv21 tok) ?_|refine qa7 (qv22 tok) ?_|refine qa1 tok ?_|refine qa2 tok ?_|refine qa3 tok ?_|refine AL.loadR tok rfl rfl rfl rfl rfl rfl ?_|refine qa4 tok ?_|refine qa5 tok ?_|refine AW.block ?_|refine AW.exit ?_|refine AW.skip ?_)
    obtain ⟨m, hm, hm1, hm2⟩ : ∃ m : Nat, ((i : Int) + (j : Int)) / 2 = (m : Int) ∧ i ≤ m ∧ m < j := ⟨(i + j) / 2, by omega, by omega, by omega⟩
    rw [hm]
    have hml : m < l.length := by omega
    refine AW.drawn mix (by kernel_rfl) ?_
    repeat' (first|refine AQ.do tok rfl rfl rfl ?_|refine AQ.no rfl rfl ?_|refine AQ.v rfl qv1 rfl ?_|refine AQ.v rfl qv2 rfl ?_|refine AQ.v rfl qv3 rfl ?_|refine AQ.v rfl (qv4 tok) rfl ?_|refine AQ.v rfl (qv5 tok) rfl ?_|refine AQ.v rfl qv6 rfl ?_|refine AQ.v rfl qv7 rfl ?_|refine AQ.v rfl (qv8 tok) rfl ?_|refine AQ.v rfl (qv9 tok) rfl ?_|refine AQ.v rfl (qv10 tok) rfl ?_|refine AQ.v rfl (qv11 tok) rfl ?_|refine AQ.v rfl (qv12 tok) rfl ?_|refine AQ.v rfl (qv13 tok) rfl ?_|refine AQ.v rfl (qv14 tok) rfl ?_|refine AQ.v rfl (qv15 tok) rfl ?_|refine AQ.v rfl (qv16 tok) rfl ?_|refine AQ.v rfl qv17 rfl ?_|refine AQ.v rfl (qv18 tok) rfl ?_|refine AQ.v rfl qv19 rfl ?_|refine AQ.v rfl (qv20 tok) rfl ?_|refine AQ.v rfl (qv21 tok) rfl ?_|refine AQ.v rfl (qv22 tok) rfl ?_|refine AQ.nil ?_|refine AQ.callB rfl rfl rfl rfl rfl rfl (order_calls ..) rfl ?_|(refine AQ.guard rfl rfl (fun hg => ?_) (fun hg => ?_) <;> ((try simp only [DX] at hg) <;> (try first|(exfalso; omega)|exact absurd trivial hg|exact False.elim hg|exact absurd rfl hg))))
    rw [ordS_neg]
    repeat (first|refine AL.do tok rfl rfl ?_|refine AL.nil ?_|refine AW.seq fun K hK => ?_|refine AW.region ?_|refine AL.no rfl rfl ?_|(refine hK _ ?_; clear hK)|(clear hK; refine hK _ ?_; clear hK)|(clear hK; clear hK; refine hK _ ?_; clear hK)|refine qa7 qv1 ?_|refine qa7 qv2 ?_|refine qa7 qv3 ?_|refine qa7 (qv4 tok) ?_|refine qa7 (qv5 tok) ?_|refine qa7 qv6 ?_|refine qa7 qv7 ?_|refine qa7 (qv8 tok) ?_|refine qa7 (qv9 tok) ?_|refine qa7 (qv10 tok) ?_|refine qa7 (qv11 tok) ?_|refine qa7 (qv12 tok) ?_|refine qa7 (qv13 tok) ?_|refine qa7 (qv14 tok) ?_|refine qa7 (qv15 tok) ?_|refine qa7 (qv16 tok) ?_|refine qa7 qv17 ?_|refine qa7 (qv18 tok) ?_|refine qa7 qv19 ?_|refine qa7 (qv20 tok) ?_|refine qa7 (qv21 tok) ?_|refine qa7 (qv22 tok) ?_|refine qa1 tok ?_|refine qa2 tok ?_|refine qa3 tok ?_|refine AL.loadR tok rfl rfl rfl rfl rfl rfl ?_|refine qa4 tok ?_|refine qa5 tok ?_|refine AW.block ?_|refine AW.exit ?_|refine AW.skip ?_)
    refine AW.cond rfl (fun hg => ?_) (fun hg => ?_)
    · have hmk : m < k := by
        rcases Nat.lt_or_ge m k with h | h
        · exact h
        · rw [h2 m hml h] at hg
          cases hg
      repeat (first|refine AL.do tok rfl rfl ?_|refine AL.nil ?_|refine AW.seq fun K hK => ?_|refine AW.region ?_|refine AL.no rfl rfl ?_|(refine hK _ ?_; clear hK)|(clear hK; refine hK _ ?_; clear hK)|(clear hK; clear hK; refine hK _ ?_; clear hK)|refine qa7 qv1 ?_|refine qa7 qv2 ?_|refine qa7 qv3 ?_|refine qa7 (qv4 tok) ?_|refine qa7 (qv5 tok) ?_|refine qa7 qv6 ?_|refine qa7 qv7 ?_|refine qa7 (qv8 tok) ?_|refine qa7 (qv9 tok) ?_|refine qa7 (qv10 tok) ?_|refine qa7 (qv11 tok) ?_|refine qa7 (qv12 tok) ?_|refine qa7 (qv13 tok) ?_|refine qa7 (qv14 tok) ?_|refine qa7 (qv15 tok) ?_|refine qa7 (qv16 tok) ?_|refine qa7 qv17 ?_|refine qa7 (qv18 tok) ?_|refine qa7 qv19 ?_|refine qa7 (qv20 tok) ?_|refine qa7 (qv21 tok) ?_|refine qa7 (qv22 tok) ?_|refine qa1 tok ?_|refine qa2 tok ?_|refine qa3 tok ?_|refine AL.loadR tok rfl rfl rfl rfl rfl rfl ?_|refine qa4 tok ?_|refine qa5 tok ?_|refine AW.block ?_|refine AW.exit ?_|refine AW.skip ?_)
      refine hK1 _ (m + 1, j) ⟨by simp only; omega, hj, hjl⟩ (by simp only; omega) ?_
      (refine Imp.weak id (fun _ _ _ _ h => h) (by first|assumption|(intro b hb; cases hb)) ?_ ?_ <;> (repeat' (first|exact trivial|exact Nat.lt_of_lt_of_le (Nat.lt_succ_self _) (Nat.le_of_ble_eq_true rfl)|exact rfl|exact Or.inl ⟨rfl, rfl⟩|exact Or.inr ⟨rfl, LF.fn _ _ ‹_›⟩|refine ⟨?_, ?_⟩)))
    · have hmk : k ≤ m := by
        rcases Nat.lt_or_ge m k with h | h
        · rw [h1 m hml h] at hg
          cases hg
        · exact h
      repeat (first|refine AL.do tok rfl rfl ?_|refine AL.nil ?_|refine AW.seq fun K hK => ?_|refine AW.region ?_|refine AL.no rfl rfl ?_|(refine hK _ ?_; clear hK)|(clear hK; refine hK _ ?_; clear hK)|(clear hK; clear hK; refine hK _ ?_; clear hK)|refine qa7 qv1 ?_|refine qa7 qv2 ?_|refine qa7 qv3 ?_|refine qa7 (qv4 tok) ?_|refine qa7 (qv5 tok) ?_|refine qa7 qv6 ?_|refine qa7 qv7 ?_|refine qa7 (qv8 tok) ?_|refine qa7 (qv9 tok) ?_|refine qa7 (qv10 tok) ?_|refine qa7 (qv11 tok) ?_|refine qa7 (qv12 tok) ?_|refine qa7 (qv13 tok) ?_|refine qa7 (qv14 tok) ?_|refine qa7 (qv15 tok) ?_|refine qa7 (qv16 tok) ?_|refine qa7 qv17 ?_|refine qa7 (qv18 tok) ?_|refine qa7 qv19 ?_|refine qa7 (qv20 tok) ?_|refine qa7 (qv21 tok) ?_|refine qa7 (qv22 tok) ?_|refine qa1 tok ?_|refine qa2 tok ?_|refine qa3 tok ?_|refine AL.loadR tok rfl rfl rfl rfl rfl rfl ?_|refine qa4 tok ?_|refine qa5 tok ?_|refine AW.block ?_|refine AW.exit ?_|refine AW.skip ?_)
      refine hK1 _ (i, m) ⟨hi, hmk, by simp only; omega⟩ (by simp only; omega) ?_
      (refine Imp.weak id (fun _ _ _ _ h => h) (by first|assumption|(intro b hb; cases hb)) ?_ ?_ <;> (repeat' (first|exact trivial|exact Nat.lt_of_lt_of_le (Nat.lt_succ_self _) (Nat.le_of_ble_eq_true rfl)|exact rfl|exact Or.inl ⟨rfl, rfl⟩|exact Or.inr ⟨rfl, LF.fn _ _ ‹_›⟩|refine ⟨?_, ?_⟩)))
  · obtain rfl : i = k := by omega
    repeat (first|refine AL.do tok rfl rfl ?_|refine AL.nil ?_|refine AW.seq fun K hK => ?_|refine AW.region ?_|refine AL.no rfl rfl ?_|(refine hK _ ?_; clear hK)|(clear hK; refine hK _ ?_; clear hK)|(clear hK; clear hK; refine hK _ ?_; clear hK)|refine qa7 qv1 ?_|refine qa7 qv2 ?_|refine qa7 qv3 ?_|refine qa7 (qv4 tok) ?_|refine qa7 (qv5 tok) ?_|refine qa7 qv6 ?_|refine qa7 qv7 ?_|refine qa7 (qv8 tok) ?_|refine qa7 (qv9 tok) ?_|refine qa7 (qv10 tok) ?_|refine qa7 (qv11 tok) ?_|refine qa7 (qv12 tok) ?_|refine qa7 (qv13 tok) ?_|refine qa7 (qv14 tok) ?_|refine qa7 (qv15 tok) ?_|refine qa7 (qv16 tok) ?_|refine qa7 qv17 ?_|refine qa7 (qv18 tok) ?_|refine qa7 qv19 ?_|refine qa7 (qv20 tok) ?_|refine qa7 (qv21 tok) ?_|refine qa7 (qv22 tok) ?_|refine qa1 tok ?_|refine qa2 tok ?_|refine qa3 tok ?_|refine AL.loadR tok rfl rfl rfl rfl rfl rfl ?_|refine qa4 tok ?_|refine qa5 tok ?_|refine AW.block ?_|refine AW.exit ?_|refine AW.skip ?_)
    refine AW.cond rfl (fun hg => by simp at hg; omega) (fun hg => ?_)
    repeat (first|refine AL.do tok rfl rfl ?_|refine AL.nil ?_|refine AW.seq fun K hK => ?_|refine AW.region ?_|refine AL.no rfl rfl ?_|(refine hK _ ?_; clear hK)|(clear hK; refine hK _ ?_; clear hK)|(clear hK; clear hK; refine hK _ ?_; clear hK)|refine qa7 qv1 ?_|refine qa7 qv2 ?_|refine qa7 qv3 ?_|refine qa7 (qv4 tok) ?_|refine qa7 (qv5 tok) ?_|refine qa7 qv6 ?_|refine qa7 qv7 ?_|refine qa7 (qv8 tok) ?_|refine qa7 (qv9 tok) ?_|refine qa7 (qv10 tok) ?_|refine qa7 (qv11 tok) ?_|refine qa7 (qv12 tok) ?_|refine qa7 (qv13 tok) ?_|refine qa7 (qv14 tok) ?_|refine qa7 (qv15 tok) ?_|refine qa7 (qv16 tok) ?_|refine qa7 qv17 ?_|refine qa7 (qv18 tok) ?_|refine qa7 qv19 ?_|refine qa7 (qv20 tok) ?_|refine qa7 (qv21 tok) ?_|refine qa7 (qv22 tok) ?_|refine qa1 tok ?_|refine qa2 tok ?_|refine qa3 tok ?_|refine AL.loadR tok rfl rfl rfl rfl rfl rfl ?_|refine qa4 tok ?_|refine qa5 tok ?_|refine AW.block ?_|refine AW.exit ?_|refine AW.skip ?_)
    refine AW.drawn mix (by kernel_rfl) ?_
    by_cases hil : i < l.length
    · repeat' (first|refine AQ.do tok rfl rfl rfl ?_|refine AQ.no rfl rfl ?_|refine AQ.v rfl qv1 rfl ?_|refine AQ.v rfl qv2 rfl ?_|refine AQ.v rfl qv3 rfl ?_|refine AQ.v rfl (qv4 tok) rfl ?_|refine AQ.v rfl (qv5 tok) rfl ?_|refine AQ.v rfl qv6 rfl ?_|refine AQ.v rfl qv7 rfl ?_|refine AQ.v rfl (qv8 tok) rfl ?_|refine AQ.v rfl (qv9 tok) rfl ?_|refine AQ.v rfl (qv10 tok) rfl ?_|refine AQ.v rfl (qv11 tok) rfl ?_|refine AQ.v rfl (qv12 tok) rfl ?_|refine AQ.v rfl (qv13 tok) rfl ?_|refine AQ.v rfl (qv14 tok) rfl ?_|refine AQ.v rfl (qv15 tok) rfl ?_|refine AQ.v rfl (qv16 tok) rfl ?_|refine AQ.v rfl qv17 rfl ?_|refine AQ.v rfl (qv18 tok) rfl ?_|refine AQ.v rfl qv19 rfl ?_|refine AQ.v rfl (qv20 tok) rfl ?_|refine AQ.v rfl (qv21 tok) rfl ?_|refine AQ.v rfl (qv22 tok) rfl ?_|refine AQ.nil ?_|refine AQ.callB rfl rfl rfl rfl rfl rfl (order_calls ..) rfl ?_|(refine AQ.guard rfl rfl (fun hg => ?_) (fun hg => ?_) <;> ((try simp only [DX] at hg) <;> (try first|(exfalso; omega)|exact absurd trivial hg|exact False.elim hg|exact absurd rfl hg))))
      repeat (first|refine AL.do tok rfl rfl ?_|refine AL.nil ?_|refine AW.seq fun K hK => ?_|refine AW.region ?_|refine AL.no rfl rfl ?_|(refine hK _ ?_; clear hK)|(clear hK; refine hK _ ?_; clear hK)|(clear hK; clear hK; refine hK _ ?_; clear hK)|refine qa7 qv1 ?_|refine qa7 qv2 ?_|refine qa7 qv3 ?_|refine qa7 (qv4 tok) ?_|refine qa7 (qv5 tok) ?_|refine qa7 qv6 ?_|refine qa7 qv7 ?_|refine qa7 (qv8 tok) ?_|refine qa7 (qv9 tok) ?_|refine qa7 (qv10 tok) ?_|refine qa7 (qv11 tok) ?_|refine qa7 (qv12 tok) ?_|refine qa7 (qv13 tok) ?_|refine qa7 (qv14 tok) ?_|refine qa7 (qv15 tok) ?_|refine qa7 (qv16 tok) ?_|refine qa7 qv17 ?_|refine qa7 (qv18 tok) ?_|refine qa7 qv19 ?_|refine qa7 (qv20 tok) ?_|refine qa7 (qv21 tok) ?_|refine qa7 (qv22 tok) ?_|refine qa1 tok ?_|refine qa2 tok ?_|refine qa3 tok ?_|refine AL.loadR tok rfl rfl rfl rfl rfl rfl ?_|refine qa4 tok ?_|refine qa5 tok ?_|refine AW.block ?_|refine AW.exit ?_|refine AW.skip ?_)
      refine AW.ret ?_
      refine ⟨_, _, _, _, rfl, Out.pure rfl ⟨?_, rfl⟩ rfl⟩
      simp [hil]
    · repeat' (first|refine AQ.do tok rfl rfl rfl ?_|refine AQ.no rfl rfl ?_|refine AQ.v rfl qv1 rfl ?_|refine AQ.v rfl qv2 rfl ?_|refine AQ.v rfl qv3 rfl ?_|refine AQ.v rfl (qv4 tok) rfl ?_|refine AQ.v rfl (qv5 tok) rfl ?_|refine AQ.v rfl qv6 rfl ?_|refine AQ.v rfl qv7 rfl ?_|refine AQ.v rfl (qv8 tok) rfl ?_|refine AQ.v rfl (qv9 tok) rfl ?_|refine AQ.v rfl (qv10 tok) rfl ?_|refine AQ.v rfl (qv11 tok) rfl ?_|refine AQ.v rfl (qv12 tok) rfl ?_|refine AQ.v rfl (qv13 tok) rfl ?_|refine AQ.v rfl (qv14 tok) rfl ?_|refine AQ.v rfl (qv15 tok) rfl ?_|refine AQ.v rfl (qv16 tok) rfl ?_|refine AQ.v rfl qv17 rfl ?_|refine AQ.v rfl (qv18 tok) rfl ?_|refine AQ.v rfl qv19 rfl ?_|refine AQ.v rfl (qv20 tok) rfl ?_|refine AQ.v rfl (qv21 tok) rfl ?_|refine AQ.v rfl (qv22 tok) rfl ?_|refine AQ.nil ?_|refine AQ.callB rfl rfl rfl rfl rfl rfl (order_calls ..) rfl ?_|(refine AQ.guard rfl rfl (fun hg => ?_) (fun hg => ?_) <;> ((try simp only [DX] at hg) <;> (try first|(exfalso; omega)|exact absurd trivial hg|exact False.elim hg|exact absurd rfl hg))))
      repeat (first|refine AL.do tok rfl rfl ?_|refine AL.nil ?_|refine AW.seq fun K hK => ?_|refine AW.region ?_|refine AL.no rfl rfl ?_|(refine hK _ ?_; clear hK)|(clear hK; refine hK _ ?_; clear hK)|(clear hK; clear hK; refine hK _ ?_; clear hK)|refine qa7 qv1 ?_|refine qa7 qv2 ?_|refine qa7 qv3 ?_|refine qa7 (qv4 tok) ?_|refine qa7 (qv5 tok) ?_|refine qa7 qv6 ?_|refine qa7 qv7 ?_|refine qa7 (qv8 tok) ?_|refine qa7 (qv9 tok) ?_|refine qa7 (qv10 tok) ?_|refine qa7 (qv11 tok) ?_|refine qa7 (qv12 tok) ?_|refine qa7 (qv13 tok) ?_|refine qa7 (qv14 tok) ?_|refine qa7 (qv15 tok) ?_|refine qa7 (qv16 tok) ?_|refine qa7 qv17 ?_|refine qa7 (qv18 tok) ?_|refine qa7 qv19 ?_|refine qa7 (qv20 tok) ?_|refine qa7 (qv21 tok) ?_|refine qa7 (qv22 tok) ?_|refine qa1 tok ?_|refine qa2 tok ?_|refine qa3 tok ?_|refine AL.loadR tok rfl rfl rfl rfl rfl rfl ?_|refine qa4 tok ?_|refine qa5 tok ?_|refine AW.block ?_|refine AW.exit ?_|refine AW.skip ?_)
      refine AW.ret ?_
      refine ⟨_, _, _, _, rfl, Out.pure rfl ⟨?_, rfl⟩ rfl⟩
      simp [hil]
end Go.Proofs.Try
