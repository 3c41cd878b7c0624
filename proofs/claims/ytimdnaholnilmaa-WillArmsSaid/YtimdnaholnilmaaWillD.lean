/- will: armed, taken. -/
import Derived.Test.YtimdnaholnilmaaWillC
set_option linter.unusedSimpArgs false
set_option linter.unusedVariables false
namespace Go.Proofs.Try
open Go Go.AM

structure Wl where
  set_ : Bool
  delay : Int
  msg : Ms
  deriving DecidableEq
abbrev aggW (w : Wl) : AV := .agg [bo w.set_, i64 w.delay, st w.msg.topic, st w.msg.payload, i64 w.msg.level, bo w.msg.retain, i64 w.msg.prio, i64 w.msg.expires, st w.msg.sender, i64 w.msg.seq, rowP w.msg.props]
def dueS (q : ByteArray) (w : Wl) (now : Int) : Du := ⟨q, if 1099511627776 < now + w.delay then 1099511627776 else now + w.delay, w.msg⟩
def insS (l : List Du) (x : Du) : List Du := l.takeWhile (fun y => befS y x) ++ x :: l.dropWhile (fun y => befS y x)
def armS (l : List Du) (q : ByteArray) (w : Wl) (now : Int) : List Du := if w.set_ then insS (cancelS l q) (dueS q w now) else cancelS l q

theorem bytesLess_trans : ∀ {a b c : List UInt8}, Op.bytesLess a b = true → Op.bytesLess b c = true → Op.bytesLess a c = true
  | [], [], _, h, _ => by simp [Op.bytesLess] at h
  | _ :: _, [], _, h, _ => by simp [Op.bytesLess] at h
  | _, _ :: _, [], _, h => by simp [Op.bytesLess] at h
  | [], _ :: _, _ :: _, _, _ => rfl
  | x :: a, y :: b, z :: c, h1, h2 => by
    simp only [Op.bytesLess, Bool.or_eq_true, Bool.and_eq_true, decide_eq_true_eq, beq_iff_eq] at h1 h2 ⊢
    rcases h1 with h1 | ⟨rfl, h1⟩ <;> rcases h2 with h2 | ⟨rfl, h2⟩
    · exact .inl (UInt8.lt_trans h1 h2)
    · exact .inl h1
    · exact .inl h2
    · exact .inr ⟨rfl, bytesLess_trans h1 h2⟩
theorem strLess_trans {a b c : ByteArray} (h1 : strLess a b = true) (h2 : strLess b c = true) : strLess a c = true := bytesLess_trans h1 h2
theorem befS_trans {a b c : Du} (h1 : befS a b = true) (h2 : befS b c = true) : befS a c = true := by
  unfold befS at *
  simp only [Bool.or_eq_true, Bool.and_eq_true, decide_eq_true_eq] at *
  rcases h1 with h1 | ⟨h1, h1'⟩ <;> rcases h2 with h2 | ⟨h2, h2'⟩
  · exact .inl (by omega)
  · exact .inl (by omega)
  · exact .inl (by omega)
  · exact .inr ⟨by omega, strLess_trans h1' h2'⟩
/-- In order. -/
def Ord (l : List Du) : Prop := l.Pairwise fun a b => befS a b = true
theorem ord_place {l : List Du} (h : Ord l) (d : Du) : (∀ j (hj : j < l.length), j < (l.takeWhile fun y => befS y d).length → befS l[j] d = true) ∧ ∀ j (hj : j < l.length), (l.takeWhile fun y => befS y d).length ≤ j → befS l[j] d = false := by
  induction h with
  | nil => exact ⟨fun j hj => by simp at hj, fun j hj => by simp at hj⟩
  | @cons a l ha hl ih =>
    obtain ⟨i1, i2⟩ := ih
    by_cases hb : befS a d = true
    · rw [show (a :: l).takeWhile (fun y => befS y d) = a :: l.takeWhile (fun y => befS y d) from List.takeWhile_cons_of_pos (p := fun y => befS y d) hb]
      refine ⟨fun j hj hk => ?_, fun j hj hk => ?_⟩
      · cases j with
        | zero => exact hb
        | succ j => exact i1 j (by simpa using hj) (by simpa using hk)
      · cases j with
        | zero => simp at hk
        | succ j => exact i2 j (by simpa using hj) (by simpa using hk)
    · rw [show (a :: l).takeWhile (fun y => befS y d) = [] from List.takeWhile_cons_of_neg (p := fun y => befS y d) hb]
      refine ⟨fun j hj hk => by simp at hk, fun j hj hk => ?_⟩
      cases j with
      | zero => simpa using hb
      | succ j =>
        rw [Bool.eq_false_iff]
        intro h
        exact hb (befS_trans (ha _ (List.getElem_mem _)) h)
theorem takeWhile_take {α : Type} (p : α → Bool) : ∀ (l : List α), l.takeWhile p = l.take (l.takeWhile p).length
  | [] => rfl
  | a :: l => by
    by_cases h : p a = true
    · rw [List.takeWhile_cons_of_pos h, List.length_cons, List.take_succ_cons, ← takeWhile_take p l]
    · rw [List.takeWhile_cons_of_neg h]; rfl
theorem dropWhile_drop {α : Type} (p : α → Bool) : ∀ (l : List α), l.dropWhile p = l.drop (l.takeWhile p).length
  | [] => rfl
  | a :: l => by
    by_cases h : p a = true
    · rw [List.takeWhile_cons_of_pos h, List.dropWhile_cons_of_pos h, List.length_cons, List.drop_succ_cons, ← dropWhile_drop p l]
    · rw [List.takeWhile_cons_of_neg h, List.dropWhile_cons_of_neg h]; rfl
theorem cancelS_sub (l : List Du) (q : ByteArray) : List.Sublist (cancelS l q) l := List.eraseP_sublist
theorem cancelS_ord {l : List Du} (h : Ord l) (q : ByteArray) : Ord (cancelS l q) := h.sublist (cancelS_sub l q)

def zeroDu : Du := ⟨⟨#[]⟩, 0, ⟨⟨#[]⟩, ⟨#[]⟩, 0, false, 0, 0, ⟨#[]⟩, 0, []⟩⟩
theorem shiftR {α : Type} (A : List α) (k : Nat) (h : k < A.length) : List.take (k + 1) A ++ List.take (A.length - (k + 1)) (List.drop k (List.take (k + (A.length - k)) A)) ++ List.drop (k + 1 + Min.min (List.drop k (List.take (k + (A.length - k)) A)).length (A.length - (k + 1))) A =
    List.take (k + 1) A ++ List.take (A.length - (k + 1)) (List.drop k A) := by
  rw [show k + (A.length - k) = A.length by omega, List.take_length, List.length_drop, Nat.min_eq_right (by omega), show k + 1 + (A.length - (k + 1)) = A.length by omega, List.drop_length, List.append_nil]
theorem openAt {r : List Du} {k : Nat} (h : k ≤ r.length) (d : Du) : (((r ++ [zeroDu]).take (k + 1)) ++ r.drop k).set k d = r.take k ++ d :: r.drop k := by
  rw [List.set_append_left _ _ (by simp; omega)]
  have : ((r ++ [zeroDu]).take (k + 1)).set k d = r.take k ++ [d] := by
    apply List.ext_getElem?
    intro i
    rw [List.getElem?_set, List.getElem?_append, List.getElem?_take]
    simp
    split
    · rename_i e
      subst e
      simp [h]
    · rw [List.getElem?_append]
      split <;> split <;> (try split) <;> (try omega) <;> simp_all <;> omega
  rw [this]
  simp

set_option maxHeartbeats 8000000 in
set_option maxRecDepth 10000 in
theorem arm_o (l : List Du) (q : ByteArray) (w : Wl) (now : Int) (hl : l.length ≤ 1000000) (hp : ∀ d ∈ l, d.msg.props.length ≤ 4398046510976) (hw : w.msg.props.length ≤ 4398046510976) (ho : Ord l) (hn : -9223372036854775808 ≤ now + w.delay ∧ now + w.delay ≤ 9223372036854775807) :
    ACallO Try.prog 15 [rowD l, st q, aggW w, i64 now] 51 11 (· = (armS l q w now).map encD) := by
  have hc := cancel_ot l q hl hp
  have hcl := cloneP_calls w.msg.props hw
  have hlc : (cancelS l q).length ≤ l.length := (cancelS_sub l q).length_le
  have hplace := ord_place (cancelS_ord ho q) (dueS q w now)
  have harm : armS l q w now = if w.set_ then insS (cancelS l q) (dueS q w now) else cancelS l q := rfl
  generalize cancelS l q = r at *
  obtain ⟨h1, h2⟩ := hplace
  have hins : insS r (dueS q w now) = r.take (r.takeWhile fun y => befS y (dueS q w now)).length ++ dueS q w now :: r.drop (r.takeWhile fun y => befS y (dueS q w now)).length := by
    unfold insS
    rw [← takeWhile_take, dropWhile_drop]
  have hkl : (r.takeWhile fun y => befS y (dueS q w now)).length ≤ r.length := (List.takeWhile_sublist _).length_le
  generalize (r.takeWhile fun y => befS y (dueS q w now)).length = k at *
  obtain ⟨b, hs⟩ := search_calls r (dueS q w now) (by omega) k hkl h1 h2
  refine ACalls.body tok Try.func15 rfl (by kernel_rfl) (by rw [Try.ntmps15]; simp) ?_
  simp only [Try.ntmps15, Try.results15, argT]
  repeat (first|refine AL.do tok rfl rfl ?_|refine AL.nil ?_|refine AW.seq fun K hK => ?_|refine AW.region ?_|refine AL.no rfl rfl ?_|(refine hK _ ?_; clear hK)|(clear hK; refine hK _ ?_; clear hK)|(clear hK; clear hK; refine hK _ ?_; clear hK)|refine qa7 qv1 ?_|refine qa7 qv2 ?_|refine qa7 qv3 ?_|refine qa7 (qv4 tok) ?_|refine qa7 (qv5 tok) ?_|refine qa7 qv6 ?_|refine qa7 qv7 ?_|refine qa7 (qv8 tok) ?_|refine qa7 (qv9 tok) ?_|refine qa7 (qv10 tok) ?_|refine qa7 (qv11 tok) ?_|refine qa7 (qv12 tok) ?_|refine qa7 (qv13 tok) ?_|refine qa7 (qv14 tok) ?_|refine qa7 (qv15 tok) ?_|refine qa7 (qv16 tok) ?_|refine qa7 qv17 ?_|refine qa7 (qv18 tok) ?_|refine qa7 qv19 ?_|refine qa7 (qv20 tok) ?_|refine qa7 (qv21 tok) ?_|refine qa7 (qv22 tok) ?_|refine qa1 tok ?_|refine qa2 tok ?_|refine qa3 tok ?_|refine AL.loadR tok rfl rfl rfl rfl rfl rfl ?_|refine qa4 tok ?_|refine qa5 tok ?_|refine AW.block ?_|refine AW.exit ?_|refine AW.skip ?_)
  refine AL.callOT rfl rfl rfl rfl rfl hc ?_
  repeat (first|refine AL.do tok rfl rfl ?_|refine AL.nil ?_|refine AW.seq fun K hK => ?_|refine AW.region ?_|refine AL.no rfl rfl ?_|(refine hK _ ?_; clear hK)|(clear hK; refine hK _ ?_; clear hK)|(clear hK; clear hK; refine hK _ ?_; clear hK)|refine qa7 qv1 ?_|refine qa7 qv2 ?_|refine qa7 qv3 ?_|refine qa7 (qv4 tok) ?_|refine qa7 (qv5 tok) ?_|refine qa7 qv6 ?_|refine qa7 qv7 ?_|refine qa7 (qv8 tok) ?_|refine qa7 (qv9 tok) ?_|refine qa7 (qv10 tok) ?_|refine qa7 (qv11 tok) ?_|refine qa7 (qv12 tok) ?_|refine qa7 (qv13 tok) ?_|refine qa7 (qv14 tok) ?_|refine qa7 (qv15 tok) ?_|refine qa7 (qv16 tok) ?_|refine qa7 qv17 ?_|refine qa7 (qv18 tok) ?_|refine qa7 qv19 ?_|refine qa7 (qv20 tok) ?_|refine qa7 (qv21 tok) ?_|refine qa7 (qv22 tok) ?_|refine qa1 tok ?_|refine qa2 tok ?_|refine qa3 tok ?_|refine AL.loadR tok rfl rfl rfl rfl rfl rfl ?_|refine qa4 tok ?_|refine qa5 tok ?_|refine AW.block ?_|refine AW.exit ?_|refine AW.skip ?_)
  refine AW.cond rfl (fun hg => ?_) (fun hg => ?_)
  · repeat (first|refine AL.do tok rfl rfl ?_|refine AL.nil ?_|refine AW.seq fun K hK => ?_|refine AW.region ?_|refine AL.no rfl rfl ?_|(refine hK _ ?_; clear hK)|(clear hK; refine hK _ ?_; clear hK)|(clear hK; clear hK; refine hK _ ?_; clear hK)|refine qa7 qv1 ?_|refine qa7 qv2 ?_|refine qa7 qv3 ?_|refine qa7 (qv4 tok) ?_|refine qa7 (qv5 tok) ?_|refine qa7 qv6 ?_|refine qa7 qv7 ?_|refine qa7 (qv8 tok) ?_|refine qa7 (qv9 tok) ?_|refine qa7 (qv10 tok) ?_|refine qa7 (qv11 tok) ?_|refine qa7 (qv12 tok) ?_|refine qa7 (qv13 tok) ?_|refine qa7 (qv14 tok) ?_|refine qa7 (qv15 tok) ?_|refine qa7 (qv16 tok) ?_|refine qa7 qv17 ?_|refine qa7 (qv18 tok) ?_|refine qa7 qv19 ?_|refine qa7 (qv20 tok) ?_|refine qa7 (qv21 tok) ?_|refine qa7 (qv22 tok) ?_|refine qa1 tok ?_|refine qa2 tok ?_|refine qa3 tok ?_|refine AL.loadR tok rfl rfl rfl rfl rfl rfl ?_|refine qa4 tok ?_|refine qa5 tok ?_|refine AW.block ?_|refine AW.exit ?_|refine AW.skip ?_)
    refine AW.ret ?_
    refine ⟨_, _, _, _, rfl, Out.row rfl ⟨_, ?_, rfl, rfl⟩ rfl⟩
    rw [harm, if_neg (by simpa using hg)]
  · repeat (first|refine AL.do tok rfl rfl ?_|refine AL.nil ?_|refine AW.seq fun K hK => ?_|refine AW.region ?_|refine AL.no rfl rfl ?_|(refine hK _ ?_; clear hK)|(clear hK; refine hK _ ?_; clear hK)|(clear hK; clear hK; refine hK _ ?_; clear hK)|refine qa7 qv1 ?_|refine qa7 qv2 ?_|refine qa7 qv3 ?_|refine qa7 (qv4 tok) ?_|refine qa7 (qv5 tok) ?_|refine qa7 qv6 ?_|refine qa7 qv7 ?_|refine qa7 (qv8 tok) ?_|refine qa7 (qv9 tok) ?_|refine qa7 (qv10 tok) ?_|refine qa7 (qv11 tok) ?_|refine qa7 (qv12 tok) ?_|refine qa7 (qv13 tok) ?_|refine qa7 (qv14 tok) ?_|refine qa7 (qv15 tok) ?_|refine qa7 (qv16 tok) ?_|refine qa7 qv17 ?_|refine qa7 (qv18 tok) ?_|refine qa7 qv19 ?_|refine qa7 (qv20 tok) ?_|refine qa7 (qv21 tok) ?_|refine qa7 (qv22 tok) ?_|refine qa1 tok ?_|refine qa2 tok ?_|refine qa3 tok ?_|refine AL.loadR tok rfl rfl rfl rfl rfl rfl ?_|refine qa4 tok ?_|refine qa5 tok ?_|refine AW.block ?_|refine AW.exit ?_|refine AW.skip ?_)
    refine AL.callO rfl rfl rfl rfl rfl hcl (fun xs hxs => ?_)
    subst hxs
    refine AL.frz 3 rfl rfl rfl ?_
    repeat (first|refine AL.do tok rfl rfl ?_|refine AL.nil ?_|refine AW.seq fun K hK => ?_|refine AW.region ?_|refine AL.no rfl rfl ?_|(refine hK _ ?_; clear hK)|(clear hK; refine hK _ ?_; clear hK)|(clear hK; clear hK; refine hK _ ?_; clear hK)|refine qa7 qv1 ?_|refine qa7 qv2 ?_|refine qa7 qv3 ?_|refine qa7 (qv4 tok) ?_|refine qa7 (qv5 tok) ?_|refine qa7 qv6 ?_|refine qa7 qv7 ?_|refine qa7 (qv8 tok) ?_|refine qa7 (qv9 tok) ?_|refine qa7 (qv10 tok) ?_|refine qa7 (qv11 tok) ?_|refine qa7 (qv12 tok) ?_|refine qa7 (qv13 tok) ?_|refine qa7 (qv14 tok) ?_|refine qa7 (qv15 tok) ?_|refine qa7 (qv16 tok) ?_|refine qa7 qv17 ?_|refine qa7 (qv18 tok) ?_|refine qa7 qv19 ?_|refine qa7 (qv20 tok) ?_|refine qa7 (qv21 tok) ?_|refine qa7 (qv22 tok) ?_|refine qa1 tok ?_|refine qa2 tok ?_|refine qa3 tok ?_|refine AL.loadR tok rfl rfl rfl rfl rfl rfl ?_|refine qa4 tok ?_|refine qa5 tok ?_|refine AW.block ?_|refine AW.exit ?_|refine AW.skip ?_|refine qc1 (hs ..) ?_|refine qc2 (hs ..) ?_)
    refine qa6 tok ?_
    repeat (first|refine AL.do tok rfl rfl ?_|refine AL.nil ?_|refine AW.seq fun K hK => ?_|refine AW.region ?_|refine AL.no rfl rfl ?_|(refine hK _ ?_; clear hK)|(clear hK; refine hK _ ?_; clear hK)|(clear hK; clear hK; refine hK _ ?_; clear hK)|refine qa7 qv1 ?_|refine qa7 qv2 ?_|refine qa7 qv3 ?_|refine qa7 (qv4 tok) ?_|refine qa7 (qv5 tok) ?_|refine qa7 qv6 ?_|refine qa7 qv7 ?_|refine qa7 (qv8 tok) ?_|refine qa7 (qv9 tok) ?_|refine qa7 (qv10 tok) ?_|refine qa7 (qv11 tok) ?_|refine qa7 (qv12 tok) ?_|refine qa7 (qv13 tok) ?_|refine qa7 (qv14 tok) ?_|refine qa7 (qv15 tok) ?_|refine qa7 (qv16 tok) ?_|refine qa7 qv17 ?_|refine qa7 (qv18 tok) ?_|refine qa7 qv19 ?_|refine qa7 (qv20 tok) ?_|refine qa7 (qv21 tok) ?_|refine qa7 (qv22 tok) ?_|refine qa1 tok ?_|refine qa2 tok ?_|refine qa3 tok ?_|refine AL.loadR tok rfl rfl rfl rfl rfl rfl ?_|refine qa4 tok ?_|refine qa5 tok ?_|refine AW.block ?_|refine AW.exit ?_|refine AW.skip ?_)
    rw [show r.map encD ++ [[D.one (.string ⟨#[]⟩), D.one (.int .i64 0), D.one (.string ⟨#[]⟩), D.one (.string ⟨#[]⟩), D.one (.int .i64 0), D.one (.bool false), D.one (.int .i64 0), D.one (.int .i64 0), D.one (.string ⟨#[]⟩), D.one (.int .i64 0), D.row []]] = (r ++ [zeroDu]).map encD by simp [encD, zeroDu]]
    have hlm : ((r ++ [zeroDu]).map encD).length = r.length + 1 := by simp
    refine AW.any mix [[], [], [1], [0, 1, 2], [], [], [4, 5], [0, 1, 2, 3, 4, 5, 6]] [[50, 51, 53, 54, 55], [49, 53, 54, 55], [49, 53, 54, 55], [53, 54, 55], [49, 50, 51, 52, 54], [49, 50, 51, 52, 53], [49, 50, 51, 52], []] [[], [], [], [], [], [], [], []] [(7, 5)] (by decide +kernel) rfl (by first|assumption|(intro b hb; cases hb)) ?_ <;> repeat' (first|refine AR.step rfl rfl (by first|exact OSp.do tok rfl rfl rfl|exact OSp.no rfl rfl|exact OSp.noN rfl|exact OSp.v rfl rfl qv1|exact OSp.v rfl rfl qv2|exact OSp.v rfl rfl qv3|exact OSp.v rfl rfl (qv4 tok)|exact OSp.v rfl rfl (qv5 tok)|exact OSp.v rfl rfl qv6|exact OSp.v rfl rfl qv7|exact OSp.v rfl rfl (qv8 tok)|exact OSp.v rfl rfl (qv9 tok)|exact OSp.v rfl rfl (qv10 tok)|exact OSp.v rfl rfl (qv11 tok)|exact OSp.v rfl rfl (qv12 tok)|exact OSp.v rfl rfl (qv13 tok)|exact OSp.v rfl rfl (qv14 tok)|exact OSp.v rfl rfl (qv15 tok)|exact OSp.v rfl rfl (qv16 tok)|exact OSp.v rfl rfl qv17|exact OSp.v rfl rfl (qv18 tok)|exact OSp.v rfl rfl qv19|exact OSp.v rfl rfl (qv20 tok)|exact OSp.v rfl rfl (qv21 tok)|exact OSp.v rfl rfl (qv22 tok)|exact OSp.copy tok rfl rfl rfl rfl rfl rfl rfl (by (first | (intro x hx; obtain ⟨_, _, rfl⟩ := List.mem_map.1 hx; rfl) | (intro x hx; replace hx := List.mem_of_mem_take (List.mem_of_mem_drop hx); obtain ⟨_, _, rfl⟩ := List.mem_map.1 hx; rfl) | (simp; done))) rfl rfl rfl rfl|exact OSp.buildSlice tok rfl rfl rfl rfl rfl rfl rfl rfl|exact OSp.append tok rfl rfl rfl rfl rfl rfl rfl rfl rfl rfl rfl (by first|(intro x hx; obtain ⟨_, _, rfl⟩ := List.mem_map.1 hx; rfl)|(simp; done)) (by simp; omega) (by simp; omega)|exact OSp.alloc tok rfl rfl rfl rfl|exact OSp.box tok rfl rfl rfl rfl rfl|exact OSp.boxC tok rfl rfl rfl rfl rfl|exact OSp.store tok rfl rfl rfl rfl rfl rfl rfl rfl) (by rfl) (by rfl) ?_|refine AR.done rfl rfl ?_|(refine AR.guard rfl rfl rfl rfl (fun hg => ?_) (fun hg => ?_) <;> ((try simp only [DX] at hg) <;> (try first|(exfalso; omega)|exact absurd trivial hg|exact False.elim hg|exact absurd rfl hg))))
    simp only [Int.toNat_natCast, toNat_succ, Nat.zero_add]
    rw [shiftR _ _ (by omega)]
    rw [show List.take (k + 1) ((r ++ [zeroDu]).map encD) ++ List.take (((r ++ [zeroDu]).map encD).length - (k + 1)) (List.drop k ((r ++ [zeroDu]).map encD)) = ((r ++ [zeroDu]).take (k + 1) ++ r.drop k).map encD by
      rw [hlm, List.map_append, List.map_append, List.drop_append_of_le_length (by simpa using hkl), List.take_append_of_le_length (l₁ := List.drop k (r.map encD)) (by simp), List.take_of_length_le (l := List.drop k (r.map encD)) (by simp)]
      simp]
    have hkB : k < ((r ++ [zeroDu]).take (k + 1) ++ r.drop k).length := by simp; omega
    repeat (first|refine AL.do tok rfl rfl ?_|refine AL.nil ?_|refine AW.seq fun K hK => ?_|refine AW.region ?_|refine AL.no rfl rfl ?_|(refine hK _ ?_; clear hK)|(clear hK; refine hK _ ?_; clear hK)|(clear hK; clear hK; refine hK _ ?_; clear hK)|refine qa7 qv1 ?_|refine qa7 qv2 ?_|refine qa7 qv3 ?_|refine qa7 (qv4 tok) ?_|refine qa7 (qv5 tok) ?_|refine qa7 qv6 ?_|refine qa7 qv7 ?_|refine qa7 (qv8 tok) ?_|refine qa7 (qv9 tok) ?_|refine qa7 (qv10 tok) ?_|refine qa7 (qv11 tok) ?_|refine qa7 (qv12 tok) ?_|refine qa7 (qv13 tok) ?_|refine qa7 (qv14 tok) ?_|refine qa7 (qv15 tok) ?_|refine qa7 (qv16 tok) ?_|refine qa7 qv17 ?_|refine qa7 (qv18 tok) ?_|refine qa7 qv19 ?_|refine qa7 (qv20 tok) ?_|refine qa7 (qv21 tok) ?_|refine qa7 (qv22 tok) ?_|refine qa1 tok ?_|refine qa2 tok ?_|refine qa3 tok ?_|refine AL.loadR tok rfl rfl rfl rfl rfl rfl ?_|refine qa4 tok ?_|refine qa5 tok ?_|refine AW.block ?_|refine AW.exit ?_|refine AW.skip ?_)
    refine AL.storeRM tok (dueS q w now) rfl rfl rfl (by first | omega | (simp; omega) | decide) rfl rfl rfl rfl (Nat.le_of_ble_eq_true rfl) rfl ?_
    rw [openAt hkl]
    repeat (first|refine AL.do tok rfl rfl ?_|refine AL.nil ?_|refine AW.seq fun K hK => ?_|refine AW.region ?_|refine AL.no rfl rfl ?_|(refine hK _ ?_; clear hK)|(clear hK; refine hK _ ?_; clear hK)|(clear hK; clear hK; refine hK _ ?_; clear hK)|refine qa7 qv1 ?_|refine qa7 qv2 ?_|refine qa7 qv3 ?_|refine qa7 (qv4 tok) ?_|refine qa7 (qv5 tok) ?_|refine qa7 qv6 ?_|refine qa7 qv7 ?_|refine qa7 (qv8 tok) ?_|refine qa7 (qv9 tok) ?_|refine qa7 (qv10 tok) ?_|refine qa7 (qv11 tok) ?_|refine qa7 (qv12 tok) ?_|refine qa7 (qv13 tok) ?_|refine qa7 (qv14 tok) ?_|refine qa7 (qv15 tok) ?_|refine qa7 (qv16 tok) ?_|refine qa7 qv17 ?_|refine qa7 (qv18 tok) ?_|refine qa7 qv19 ?_|refine qa7 (qv20 tok) ?_|refine qa7 (qv21 tok) ?_|refine qa7 (qv22 tok) ?_|refine qa1 tok ?_|refine qa2 tok ?_|refine qa3 tok ?_|refine AL.loadR tok rfl rfl rfl rfl rfl rfl ?_|refine qa4 tok ?_|refine qa5 tok ?_|refine AW.block ?_|refine AW.exit ?_|refine AW.skip ?_)
    refine AW.ret ?_
    refine ⟨_, _, _, _, rfl, Out.row rfl ⟨_, ?_, rfl, rfl⟩ rfl⟩
    rw [harm, if_pos (by simpa using hg), hins]
theorem arm_calls (l : List Du) (q : ByteArray) (w : Wl) (now : Int) (hl : l.length ≤ 1000000) (hp : ∀ d ∈ l, d.msg.props.length ≤ 4398046510976) (hw : w.msg.props.length ≤ 4398046510976) (ho : Ord l) (hn : -9223372036854775808 ≤ now + w.delay ∧ now + w.delay ≤ 9223372036854775807) :
    ACallP Try.prog 15 [rowD l, st q, aggW w, i64 now] (rowD (armS l q w now)) := (arm_o l q w now hl hp hw ho hn).dr

theorem takeWhile_get {α : Type} {p : α → Bool} : ∀ {l : List α} {j : Nat} (h : j < l.length), j < (l.takeWhile p).length → p l[j] = true
  | a :: l, j, h, hj => by
    by_cases hp : p a = true
    · rw [List.takeWhile_cons_of_pos hp] at hj
      cases j with
      | zero => exact hp
      | succ j => exact takeWhile_get (l := l) (by simpa using h) (by simpa using hj)
    · rw [List.takeWhile_cons_of_neg hp] at hj
      simp at hj
def takeN (l : List Du) (now : Int) : Nat := (l.takeWhile fun d => decide (d.at_ ≤ now)).length
set_option maxHeartbeats 8000000 in
set_option maxRecDepth 10000 in
theorem take_calls (l : List Du) (now : Int) (hl : l.length ≤ 1000000) (hp : ∀ d ∈ l, d.msg.props.length ≤ 4398046510976) : ACallP Try.prog 21 [rowD l, i64 now] (.tup [rowD (l.take (takeN l now)), rowD (l.drop (takeN l now))]) := by
  have hcl := cloneD_calls l hl hp
  have hlm : (l.map encD).length = l.length := List.length_map ..
  have htn : takeN l now ≤ l.length := (List.takeWhile_sublist _).length_le
  have hp1 : ∀ j (h : j < l.length), j < takeN l now → l[j].at_ ≤ now := fun j h hj => by simpa using takeWhile_get h hj
  have hp2 : ∀ (h : takeN l now < l.length), ¬ l[takeN l now].at_ ≤ now := fun h => by
    have h3 : l.dropWhile (fun d => decide (d.at_ ≤ now)) = l.drop (takeN l now) := dropWhile_drop _ l
    have h4 := List.head?_dropWhile_not (fun d => decide (d.at_ ≤ now)) l
    rw [h3, List.head?_drop, List.getElem?_eq_getElem h] at h4
    simpa using h4
  generalize takeN l now = k at *
  refine ACalls.body tok Try.func21 rfl (by kernel_rfl) (by rw [Try.ntmps21]; simp) ?_
  simp only [Try.ntmps21, Try.results21, argT]
  repeat (first|refine AL.do tok rfl rfl ?_|refine AL.nil ?_|refine AW.seq fun K hK => ?_|refine AW.region ?_|refine AL.no rfl rfl ?_|(refine hK _ ?_; clear hK)|(clear hK; refine hK _ ?_; clear hK)|(clear hK; clear hK; refine hK _ ?_; clear hK)|refine qa7 qv1 ?_|refine qa7 qv2 ?_|refine qa7 qv3 ?_|refine qa7 (qv4 tok) ?_|refine qa7 (qv5 tok) ?_|refine qa7 qv6 ?_|refine qa7 qv7 ?_|refine qa7 (qv8 tok) ?_|refine qa7 (qv9 tok) ?_|refine qa7 (qv10 tok) ?_|refine qa7 (qv11 tok) ?_|refine qa7 (qv12 tok) ?_|refine qa7 (qv13 tok) ?_|refine qa7 (qv14 tok) ?_|refine qa7 (qv15 tok) ?_|refine qa7 (qv16 tok) ?_|refine qa7 qv17 ?_|refine qa7 (qv18 tok) ?_|refine qa7 qv19 ?_|refine qa7 (qv20 tok) ?_|refine qa7 (qv21 tok) ?_|refine qa7 (qv22 tok) ?_|refine qa1 tok ?_|refine qa2 tok ?_|refine qa3 tok ?_|refine AL.loadR tok rfl rfl rfl rfl rfl rfl ?_|refine qa4 tok ?_|refine qa5 tok ?_|refine AW.block ?_|refine AW.exit ?_|refine AW.skip ?_)
  refine AL.callO rfl rfl rfl rfl rfl hcl (fun xs hxs => ?_)
  subst hxs
  refine AL.frz 0 rfl rfl rfl ?_
  repeat (first|refine AL.do tok rfl rfl ?_|refine AL.nil ?_|refine AW.seq fun K hK => ?_|refine AW.region ?_|refine AL.no rfl rfl ?_|(refine hK _ ?_; clear hK)|(clear hK; refine hK _ ?_; clear hK)|(clear hK; clear hK; refine hK _ ?_; clear hK)|refine qa7 qv1 ?_|refine qa7 qv2 ?_|refine qa7 qv3 ?_|refine qa7 (qv4 tok) ?_|refine qa7 (qv5 tok) ?_|refine qa7 qv6 ?_|refine qa7 qv7 ?_|refine qa7 (qv8 tok) ?_|refine qa7 (qv9 tok) ?_|refine qa7 (qv10 tok) ?_|refine qa7 (qv11 tok) ?_|refine qa7 (qv12 tok) ?_|refine qa7 (qv13 tok) ?_|refine qa7 (qv14 tok) ?_|refine qa7 (qv15 tok) ?_|refine qa7 (qv16 tok) ?_|refine qa7 qv17 ?_|refine qa7 (qv18 tok) ?_|refine qa7 qv19 ?_|refine qa7 (qv20 tok) ?_|refine qa7 (qv21 tok) ?_|refine qa7 (qv22 tok) ?_|refine qa1 tok ?_|refine qa2 tok ?_|refine qa3 tok ?_|refine AL.loadR tok rfl rfl rfl rfl rfl rfl ?_|refine qa4 tok ?_|refine qa5 tok ?_|refine AW.block ?_|refine AW.exit ?_|refine AW.skip ?_)
  refine AW.loop (ι := Nat) (fun i => ⟨32, [(7, i64 i), (6, rowD l), (1, i64 now)], [], [], 0⟩) (fun i => i ≤ k) (fun i => k - i) 0 (Nat.zero_le _) ?_ ?_
  · (refine Imp.weak id (fun _ _ _ _ h => h) (by first|assumption|(intro b hb; cases hb)) ?_ ?_ <;> (repeat' (first|exact trivial|exact Nat.lt_of_lt_of_le (Nat.lt_succ_self _) (Nat.le_of_ble_eq_true rfl)|exact rfl|exact Or.inl ⟨rfl, rfl⟩|exact Or.inr ⟨rfl, LF.fn _ _ ‹_›⟩|refine ⟨?_, ?_⟩)))
  rintro i hi K1 hK1
  by_cases hlt : i < k
  · have h1 := hp1 i (by omega) hlt
    have hil : i < l.length := by omega
    repeat' (first|refine AL.do tok rfl rfl ?_|refine AL.nil ?_|refine AW.seq fun K hK => ?_|refine AW.region ?_|refine AL.no rfl rfl ?_|(refine hK _ ?_; clear hK)|(clear hK; refine hK _ ?_; clear hK)|(clear hK; clear hK; refine hK _ ?_; clear hK)|refine qa7 qv1 ?_|refine qa7 qv2 ?_|refine qa7 qv3 ?_|refine qa7 (qv4 tok) ?_|refine qa7 (qv5 tok) ?_|refine qa7 qv6 ?_|refine qa7 qv7 ?_|refine qa7 (qv8 tok) ?_|refine qa7 (qv9 tok) ?_|refine qa7 (qv10 tok) ?_|refine qa7 (qv11 tok) ?_|refine qa7 (qv12 tok) ?_|refine qa7 (qv13 tok) ?_|refine qa7 (qv14 tok) ?_|refine qa7 (qv15 tok) ?_|refine qa7 (qv16 tok) ?_|refine qa7 qv17 ?_|refine qa7 (qv18 tok) ?_|refine qa7 qv19 ?_|refine qa7 (qv20 tok) ?_|refine qa7 (qv21 tok) ?_|refine qa7 (qv22 tok) ?_|refine qa1 tok ?_|refine qa2 tok ?_|refine qa3 tok ?_|refine AL.loadR tok rfl rfl rfl rfl rfl rfl ?_|refine qa4 tok ?_|refine qa5 tok ?_|refine AW.block ?_|refine AW.exit ?_|refine AW.skip ?_|((fail_if_success (refine AL.guard (b := true) rfl rfl ?_ ?_)); (fail_if_success (refine AL.guard (b := false) rfl rfl ?_ ?_)); refine AL.guard rfl rfl (fun hg => ?_) (fun hg => ?_) <;> ((try simp only [DX] at hg) <;> (try first|(exfalso; omega)|exact absurd trivial hg|exact False.elim hg|exact absurd rfl hg)))|refine AW.condT rfl ?_|refine AW.condF rfl ?_|(refine AW.cond rfl (fun hg => ?_) (fun hg => ?_) <;> ((try simp only [DX] at hg) <;> (try first|(exfalso; omega)|exact absurd trivial hg|exact False.elim hg|exact absurd rfl hg))))
    refine hK1 _ (i + 1) (by omega) (by omega) ?_
    (refine Imp.weak id (fun _ _ _ _ h => h) (by first|assumption|(intro b hb; cases hb)) ?_ ?_ <;> (repeat' (first|exact trivial|exact Nat.lt_of_lt_of_le (Nat.lt_succ_self _) (Nat.le_of_ble_eq_true rfl)|exact rfl|exact Or.inl ⟨rfl, rfl⟩|exact Or.inr ⟨rfl, LF.fn _ _ ‹_›⟩|refine ⟨?_, ?_⟩)))
  · obtain rfl : i = k := by omega
    by_cases hil : i < l.length
    · have h2 := hp2 hil
      repeat' (first|refine AL.do tok rfl rfl ?_|refine AL.nil ?_|refine AW.seq fun K hK => ?_|refine AW.region ?_|refine AL.no rfl rfl ?_|(refine hK _ ?_; clear hK)|(clear hK; refine hK _ ?_; clear hK)|(clear hK; clear hK; refine hK _ ?_; clear hK)|refine qa7 qv1 ?_|refine qa7 qv2 ?_|refine qa7 qv3 ?_|refine qa7 (qv4 tok) ?_|refine qa7 (qv5 tok) ?_|refine qa7 qv6 ?_|refine qa7 qv7 ?_|refine qa7 (qv8 tok) ?_|refine qa7 (qv9 tok) ?_|refine qa7 (qv10 tok) ?_|refine qa7 (qv11 tok) ?_|refine qa7 (qv12 tok) ?_|refine qa7 (qv13 tok) ?_|refine qa7 (qv14 tok) ?_|refine qa7 (qv15 tok) ?_|refine qa7 (qv16 tok) ?_|refine qa7 qv17 ?_|refine qa7 (qv18 tok) ?_|refine qa7 qv19 ?_|refine qa7 (qv20 tok) ?_|refine qa7 (qv21 tok) ?_|refine qa7 (qv22 tok) ?_|refine qa1 tok ?_|refine qa2 tok ?_|refine qa3 tok ?_|refine AL.loadR tok rfl rfl rfl rfl rfl rfl ?_|refine qa4 tok ?_|refine qa5 tok ?_|refine AW.block ?_|refine AW.exit ?_|refine AW.skip ?_|((fail_if_success (refine AL.guard (b := true) rfl rfl ?_ ?_)); (fail_if_success (refine AL.guard (b := false) rfl rfl ?_ ?_)); refine AL.guard rfl rfl (fun hg => ?_) (fun hg => ?_) <;> ((try simp only [DX] at hg) <;> (try first|(exfalso; omega)|exact absurd trivial hg|exact False.elim hg|exact absurd rfl hg)))|refine AW.condT rfl ?_|refine AW.condF rfl ?_|(refine AW.cond rfl (fun hg => ?_) (fun hg => ?_) <;> ((try simp only [DX] at hg) <;> (try first|(exfalso; omega)|exact absurd trivial hg|exact False.elim hg|exact absurd rfl hg))))
      refine AW.drawn mix (by kernel_rfl) ?_
      repeat (first|refine AQ.do tok rfl rfl rfl ?_|refine AQ.no rfl rfl ?_|refine AQ.v rfl qv1 rfl ?_|refine AQ.v rfl qv2 rfl ?_|refine AQ.v rfl qv3 rfl ?_|refine AQ.v rfl (qv4 tok) rfl ?_|refine AQ.v rfl (qv5 tok) rfl ?_|refine AQ.v rfl qv6 rfl ?_|refine AQ.v rfl qv7 rfl ?_|refine AQ.v rfl (qv8 tok) rfl ?_|refine AQ.v rfl (qv9 tok) rfl ?_|refine AQ.v rfl (qv10 tok) rfl ?_|refine AQ.v rfl (qv11 tok) rfl ?_|refine AQ.v rfl (qv12 tok) rfl ?_|refine AQ.v rfl (qv13 tok) rfl ?_|refine AQ.v rfl (qv14 tok) rfl ?_|refine AQ.v rfl (qv15 tok) rfl ?_|refine AQ.v rfl (qv16 tok) rfl ?_|refine AQ.v rfl qv17 rfl ?_|refine AQ.v rfl (qv18 tok) rfl ?_|refine AQ.v rfl qv19 rfl ?_|refine AQ.v rfl (qv20 tok) rfl ?_|refine AQ.v rfl (qv21 tok) rfl ?_|refine AQ.v rfl (qv22 tok) rfl ?_|refine AQ.nil ?_)
      repeat (first|refine AL.do tok rfl rfl ?_|refine AL.nil ?_|refine AW.seq fun K hK => ?_|refine AW.region ?_|refine AL.no rfl rfl ?_|(refine hK _ ?_; clear hK)|(clear hK; refine hK _ ?_; clear hK)|(clear hK; clear hK; refine hK _ ?_; clear hK)|refine qa7 qv1 ?_|refine qa7 qv2 ?_|refine qa7 qv3 ?_|refine qa7 (qv4 tok) ?_|refine qa7 (qv5 tok) ?_|refine qa7 qv6 ?_|refine qa7 qv7 ?_|refine qa7 (qv8 tok) ?_|refine qa7 (qv9 tok) ?_|refine qa7 (qv10 tok) ?_|refine qa7 (qv11 tok) ?_|refine qa7 (qv12 tok) ?_|refine qa7 (qv13 tok) ?_|refine qa7 (qv14 tok) ?_|refine qa7 (qv15 tok) ?_|refine qa7 (qv16 tok) ?_|refine qa7 qv17 ?_|refine qa7 (qv18 tok) ?_|refine qa7 qv19 ?_|refine qa7 (qv20 tok) ?_|refine qa7 (qv21 tok) ?_|refine qa7 (qv22 tok) ?_|refine qa1 tok ?_|refine qa2 tok ?_|refine qa3 tok ?_|refine AL.loadR tok rfl rfl rfl rfl rfl rfl ?_|refine qa4 tok ?_|refine qa5 tok ?_|refine AW.block ?_|refine AW.exit ?_|refine AW.skip ?_)
      refine AW.ret ?_
      refine ⟨_, _, _, _, rfl, Out.pure rfl ⟨?_, rfl⟩ rfl⟩
      rfl
    · repeat' (first|refine AL.do tok rfl rfl ?_|refine AL.nil ?_|refine AW.seq fun K hK => ?_|refine AW.region ?_|refine AL.no rfl rfl ?_|(refine hK _ ?_; clear hK)|(clear hK; refine hK _ ?_; clear hK)|(clear hK; clear hK; refine hK _ ?_; clear hK)|refine qa7 qv1 ?_|refine qa7 qv2 ?_|refine qa7 qv3 ?_|refine qa7 (qv4 tok) ?_|refine qa7 (qv5 tok) ?_|refine qa7 qv6 ?_|refine qa7 qv7 ?_|refine qa7 (qv8 tok) ?_|refine qa7 (qv9 tok) ?_|refine qa7 (qv10 tok) ?_|refine qa7 (qv11 tok) ?_|refine qa7 (qv12 tok) ?_|refine qa7 (qv13 tok) ?_|refine qa7 (qv14 tok) ?_|refine qa7 (qv15 tok) ?_|refine qa7 (qv16 tok) ?_|refine qa7 qv17 ?_|refine qa7 (qv18 tok) ?_|refine qa7 qv19 ?_|refine qa7 (qv20 tok) ?_|refine qa7 (qv21 tok) ?_|refine qa7 (qv22 tok) ?_|refine qa1 tok ?_|refine qa2 tok ?_|refine qa3 tok ?_|refine AL.loadR tok rfl rfl rfl rfl rfl rfl ?_|refine qa4 tok ?_|refine qa5 tok ?_|refine AW.block ?_|refine AW.exit ?_|refine AW.skip ?_|((fail_if_success (refine AL.guard (b := true) rfl rfl ?_ ?_)); (fail_if_success (refine AL.guard (b := false) rfl rfl ?_ ?_)); refine AL.guard rfl rfl (fun hg => ?_) (fun hg => ?_) <;> ((try simp only [DX] at hg) <;> (try first|(exfalso; omega)|exact absurd trivial hg|exact False.elim hg|exact absurd rfl hg)))|refine AW.condT rfl ?_|refine AW.condF rfl ?_|(refine AW.cond rfl (fun hg => ?_) (fun hg => ?_) <;> ((try simp only [DX] at hg) <;> (try first|(exfalso; omega)|exact absurd trivial hg|exact False.elim hg|exact absurd rfl hg))))
      refine AW.drawn mix (by kernel_rfl) ?_
      repeat (first|refine AQ.do tok rfl rfl rfl ?_|refine AQ.no rfl rfl ?_|refine AQ.v rfl qv1 rfl ?_|refine AQ.v rfl qv2 rfl ?_|refine AQ.v rfl qv3 rfl ?_|refine AQ.v rfl (qv4 tok) rfl ?_|refine AQ.v rfl (qv5 tok) rfl ?_|refine AQ.v rfl qv6 rfl ?_|refine AQ.v rfl qv7 rfl ?_|refine AQ.v rfl (qv8 tok) rfl ?_|refine AQ.v rfl (qv9 tok) rfl ?_|refine AQ.v rfl (qv10 tok) rfl ?_|refine AQ.v rfl (qv11 tok) rfl ?_|refine AQ.v rfl (qv12 tok) rfl ?_|refine AQ.v rfl (qv13 tok) rfl ?_|refine AQ.v rfl (qv14 tok) rfl ?_|refine AQ.v rfl (qv15 tok) rfl ?_|refine AQ.v rfl (qv16 tok) rfl ?_|refine AQ.v rfl qv17 rfl ?_|refine AQ.v rfl (qv18 tok) rfl ?_|refine AQ.v rfl qv19 rfl ?_|refine AQ.v rfl (qv20 tok) rfl ?_|refine AQ.v rfl (qv21 tok) rfl ?_|refine AQ.v rfl (qv22 tok) rfl ?_|refine AQ.nil ?_)
      repeat (first|refine AL.do tok rfl rfl ?_|refine AL.nil ?_|refine AW.seq fun K hK => ?_|refine AW.region ?_|refine AL.no rfl rfl ?_|(refine hK _ ?_; clear hK)|(clear hK; refine hK _ ?_; clear hK)|(clear hK; clear hK; refine hK _ ?_; clear hK)|refine qa7 qv1 ?_|refine qa7 qv2 ?_|refine qa7 qv3 ?_|refine qa7 (qv4 tok) ?_|refine qa7 (qv5 tok) ?_|refine qa7 qv6 ?_|refine qa7 qv7 ?_|refine qa7 (qv8 tok) ?_|refine qa7 (qv9 tok) ?_|refine qa7 (qv10 tok) ?_|refine qa7 (qv11 tok) ?_|refine qa7 (qv12 tok) ?_|refine qa7 (qv13 tok) ?_|refine qa7 (qv14 tok) ?_|refine qa7 (qv15 tok) ?_|refine qa7 (qv16 tok) ?_|refine qa7 qv17 ?_|refine qa7 (qv18 tok) ?_|refine qa7 qv19 ?_|refine qa7 (qv20 tok) ?_|refine qa7 (qv21 tok) ?_|refine qa7 (qv22 tok) ?_|refine qa1 tok ?_|refine qa2 tok ?_|refine qa3 tok ?_|refine AL.loadR tok rfl rfl rfl rfl rfl rfl ?_|refine qa4 tok ?_|refine qa5 tok ?_|refine AW.block ?_|refine AW.exit ?_|refine AW.skip ?_)
      refine AW.ret ?_
      refine ⟨_, _, _, _, rfl, Out.pure rfl ⟨?_, rfl⟩ rfl⟩
      rfl
set_option maxHeartbeats 8000000 in
set_option maxRecDepth 10000 in
theorem next_calls (l : List Du) : ACallP Try.prog 23 [rowD l] (.tup [i64 (match l with | [] => 0 | d :: _ => d.at_), bo (decide (0 < l.length))]) := by
  refine ACalls.body tok Try.func23 rfl (by kernel_rfl) (by rw [Try.ntmps23]; simp) ?_
  simp only [Try.ntmps23, Try.results23, argT]
  cases l with
  | nil =>
    repeat' (first|refine AL.do tok rfl rfl ?_|refine AL.nil ?_|refine AW.seq fun K hK => ?_|refine AW.region ?_|refine AL.no rfl rfl ?_|(refine hK _ ?_; clear hK)|(clear hK; refine hK _ ?_; clear hK)|(clear hK; clear hK; refine hK _ ?_; clear hK)|refine qa7 qv1 ?_|refine qa7 qv2 ?_|refine qa7 qv3 ?_|refine qa7 (qv4 tok) ?_|refine qa7 (qv5 tok) ?_|refine qa7 qv6 ?_|refine qa7 qv7 ?_|refine qa7 (qv8 tok) ?_|refine qa7 (qv9 tok) ?_|refine qa7 (qv10 tok) ?_|refine qa7 (qv11 tok) ?_|refine qa7 (qv12 tok) ?_|refine qa7 (qv13 tok) ?_|refine qa7 (qv14 tok) ?_|refine qa7 (qv15 tok) ?_|refine qa7 (qv16 tok) ?_|refine qa7 qv17 ?_|refine qa7 (qv18 tok) ?_|refine qa7 qv19 ?_|refine qa7 (qv20 tok) ?_|refine qa7 (qv21 tok) ?_|refine qa7 (qv22 tok) ?_|refine qa1 tok ?_|refine qa2 tok ?_|refine qa3 tok ?_|refine AL.loadR tok rfl rfl rfl rfl rfl rfl ?_|refine qa4 tok ?_|refine qa5 tok ?_|refine AW.block ?_|refine AW.exit ?_|refine AW.skip ?_|((fail_if_success (refine AL.guard (b := true) rfl rfl ?_ ?_)); (fail_if_success (refine AL.guard (b := false) rfl rfl ?_ ?_)); refine AL.guard rfl rfl (fun hg => ?_) (fun hg => ?_) <;> ((try simp only [DX] at hg) <;> (try first|(exfalso; omega)|exact absurd trivial hg|exact False.elim hg|exact absurd rfl hg)))|refine AW.condT rfl ?_|refine AW.condF rfl ?_|(refine AW.cond rfl (fun hg => ?_) (fun hg => ?_) <;> ((try simp only [DX] at hg) <;> (try first|(exfalso; omega)|exact absurd trivial hg|exact False.elim hg|exact absurd rfl hg)))|refine AW.ret ?_)
    refine ⟨_, _, _, _, rfl, Out.pure rfl ⟨?_, rfl⟩ rfl⟩
    rfl
  | cons d r =>
    have hlm : ((d :: r).map encD).length = r.length + 1 := by simp
    repeat' (first|refine AL.do tok rfl rfl ?_|refine AL.nil ?_|refine AW.seq fun K hK => ?_|refine AW.region ?_|refine AL.no rfl rfl ?_|(refine hK _ ?_; clear hK)|(clear hK; refine hK _ ?_; clear hK)|(clear hK; clear hK; refine hK _ ?_; clear hK)|refine qa7 qv1 ?_|refine qa7 qv2 ?_|refine qa7 qv3 ?_|refine qa7 (qv4 tok) ?_|refine qa7 (qv5 tok) ?_|refine qa7 qv6 ?_|refine qa7 qv7 ?_|refine qa7 (qv8 tok) ?_|refine qa7 (qv9 tok) ?_|refine qa7 (qv10 tok) ?_|refine qa7 (qv11 tok) ?_|refine qa7 (qv12 tok) ?_|refine qa7 (qv13 tok) ?_|refine qa7 (qv14 tok) ?_|refine qa7 (qv15 tok) ?_|refine qa7 (qv16 tok) ?_|refine qa7 qv17 ?_|refine qa7 (qv18 tok) ?_|refine qa7 qv19 ?_|refine qa7 (qv20 tok) ?_|refine qa7 (qv21 tok) ?_|refine qa7 (qv22 tok) ?_|refine qa1 tok ?_|refine qa2 tok ?_|refine qa3 tok ?_|refine AL.loadR tok rfl rfl rfl rfl rfl rfl ?_|refine qa4 tok ?_|refine qa5 tok ?_|refine AW.block ?_|refine AW.exit ?_|refine AW.skip ?_|((fail_if_success (refine AL.guard (b := true) rfl rfl ?_ ?_)); (fail_if_success (refine AL.guard (b := false) rfl rfl ?_ ?_)); refine AL.guard rfl rfl (fun hg => ?_) (fun hg => ?_) <;> ((try simp only [DX] at hg) <;> (try first|(exfalso; omega)|exact absurd trivial hg|exact False.elim hg|exact absurd rfl hg)))|refine AW.condT rfl ?_|refine AW.condF rfl ?_|(refine AW.cond rfl (fun hg => ?_) (fun hg => ?_) <;> ((try simp only [DX] at hg) <;> (try first|(exfalso; omega)|exact absurd trivial hg|exact False.elim hg|exact absurd rfl hg)))|refine AW.ret ?_)
    refine ⟨_, _, _, _, rfl, Out.pure rfl ⟨?_, rfl⟩ rfl⟩
    simp
end Go.Proofs.Try
