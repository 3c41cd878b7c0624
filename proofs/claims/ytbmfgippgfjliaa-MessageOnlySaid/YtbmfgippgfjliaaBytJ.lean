/- Numbers and texts in bytes: written, as pure data; flags. -/
import Derived.Test.YtbmfgippgfjliaaBytI
import Derived.Test.YtbmfgippgfjliaaAMD
set_option linter.unusedSimpArgs false
set_option linter.unusedVariables false
namespace Go.Proofs.Try
open Go Go.AM

/-- The bytes of a number, of a text. -/
def nE (n : Int) : List Nat := varS (codeS n)
def tE (s : ByteArray) : List Nat := varS (codeS s.size) ++ bytesOf s
theorem nE_len (n : Int) (hn : -9223372036854775808 ≤ n ∧ n ≤ 9223372036854775807) : 1 ≤ (nE n).length ∧ (nE n).length ≤ 10 := ⟨varS_pos _, varS_10 (codeS_lt hn)⟩
theorem tE_len (s : ByteArray) (hs : s.size ≤ 900000) : 1 + s.size ≤ (tE s).length ∧ (tE s).length ≤ 10 + s.size := by
  have h1 := varS_pos (codeS s.size)
  have h2 := varS_10 (codeS_lt (n := (s.size : Int)) (by omega))
  unfold tE
  rw [List.length_append, bytesOf_len]
  omega
theorem putNumP (l : List Nat) (n : Int) (hl : l.length ≤ 1000000) (hn : -9223372036854775808 ≤ n ∧ n ≤ 9223372036854775807) : ACallP Try.prog 42 [rowU l, i64 n] (rowU (l ++ nE n)) := (putNum_calls l n hl hn).frz
theorem putTextP (l : List Nat) (s : ByteArray) (hl : l.length ≤ 1000000) (hs : s.size ≤ 900000) : ACallP Try.prog 41 [rowU l, st s] (rowU (l ++ tE s)) := by
  have := (putText_calls l s hl hs).frz
  rw [List.append_assoc] at this
  exact this
theorem refPutNumP (l : List Nat) (n : Int) (hl : l.length ≤ 1000000) (hn : -9223372036854775808 ≤ n ∧ n ≤ 9223372036854775807) : ACallP Try.prog 45 [rowU l, i64 n] (rowU (l ++ nE n)) := (refPutNum_calls l n hl hn).frz
theorem refPutTextP (l : List Nat) (s : ByteArray) (hl : l.length ≤ 1000000) (hs : s.size ≤ 900000) : ACallP Try.prog 44 [rowU l, st s] (rowU (l ++ tE s)) := by
  have := (refPutText_calls l s hl hs).frz
  rw [List.append_assoc] at this
  exact this
def encB (b : Bool) : List D := [.one (.bool b)]
set_option maxRecDepth 10000 in
theorem flags_calls' (b : Bool) : ACallP Try.prog 43 [.d (.row ([b].map encB))] (i64 (if b then 1 else 0)) := by
  refine ACalls.body tok Try.func43 rfl (by kernel_rfl) (by rw [Try.ntmps43]; simp) ?_
  simp only [Try.ntmps43, Try.results43, argT]
  repeat (first|refine AL.do tok rfl rfl ?_|refine AL.nil ?_|refine AW.seq fun K hK => ?_|refine AW.region ?_|refine AL.no rfl rfl ?_|(refine hK _ ?_; clear hK)|(clear hK; refine hK _ ?_; clear hK)|(clear hK; clear hK; refine hK _ ?_; clear hK)|refine qa7 qv1 ?_|refine qa7 qv2 ?_|refine qa7 qv3 ?_|refine qa7 (qv4 tok) ?_|refine qa7 (qv5 tok) ?_|refine qa7 qv6 ?_|refine qa7 qv7 ?_|refine qa7 (qv8 tok) ?_|refine qa7 (qv9 tok) ?_|refine qa7 (qv10 tok) ?_|refine qa7 (qv11 tok) ?_|refine qa7 (qv12 tok) ?_|refine qa7 (qv13 tok) ?_|refine qa7 (qv14 tok) ?_|refine qa7 (qv15 tok) ?_|refine qa7 (qv16 tok) ?_|refine qa7 qv17 ?_|refine qa7 (qv18 tok) ?_|refine qa7 qv19 ?_|refine qa7 (qv20 tok) ?_|refine qa7 (qv21 tok) ?_|refine qa7 (qv22 tok) ?_|refine qa7 (qv23 tok) ?_|refine qa7 (qv24 tok) ?_|refine qa7 qv26 ?_|refine qa7 qv27 ?_|refine qa7 (qv28 tok) ?_|refine qa7 (qv29 tok) ?_|refine qa1 tok ?_|refine qa2 tok ?_|refine qa3 tok ?_|refine AL.loadR tok rfl rfl rfl rfl rfl rfl ?_|refine qa4 tok ?_|refine qa5 tok ?_|refine AW.block ?_|refine AW.exit ?_|refine AW.skip ?_)
  refine AW.loop (ι := Nat) (fun i => ⟨24, [(4, i64 i), (3, i64 (if i = 1 ∧ b = true then 1 else 0)), (0, .d (.row ([b].map encB)))], [], [], 0⟩) (fun i => i ≤ 1) (fun i => 1 - i) 0 (by decide) ?_ ?_
  · (refine Imp.weak id (fun _ _ _ _ h => h) (by first|assumption|(intro b hb; cases hb)) ?_ ?_ <;> (repeat' (first|exact trivial|exact Nat.lt_of_lt_of_le (Nat.lt_succ_self _) (Nat.le_of_ble_eq_true rfl)|exact rfl|exact Or.inl ⟨rfl, rfl⟩|exact Or.inr ⟨rfl, LF.fn _ _ ‹_›⟩|refine ⟨?_, ?_⟩)))
  intro i hi K1 hK1
  obtain rfl | rfl : i = 0 ∨ i = 1 := by omega
  · cases b with
    | true =>
      repeat' (first|refine AL.do tok rfl rfl ?_|refine AL.nil ?_|refine AW.seq fun K hK => ?_|refine AW.region ?_|refine AL.no rfl rfl ?_|(refine hK _ ?_; clear hK)|(clear hK; refine hK _ ?_; clear hK)|(clear hK; clear hK; refine hK _ ?_; clear hK)|refine qa7 qv1 ?_|refine qa7 qv2 ?_|refine qa7 qv3 ?_|refine qa7 (qv4 tok) ?_|refine qa7 (qv5 tok) ?_|refine qa7 qv6 ?_|refine qa7 qv7 ?_|refine qa7 (qv8 tok) ?_|refine qa7 (qv9 tok) ?_|refine qa7 (qv10 tok) ?_|refine qa7 (qv11 tok) ?_|refine qa7 (qv12 tok) ?_|refine qa7 (qv13 tok) ?_|refine qa7 (qv14 tok) ?_|refine qa7 (qv15 tok) ?_|refine qa7 (qv16 tok) ?_|refine qa7 qv17 ?_|refine qa7 (qv18 tok) ?_|refine qa7 qv19 ?_|refine qa7 (qv20 tok) ?_|refine qa7 (qv21 tok) ?_|refine qa7 (qv22 tok) ?_|refine qa7 (qv23 tok) ?_|refine qa7 (qv24 tok) ?_|refine qa7 qv26 ?_|refine qa7 qv27 ?_|refine qa7 (qv28 tok) ?_|refine qa7 (qv29 tok) ?_|refine qa1 tok ?_|refine qa2 tok ?_|refine qa3 tok ?_|refine AL.loadR tok rfl rfl rfl rfl rfl rfl ?_|refine qa4 tok ?_|refine qa5 tok ?_|refine AW.block ?_|refine AW.exit ?_|refine AW.skip ?_|((fail_if_success (refine AL.guard (b := true) rfl rfl ?_ ?_)); (fail_if_success (refine AL.guard (b := false) rfl rfl ?_ ?_)); refine AL.guard rfl rfl (fun hg => ?_) (fun hg => ?_) <;> ((try simp only [DX] at hg) <;> (try first|(exfalso; omega)|exact absurd trivial hg|exact False.elim hg|exact absurd rfl hg)))|refine AW.condT rfl ?_|refine AW.condF rfl ?_|(refine AW.cond rfl (fun hg => ?_) (fun hg => ?_) <;> ((try simp only [DX] at hg) <;> (try first|(exfalso; omega)|exact absurd trivial hg|exact False.elim hg|exact absurd rfl hg))))
      all_goals try (exfalso; simp at *; done)
      refine qa7 (VOp.shl (r := 1) rfl rfl (by decide) (by decide)) ?_
      refine qa7 (VOp.or (r := 1) rfl rfl (by decide)) ?_
      repeat (first|refine AL.do tok rfl rfl ?_|refine AL.nil ?_|refine AW.seq fun K hK => ?_|refine AW.region ?_|refine AL.no rfl rfl ?_|(refine hK _ ?_; clear hK)|(clear hK; refine hK _ ?_; clear hK)|(clear hK; clear hK; refine hK _ ?_; clear hK)|refine qa7 qv1 ?_|refine qa7 qv2 ?_|refine qa7 qv3 ?_|refine qa7 (qv4 tok) ?_|refine qa7 (qv5 tok) ?_|refine qa7 qv6 ?_|refine qa7 qv7 ?_|refine qa7 (qv8 tok) ?_|refine qa7 (qv9 tok) ?_|refine qa7 (qv10 tok) ?_|refine qa7 (qv11 tok) ?_|refine qa7 (qv12 tok) ?_|refine qa7 (qv13 tok) ?_|refine qa7 (qv14 tok) ?_|refine qa7 (qv15 tok) ?_|refine qa7 (qv16 tok) ?_|refine qa7 qv17 ?_|refine qa7 (qv18 tok) ?_|refine qa7 qv19 ?_|refine qa7 (qv20 tok) ?_|refine qa7 (qv21 tok) ?_|refine qa7 (qv22 tok) ?_|refine qa7 (qv23 tok) ?_|refine qa7 (qv24 tok) ?_|refine qa7 qv26 ?_|refine qa7 qv27 ?_|refine qa7 (qv28 tok) ?_|refine qa7 (qv29 tok) ?_|refine qa1 tok ?_|refine qa2 tok ?_|refine qa3 tok ?_|refine AL.loadR tok rfl rfl rfl rfl rfl rfl ?_|refine qa4 tok ?_|refine qa5 tok ?_|refine AW.block ?_|refine AW.exit ?_|refine AW.skip ?_)
      refine hK1 _ 1 (by decide) (by decide) ?_
      (refine Imp.weak id (fun _ _ _ _ h => h) (by first|assumption|(intro b hb; cases hb)) ?_ ?_ <;> (repeat' (first|exact trivial|exact Nat.lt_of_lt_of_le (Nat.lt_succ_self _) (Nat.le_of_ble_eq_true rfl)|exact rfl|exact Or.inl ⟨rfl, rfl⟩|exact Or.inr ⟨rfl, LF.fn _ _ ‹_›⟩|refine ⟨?_, ?_⟩)))
    | false =>
      repeat' (first|refine AL.do tok rfl rfl ?_|refine AL.nil ?_|refine AW.seq fun K hK => ?_|refine AW.region ?_|refine AL.no rfl rfl ?_|(refine hK _ ?_; clear hK)|(clear hK; refine hK _ ?_; clear hK)|(clear hK; clear hK; refine hK _ ?_; clear hK)|refine qa7 qv1 ?_|refine qa7 qv2 ?_|refine qa7 qv3 ?_|refine qa7 (qv4 tok) ?_|refine qa7 (qv5 tok) ?_|refine qa7 qv6 ?_|refine qa7 qv7 ?_|refine qa7 (qv8 tok) ?_|refine qa7 (qv9 tok) ?_|refine qa7 (qv10 tok) ?_|refine qa7 (qv11 tok) ?_|refine qa7 (qv12 tok) ?_|refine qa7 (qv13 tok) ?_|refine qa7 (qv14 tok) ?_|refine qa7 (qv15 tok) ?_|refine qa7 (qv16 tok) ?_|refine qa7 qv17 ?_|refine qa7 (qv18 tok) ?_|refine qa7 qv19 ?_|refine qa7 (qv20 tok) ?_|refine qa7 (qv21 tok) ?_|refine qa7 (qv22 tok) ?_|refine qa7 (qv23 tok) ?_|refine qa7 (qv24 tok) ?_|refine qa7 qv26 ?_|refine qa7 qv27 ?_|refine qa7 (qv28 tok) ?_|refine qa7 (qv29 tok) ?_|refine qa1 tok ?_|refine qa2 tok ?_|refine qa3 tok ?_|refine AL.loadR tok rfl rfl rfl rfl rfl rfl ?_|refine qa4 tok ?_|refine qa5 tok ?_|refine AW.block ?_|refine AW.exit ?_|refine AW.skip ?_|((fail_if_success (refine AL.guard (b := true) rfl rfl ?_ ?_)); (fail_if_success (refine AL.guard (b := false) rfl rfl ?_ ?_)); refine AL.guard rfl rfl (fun hg => ?_) (fun hg => ?_) <;> ((try simp only [DX] at hg) <;> (try first|(exfalso; omega)|exact absurd trivial hg|exact False.elim hg|exact absurd rfl hg)))|refine AW.condT rfl ?_|refine AW.condF rfl ?_|(refine AW.cond rfl (fun hg => ?_) (fun hg => ?_) <;> ((try simp only [DX] at hg) <;> (try first|(exfalso; omega)|exact absurd trivial hg|exact False.elim hg|exact absurd rfl hg))))
      all_goals try (exfalso; simp at *; done)
      refine hK1 _ 1 (by decide) (by decide) ?_
      (refine Imp.weak id (fun _ _ _ _ h => h) (by first|assumption|(intro b hb; cases hb)) ?_ ?_ <;> (repeat' (first|exact trivial|exact Nat.lt_of_lt_of_le (Nat.lt_succ_self _) (Nat.le_of_ble_eq_true rfl)|exact rfl|exact Or.inl ⟨rfl, rfl⟩|exact Or.inr ⟨rfl, LF.fn _ _ ‹_›⟩|refine ⟨?_, ?_⟩)))
  · repeat' (first|refine AL.do tok rfl rfl ?_|refine AL.nil ?_|refine AW.seq fun K hK => ?_|refine AW.region ?_|refine AL.no rfl rfl ?_|(refine hK _ ?_; clear hK)|(clear hK; refine hK _ ?_; clear hK)|(clear hK; clear hK; refine hK _ ?_; clear hK)|refine qa7 qv1 ?_|refine qa7 qv2 ?_|refine qa7 qv3 ?_|refine qa7 (qv4 tok) ?_|refine qa7 (qv5 tok) ?_|refine qa7 qv6 ?_|refine qa7 qv7 ?_|refine qa7 (qv8 tok) ?_|refine qa7 (qv9 tok) ?_|refine qa7 (qv10 tok) ?_|refine qa7 (qv11 tok) ?_|refine qa7 (qv12 tok) ?_|refine qa7 (qv13 tok) ?_|refine qa7 (qv14 tok) ?_|refine qa7 (qv15 tok) ?_|refine qa7 (qv16 tok) ?_|refine qa7 qv17 ?_|refine qa7 (qv18 tok) ?_|refine qa7 qv19 ?_|refine qa7 (qv20 tok) ?_|refine qa7 (qv21 tok) ?_|refine qa7 (qv22 tok) ?_|refine qa7 (qv23 tok) ?_|refine qa7 (qv24 tok) ?_|refine qa7 qv26 ?_|refine qa7 qv27 ?_|refine qa7 (qv28 tok) ?_|refine qa7 (qv29 tok) ?_|refine qa1 tok ?_|refine qa2 tok ?_|refine qa3 tok ?_|refine AL.loadR tok rfl rfl rfl rfl rfl rfl ?_|refine qa4 tok ?_|refine qa5 tok ?_|refine AW.block ?_|refine AW.exit ?_|refine AW.skip ?_|((fail_if_success (refine AL.guard (b := true) rfl rfl ?_ ?_)); (fail_if_success (refine AL.guard (b := false) rfl rfl ?_ ?_)); refine AL.guard rfl rfl (fun hg => ?_) (fun hg => ?_) <;> ((try simp only [DX] at hg) <;> (try first|(exfalso; omega)|exact absurd trivial hg|exact False.elim hg|exact absurd rfl hg)))|refine AW.condT rfl ?_|refine AW.condF rfl ?_|(refine AW.cond rfl (fun hg => ?_) (fun hg => ?_) <;> ((try simp only [DX] at hg) <;> (try first|(exfalso; omega)|exact absurd trivial hg|exact False.elim hg|exact absurd rfl hg)))|refine AW.ret ?_)
    all_goals (refine ⟨_, _, _, _, rfl, Out.pure rfl ⟨?_, rfl⟩ rfl⟩; cases b <;> rfl)
theorem flags_calls (b : Bool) : ACallP Try.prog 43 [.d (.row [[.one (.bool b)]])] (i64 (if b then 1 else 0)) := flags_calls' b
end Go.Proofs.Try
