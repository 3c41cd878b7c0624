/- Requests: compared; the word of a kind. -/
import Derived.Test.YtagdffkagpeomaaTxA
import Derived.Test.YtagdffkagpeomaaWk
set_option linter.unusedSimpArgs false
set_option linter.unusedVariables false
namespace Go.Proofs.Try
open Go Go.AM

/-- The word of a kind of request. -/
def wordL : List ByteArray := [⟨#[]⟩, ⟨#[101, 120, 99, 104, 97, 110, 103, 101]⟩, ⟨#[113, 117, 101, 117, 101]⟩, ⟨#[98, 105, 110, 100]⟩, ⟨#[117, 110, 98, 105, 110, 100]⟩, ⟨#[112, 117, 98, 108, 105, 115, 104]⟩, ⟨#[99, 111, 110, 115, 117, 109, 101]⟩, ⟨#[99, 97, 110, 99, 101, 108]⟩, ⟨#[97, 99, 107]⟩, ⟨#[110, 97, 99, 107]⟩, ⟨#[98, 101, 103, 105, 110]⟩, ⟨#[99, 111, 109, 109, 105, 116]⟩, ⟨#[114, 111, 108, 108, 98, 97, 99, 107]⟩, ⟨#[112, 117, 114, 103, 101]⟩, ⟨#[100, 101, 108, 101, 116, 101]⟩, ⟨#[100, 101, 115, 99, 114, 105, 98, 101]⟩]
def wordS (k : Int) : ByteArray := if 1 ≤ k then wordL.getD k.toNat ⟨#[]⟩ else ⟨#[]⟩
theorem kind15 {k : Int} (h : 1 ≤ k ∧ k < 16) : k = 1 ∨ k = 2 ∨ k = 3 ∨ k = 4 ∨ k = 5 ∨ k = 6 ∨ k = 7 ∨ k = 8 ∨ k = 9 ∨ k = 10 ∨ k = 11 ∨ k = 12 ∨ k = 13 ∨ k = 14 ∨ k = 15 := by omega
theorem wordS_out {k : Int} (h : ¬ (1 ≤ k ∧ k < 16)) : wordS k = ⟨#[]⟩ := by
  unfold wordS
  split
  · rw [List.getD_eq_getElem?_getD, List.getElem?_eq_none (by show (16 : Nat) ≤ _; omega)]; rfl
  · rfl
theorem wordS_emp (k : Int) : wordS k = ⟨#[]⟩ ↔ ¬ (1 ≤ k ∧ k < 16) := by
  by_cases h : 1 ≤ k ∧ k < 16
  · rcases kind15 h with rfl | rfl | rfl | rfl | rfl | rfl | rfl | rfl | rfl | rfl | rfl | rfl | rfl | rfl | rfl <;> decide
  · exact ⟨fun _ => h, fun _ => wordS_out h⟩
set_option maxHeartbeats 16000000 in
set_option maxRecDepth 10000 in
theorem refWord_calls (k : Int) : ACallP Try.prog 32 [i64 k] (st (wordS k)) := by
  by_cases h : 1 ≤ k ∧ k < 16
  · rcases kind15 h with rfl | rfl | rfl | rfl | rfl | rfl | rfl | rfl | rfl | rfl | rfl | rfl | rfl | rfl | rfl
    all_goals
      refine ACalls.body tok Try.func32 rfl (by kernel_rfl) (by rw [Try.ntmps32]; simp) ?_
      simp only [Try.ntmps32, Try.results32, argT]
      repeat' (first|refine AL.do tok rfl rfl ?_|refine AL.nil ?_|refine AW.seq fun K hK => ?_|refine AW.region ?_|refine AL.no rfl rfl ?_|(refine hK _ ?_; clear hK)|(clear hK; refine hK _ ?_; clear hK)|(clear hK; clear hK; refine hK _ ?_; clear hK)|refine qaW ?_|refine qa1 tok ?_|refine qa2 tok ?_|refine qa3 tok ?_|refine AL.loadR tok rfl rfl rfl rfl rfl rfl ?_|refine qa4 tok ?_|refine qa5 tok ?_|refine AW.block ?_|refine AW.exit ?_|refine AW.skip ?_|((fail_if_success (refine AL.guard (b := true) rfl rfl ?_ ?_)); (fail_if_success (refine AL.guard (b := false) rfl rfl ?_ ?_)); refine AL.guard rfl rfl (fun hg => ?_) (fun hg => ?_) <;> ((try simp only [DX] at hg) <;> (try first|(exfalso; omega)|exact absurd trivial hg|exact False.elim hg|exact absurd rfl hg)))|refine AW.condT rfl ?_|refine AW.condF rfl ?_|(refine AW.cond rfl (fun hg => ?_) (fun hg => ?_) <;> ((try simp only [DX] at hg) <;> (try first|(exfalso; omega)|exact absurd trivial hg|exact False.elim hg|exact absurd rfl hg)))|refine AW.ret ?_)
      all_goals (refine ⟨_, _, _, _, rfl, Out.pure rfl ⟨?_, rfl⟩ rfl⟩; rfl)
  · rw [wordS_out h]
    refine ACalls.body tok Try.func32 rfl (by kernel_rfl) (by rw [Try.ntmps32]; simp) ?_
    simp only [Try.ntmps32, Try.results32, argT]
    repeat' (first|refine AL.do tok rfl rfl ?_|refine AL.nil ?_|refine AW.seq fun K hK => ?_|refine AW.region ?_|refine AL.no rfl rfl ?_|(refine hK _ ?_; clear hK)|(clear hK; refine hK _ ?_; clear hK)|(clear hK; clear hK; refine hK _ ?_; clear hK)|refine qaW ?_|refine qa1 tok ?_|refine qa2 tok ?_|refine qa3 tok ?_|refine AL.loadR tok rfl rfl rfl rfl rfl rfl ?_|refine qa4 tok ?_|refine qa5 tok ?_|refine AW.block ?_|refine AW.exit ?_|refine AW.skip ?_|((fail_if_success (refine AL.guard (b := true) rfl rfl ?_ ?_)); (fail_if_success (refine AL.guard (b := false) rfl rfl ?_ ?_)); refine AL.guard rfl rfl (fun hg => ?_) (fun hg => ?_) <;> ((try simp only [DX] at hg) <;> (try first|(exfalso; omega)|exact absurd trivial hg|exact False.elim hg|exact absurd rfl hg)))|refine AW.condT rfl ?_|refine AW.condF rfl ?_|(refine AW.cond rfl (fun hg => ?_) (fun hg => ?_) <;> ((try simp only [DX] at hg) <;> (try first|(exfalso; omega)|exact absurd trivial hg|exact False.elim hg|exact absurd rfl hg)))|refine AW.ret ?_)
    all_goals first
      | (refine ⟨_, _, _, _, rfl, Out.pure rfl ⟨?_, rfl⟩ rfl⟩; rfl)
      | ((try simp only [DX] at *); exfalso; simp only [List.length_cons, List.length_nil] at *; omega)

def eqB (a b : Bi) : Bool := decide (a.ex = b.ex) && decide (a.qu = b.qu) && decide (a.key = b.key) && decide (a.all = b.all) && eqPs a.mtc b.mtc
theorem eqB_iff {a b : Bi} : eqB a b = true ↔ a = b := by
  cases a; cases b
  simp [eqB, eqPs_iff, and_assoc]
def eqX (a b : Ex) : Bool := decide (a.name = b.name) && (decide (a.kind = b.kind) && (decide (a.alt = b.alt) && true))
def eqSp (a b : Sp) : Bool := decide (a.name = b.name) && (decide (a.max = b.max) && (decide (a.ttl = b.ttl) && (decide (a.att = b.att) && (decide (a.dead = b.dead) && true))))
def eqR (a b : Rq) : Bool := decide (a.kind = b.kind) && decide (a.conn = b.conn) && decide (a.serial = b.serial) && decide (a.tag = b.tag) && decide (a.limit = b.limit) && decide (a.flag = b.flag) && decide (a.name = b.name) && decide (a.key = b.key) && eqX a.x b.x && eqSp a.spec b.spec && eqB a.b b.b && eqM a.msg b.msg
theorem eqX_iff {a b : Ex} : eqX a b = true ↔ a = b := by
  cases a; cases b
  simp [eqX]
theorem eqSp_iff {a b : Sp} : eqSp a b = true ↔ a = b := by
  cases a; cases b
  simp [eqSp]
theorem eqR_iff {a b : Rq} : eqR a b = true ↔ a = b := by
  cases a; cases b
  simp [eqR, eqX_iff, eqSp_iff, eqB_iff, eqM_iff, and_assoc]

set_option maxHeartbeats 8000000 in
set_option maxRecDepth 10000 in
theorem refSameB_calls (a b : Bi) : ACallP Try.prog 52 [aggB a, aggB b] (bo (eqB a b)) := by
  refine ACalls.body tok Try.func52 rfl (by kernel_rfl) (by rw [Try.ntmps52]; simp) ?_
  simp only [Try.ntmps52, Try.results52, argT]
  repeat' (first|refine AL.do tok rfl rfl ?_|refine AL.nil ?_|refine AW.seq fun K hK => ?_|refine AW.region ?_|refine AL.no rfl rfl ?_|(refine hK _ ?_; clear hK)|(clear hK; refine hK _ ?_; clear hK)|(clear hK; clear hK; refine hK _ ?_; clear hK)|refine qaW ?_|refine qa1 tok ?_|refine qa2 tok ?_|refine qa3 tok ?_|refine AL.loadR tok rfl rfl rfl rfl rfl rfl ?_|refine qa4 tok ?_|refine qa5 tok ?_|refine AW.block ?_|refine AW.exit ?_|refine AW.skip ?_|refine qc1 (sameProps_calls ..) ?_|refine qc2 (sameProps_calls ..) ?_|((fail_if_success (refine AL.guard (b := true) rfl rfl ?_ ?_)); (fail_if_success (refine AL.guard (b := false) rfl rfl ?_ ?_)); refine AL.guard rfl rfl (fun hg => ?_) (fun hg => ?_) <;> ((try simp only [DX] at hg) <;> (try first|(exfalso; omega)|exact absurd trivial hg|exact False.elim hg|exact absurd rfl hg)))|refine AW.condT rfl ?_|refine AW.condF rfl ?_|(refine AW.cond rfl (fun hg => ?_) (fun hg => ?_) <;> ((try simp only [DX] at hg) <;> (try first|(exfalso; omega)|exact absurd trivial hg|exact False.elim hg|exact absurd rfl hg)))|refine AW.ret ?_)
  all_goals (refine ⟨_, _, _, _, rfl, Out.pure rfl ⟨?_, rfl⟩ rfl⟩; simp [eqB, *])
set_option maxHeartbeats 8000000 in
set_option maxRecDepth 10000 in
theorem bindings_calls (a b : Bi) : ACallP Try.prog 60 [aggB a, aggB b] (bo (eqB a b)) := by
  refine ACalls.body tok Try.func60 rfl (by kernel_rfl) (by rw [Try.ntmps60]; simp) ?_
  simp only [Try.ntmps60, Try.results60, argT]
  repeat' (first|refine AL.do tok rfl rfl ?_|refine AL.nil ?_|refine AW.seq fun K hK => ?_|refine AW.region ?_|refine AL.no rfl rfl ?_|(refine hK _ ?_; clear hK)|(clear hK; refine hK _ ?_; clear hK)|(clear hK; clear hK; refine hK _ ?_; clear hK)|refine qaW ?_|refine qa1 tok ?_|refine qa2 tok ?_|refine qa3 tok ?_|refine AL.loadR tok rfl rfl rfl rfl rfl rfl ?_|refine qa4 tok ?_|refine qa5 tok ?_|refine AW.block ?_|refine AW.exit ?_|refine AW.skip ?_|((fail_if_success (refine AL.guard (b := true) rfl rfl ?_ ?_)); (fail_if_success (refine AL.guard (b := false) rfl rfl ?_ ?_)); refine AL.guard rfl rfl (fun hg => ?_) (fun hg => ?_) <;> ((try simp only [DX] at hg) <;> (try first|(exfalso; omega)|exact absurd trivial hg|exact False.elim hg|exact absurd rfl hg)))|refine AW.condT rfl ?_|refine AW.condF rfl ?_|(refine AW.cond rfl (fun hg => ?_) (fun hg => ?_) <;> ((try simp only [DX] at hg) <;> (try first|(exfalso; omega)|exact absurd trivial hg|exact False.elim hg|exact absurd rfl hg)))|refine AW.ret ?_)
  all_goals try simp only [List.length_map] at *
  all_goals first
    | (refine ⟨_, _, _, _, rfl, Out.pure rfl ⟨?_, rfl⟩ rfl⟩
       simp [eqB, *]
       done)
    | (refine ⟨_, _, _, _, rfl, Out.pure rfl ⟨?_, rfl⟩ rfl⟩
       have h : eqPs a.mtc b.mtc = false := eqPs_len (by omega)
       simp [eqB, h]
       done)
    | skip
  refine AW.bound 43 rfl fun hm => ?_
  rw [List.length_map] at hm
  have hlen : a.mtc.length = b.mtc.length := by omega
  have he : eqB a b = eqPs a.mtc b.mtc := by simp [eqB, *]
  rw [he]
  refine AW.loop (ι := Nat) (fun i => ⟨58, [(45, i64 i), (44, i64 a.mtc.length), (43, rowP a.mtc), (2, .ptr (.loc 0) 0), (3, .ptr (.loc 1) 0)], [(0, some (.box 37 [st a.ex, st a.qu, st a.key, bo a.all, rowP a.mtc])), (1, some (.box 37 [st b.ex, st b.qu, st b.key, bo b.all, rowP b.mtc]))], [], 2⟩)
    (fun i => i ≤ a.mtc.length ∧ eqPs (a.mtc.drop i) (b.mtc.drop i) = eqPs a.mtc b.mtc) (fun i => a.mtc.length - i) 0 (And.intro (Nat.zero_le _) rfl) ?_ ?_
  · (refine Imp.weak id (fun _ _ _ _ h => h) (by first|assumption|(intro b hb; cases hb)) ?_ ?_ <;> (repeat' (first|exact trivial|exact Nat.lt_of_lt_of_le (Nat.lt_succ_self _) (Nat.le_of_ble_eq_true rfl)|exact rfl|exact Or.inl ⟨rfl, rfl⟩|exact Or.inr ⟨rfl, LF.fn _ _ ‹_›⟩|refine ⟨?_, ?_⟩)))
  rintro i ⟨hi, hf⟩ K1 hK1
  by_cases hlt : i < a.mtc.length
  · rw [List.drop_eq_getElem_cons hlt, List.drop_eq_getElem_cons (show i < b.mtc.length by omega), eqPs] at hf
    repeat (first|refine AL.do tok rfl rfl ?_|refine AL.nil ?_|refine AW.seq fun K hK => ?_|refine AW.region ?_|refine AL.no rfl rfl ?_|(refine hK _ ?_; clear hK)|(clear hK; refine hK _ ?_; clear hK)|(clear hK; clear hK; refine hK _ ?_; clear hK)|refine qaW ?_|refine qa1 tok ?_|refine qa2 tok ?_|refine qa3 tok ?_|refine AL.loadR tok rfl rfl rfl rfl rfl rfl ?_|refine qa4 tok ?_|refine qa5 tok ?_|refine AW.block ?_|refine AW.exit ?_|refine AW.skip ?_)
    refine AW.cond rfl (fun hg => ?_) (fun hg => by simp at hg; omega)
    repeat (first|refine AL.do tok rfl rfl ?_|refine AL.nil ?_|refine AW.seq fun K hK => ?_|refine AW.region ?_|refine AL.no rfl rfl ?_|(refine hK _ ?_; clear hK)|(clear hK; refine hK _ ?_; clear hK)|(clear hK; clear hK; refine hK _ ?_; clear hK)|refine qaW ?_|refine qa1 tok ?_|refine qa2 tok ?_|refine qa3 tok ?_|refine AL.loadR tok rfl rfl rfl rfl rfl rfl ?_|refine qa4 tok ?_|refine qa5 tok ?_|refine AW.block ?_|refine AW.exit ?_|refine AW.skip ?_)
    refine AW.drawn mix (by kernel_rfl) ?_
    repeat (first|refine AQ.do tok rfl rfl rfl ?_|refine AQ.no rfl rfl ?_|refine qqW ?_|refine AQ.nil ?_)
    rw [show eqP a.mtc[i] b.mtc[i] = (decide (a.mtc[i].key = b.mtc[i].key) && (decide (a.mtc[i].value = b.mtc[i].value) && true)) from rfl] at hf
    generalize (decide (a.mtc[i].key = b.mtc[i].key) && (decide (a.mtc[i].value = b.mtc[i].value) && true)) = q at *
    cases q with
    | false =>
      repeat' (first|refine AL.do tok rfl rfl ?_|refine AL.nil ?_|refine AW.seq fun K hK => ?_|refine AW.region ?_|refine AL.no rfl rfl ?_|(refine hK _ ?_; clear hK)|(clear hK; refine hK _ ?_; clear hK)|(clear hK; clear hK; refine hK _ ?_; clear hK)|refine qaW ?_|refine qa1 tok ?_|refine qa2 tok ?_|refine qa3 tok ?_|refine AL.loadR tok rfl rfl rfl rfl rfl rfl ?_|refine qa4 tok ?_|refine qa5 tok ?_|refine AW.block ?_|refine AW.exit ?_|refine AW.skip ?_|((fail_if_success (refine AL.guard (b := true) rfl rfl ?_ ?_)); (fail_if_success (refine AL.guard (b := false) rfl rfl ?_ ?_)); refine AL.guard rfl rfl (fun hg => ?_) (fun hg => ?_) <;> ((try simp only [DX] at hg) <;> (try first|(exfalso; omega)|exact absurd trivial hg|exact False.elim hg|exact absurd rfl hg)))|refine AW.condT rfl ?_|refine AW.condF rfl ?_|(refine AW.cond rfl (fun hg => ?_) (fun hg => ?_) <;> ((try simp only [DX] at hg) <;> (try first|(exfalso; omega)|exact absurd trivial hg|exact False.elim hg|exact absurd rfl hg)))|refine AW.ret ?_)
      refine ⟨_, _, _, _, rfl, Out.pure rfl ⟨?_, rfl⟩ rfl⟩
      first | rw [he, ← hf] | rw [← hf]
      rfl
    | true =>
      rw [Bool.true_and] at hf
      repeat' (first|refine AL.do tok rfl rfl ?_|refine AL.nil ?_|refine AW.seq fun K hK => ?_|refine AW.region ?_|refine AL.no rfl rfl ?_|(refine hK _ ?_; clear hK)|(clear hK; refine hK _ ?_; clear hK)|(clear hK; clear hK; refine hK _ ?_; clear hK)|refine qaW ?_|refine qa1 tok ?_|refine qa2 tok ?_|refine qa3 tok ?_|refine AL.loadR tok rfl rfl rfl rfl rfl rfl ?_|refine qa4 tok ?_|refine qa5 tok ?_|refine AW.block ?_|refine AW.exit ?_|refine AW.skip ?_|((fail_if_success (refine AL.guard (b := true) rfl rfl ?_ ?_)); (fail_if_success (refine AL.guard (b := false) rfl rfl ?_ ?_)); refine AL.guard rfl rfl (fun hg => ?_) (fun hg => ?_) <;> ((try simp only [DX] at hg) <;> (try first|(exfalso; omega)|exact absurd trivial hg|exact False.elim hg|exact absurd rfl hg)))|refine AW.condT rfl ?_|refine AW.condF rfl ?_|(refine AW.cond rfl (fun hg => ?_) (fun hg => ?_) <;> ((try simp only [DX] at hg) <;> (try first|(exfalso; omega)|exact absurd trivial hg|exact False.elim hg|exact absurd rfl hg)))|refine AW.ret ?_)
      refine hK1 _ (i + 1) (And.intro (by omega) hf) (by omega) ?_
      (refine Imp.weak id (fun _ _ _ _ h => h) (by first|assumption|(intro b hb; cases hb)) ?_ ?_ <;> (repeat' (first|exact trivial|exact Nat.lt_of_lt_of_le (Nat.lt_succ_self _) (Nat.le_of_ble_eq_true rfl)|exact rfl|exact Or.inl ⟨rfl, rfl⟩|exact Or.inr ⟨rfl, LF.fn _ _ ‹_›⟩|refine ⟨?_, ?_⟩)))
  · repeat (first|refine AL.do tok rfl rfl ?_|refine AL.nil ?_|refine AW.seq fun K hK => ?_|refine AW.region ?_|refine AL.no rfl rfl ?_|(refine hK _ ?_; clear hK)|(clear hK; refine hK _ ?_; clear hK)|(clear hK; clear hK; refine hK _ ?_; clear hK)|refine qaW ?_|refine qa1 tok ?_|refine qa2 tok ?_|refine qa3 tok ?_|refine AL.loadR tok rfl rfl rfl rfl rfl rfl ?_|refine qa4 tok ?_|refine qa5 tok ?_|refine AW.block ?_|refine AW.exit ?_|refine AW.skip ?_)
    refine AW.cond rfl (fun hg => by simp at hg; omega) (fun hg => ?_)
    repeat (first|refine AL.do tok rfl rfl ?_|refine AL.nil ?_|refine AW.seq fun K hK => ?_|refine AW.region ?_|refine AL.no rfl rfl ?_|(refine hK _ ?_; clear hK)|(clear hK; refine hK _ ?_; clear hK)|(clear hK; clear hK; refine hK _ ?_; clear hK)|refine qaW ?_|refine qa1 tok ?_|refine qa2 tok ?_|refine qa3 tok ?_|refine AL.loadR tok rfl rfl rfl rfl rfl rfl ?_|refine qa4 tok ?_|refine qa5 tok ?_|refine AW.block ?_|refine AW.exit ?_|refine AW.skip ?_)
    refine AW.ret ?_
    refine ⟨_, _, _, _, rfl, Out.pure rfl ⟨?_, rfl⟩ rfl⟩
    rw [he, ← hf, List.drop_eq_nil_of_le (by omega), List.drop_eq_nil_of_le (by omega)]
    rfl
set_option maxHeartbeats 16000000 in
set_option maxRecDepth 10000 in
theorem lsame_calls (a b : Rq) : ACallP Try.prog 39 [aggR a, aggR b] (bo (eqR a b)) := by
  have k1 := bindings_calls a.b b.b
  have k2 := sameM_calls a.msg b.msg
  have he : eqR a b = (decide (a.kind = b.kind) && decide (a.conn = b.conn) && decide (a.serial = b.serial) && decide (a.tag = b.tag) && decide (a.limit = b.limit) && decide (a.flag = b.flag) && decide (a.name = b.name) && decide (a.key = b.key) && (decide (a.x.name = b.x.name) && (decide (a.x.kind = b.x.kind) && (decide (a.x.alt = b.x.alt) && true))) && (decide (a.spec.name = b.spec.name) && (decide (a.spec.max = b.spec.max) && (decide (a.spec.ttl = b.spec.ttl) && (decide (a.spec.att = b.spec.att) && (decide (a.spec.dead = b.spec.dead) && true))))) && eqB a.b b.b && eqM a.msg b.msg) := rfl
  rw [he]
  generalize eqB a.b b.b = q1 at *
  generalize eqM a.msg b.msg = q2 at *
  refine ACalls.body tok Try.func39 rfl (by kernel_rfl) (by rw [Try.ntmps39]; simp) ?_
  simp only [Try.ntmps39, Try.results39, argT]
  repeat' (first|refine AL.do tok rfl rfl ?_|refine AL.nil ?_|refine AW.seq fun K hK => ?_|refine AW.region ?_|refine AL.no rfl rfl ?_|(refine hK _ ?_; clear hK)|(clear hK; refine hK _ ?_; clear hK)|(clear hK; clear hK; refine hK _ ?_; clear hK)|refine qaW ?_|refine qa1 tok ?_|refine qa2 tok ?_|refine qa3 tok ?_|refine AL.loadR tok rfl rfl rfl rfl rfl rfl ?_|refine qa4 tok ?_|refine qa5 tok ?_|refine AW.block ?_|refine AW.exit ?_|refine AW.skip ?_|refine qc1 (k1 ..) ?_|refine qc2 (k1 ..) ?_|refine qc1 (k2 ..) ?_|refine qc2 (k2 ..) ?_|((fail_if_success (refine AL.guard (b := true) rfl rfl ?_ ?_)); (fail_if_success (refine AL.guard (b := false) rfl rfl ?_ ?_)); refine AL.guard rfl rfl (fun hg => ?_) (fun hg => ?_) <;> ((try simp only [DX] at hg) <;> (try first|(exfalso; omega)|exact absurd trivial hg|exact False.elim hg|exact absurd rfl hg)))|refine AW.condT rfl ?_|refine AW.condF rfl ?_|(refine AW.cond rfl (fun hg => ?_) (fun hg => ?_) <;> ((try simp only [DX] at hg) <;> (try first|(exfalso; omega)|exact absurd trivial hg|exact False.elim hg|exact absurd rfl hg)))|refine AW.ret ?_)
  all_goals (refine ⟨_, _, _, _, rfl, Out.pure rfl ⟨?_, rfl⟩ rfl⟩; first | (simp [*]; done) | (simp [*]; intros; simp_all; done))
set_option maxHeartbeats 16000000 in
set_option maxRecDepth 10000 in
theorem refSame8_calls (a b : Rq) : ACallP Try.prog 35 [aggR a, aggR b] (bo (eqR a b)) := by
  have k1 := refSameB_calls a.b b.b
  have k2 := refSameM_calls a.msg b.msg
  have he : eqR a b = (decide (a.kind = b.kind) && decide (a.conn = b.conn) && decide (a.serial = b.serial) && decide (a.tag = b.tag) && decide (a.limit = b.limit) && decide (a.flag = b.flag) && decide (a.name = b.name) && decide (a.key = b.key) && (decide (a.x.name = b.x.name) && (decide (a.x.kind = b.x.kind) && (decide (a.x.alt = b.x.alt) && true))) && (decide (a.spec.name = b.spec.name) && (decide (a.spec.max = b.spec.max) && (decide (a.spec.ttl = b.spec.ttl) && (decide (a.spec.att = b.spec.att) && (decide (a.spec.dead = b.spec.dead) && true))))) && eqB a.b b.b && eqM a.msg b.msg) := rfl
  rw [he]
  generalize eqB a.b b.b = q1 at *
  generalize eqM a.msg b.msg = q2 at *
  refine ACalls.body tok Try.func35 rfl (by kernel_rfl) (by rw [Try.ntmps35]; simp) ?_
  simp only [Try.ntmps35, Try.results35, argT]
  repeat' (first|refine AL.do tok rfl rfl ?_|refine AL.nil ?_|refine AW.seq fun K hK => ?_|refine AW.region ?_|refine AL.no rfl rfl ?_|(refine hK _ ?_; clear hK)|(clear hK; refine hK _ ?_; clear hK)|(clear hK; clear hK; refine hK _ ?_; clear hK)|refine qaW ?_|refine qa1 tok ?_|refine qa2 tok ?_|refine qa3 tok ?_|refine AL.loadR tok rfl rfl rfl rfl rfl rfl ?_|refine qa4 tok ?_|refine qa5 tok ?_|refine AW.block ?_|refine AW.exit ?_|refine AW.skip ?_|refine qc1 (k1 ..) ?_|refine qc2 (k1 ..) ?_|refine qc1 (k2 ..) ?_|refine qc2 (k2 ..) ?_|((fail_if_success (refine AL.guard (b := true) rfl rfl ?_ ?_)); (fail_if_success (refine AL.guard (b := false) rfl rfl ?_ ?_)); refine AL.guard rfl rfl (fun hg => ?_) (fun hg => ?_) <;> ((try simp only [DX] at hg) <;> (try first|(exfalso; omega)|exact absurd trivial hg|exact False.elim hg|exact absurd rfl hg)))|refine AW.condT rfl ?_|refine AW.condF rfl ?_|(refine AW.cond rfl (fun hg => ?_) (fun hg => ?_) <;> ((try simp only [DX] at hg) <;> (try first|(exfalso; omega)|exact absurd trivial hg|exact False.elim hg|exact absurd rfl hg)))|refine AW.ret ?_)
  all_goals (refine ⟨_, _, _, _, rfl, Out.pure rfl ⟨?_, rfl⟩ rfl⟩; first | (simp [*]; done) | (simp [*]; intros; simp_all; done))
end Go.Proofs.Try
