/- fair: a consumer added. -/
import Derived.Test.YtpohebmofcdeiaaFairF
set_option linter.unusedSimpArgs false
set_option linter.unusedVariables false
namespace Go.Proofs.Try
open Go Go.AM

def addS (l : List C) (c : C) : List C × Int := if oneS l c = 0 then (if 32 ≤ l.length then ([], 6) else (l ++ [c], 0)) else ([], oneS l c)
abbrev addAV (r : List C × Int) : AV := .tup [rowC r.1, i64 r.2]

set_option maxHeartbeats 8000000 in
set_option maxRecDepth 10000 in
theorem refAdd_calls (l : List C) (c : C) (hl : l.length ≤ 1000000) : ACallP Try.prog 17 [rowC l, aggC c] (addAV (addS l c)) := by
  refine ACalls.body tok Try.func17 rfl (by kernel_rfl) (by rw [Try.ntmps17]; simp) ?_
  simp only [Try.ntmps17, Try.results17, argT]
  refine AW.bound 0 rfl fun hm => ?_
  rw [List.length_map] at hm
  repeat' (first
      | refine AL.do tok rfl rfl ?_
      | refine AL.nil ?_
      | refine AW.seq fun K hK => ?_
      | refine AW.region ?_
      | refine AL.no rfl rfl ?_
      | (refine hK _ ?_; clear hK)
      | (clear hK; refine hK _ ?_; clear hK)
      | (clear hK; clear hK; refine hK _ ?_; clear hK)
      | refine AL.add rfl rfl rfl rfl (by constructor <;> omega) ?_
      | refine AL.sub rfl rfl rfl rfl (by constructor <;> omega) ?_
      | refine AL.neg rfl rfl rfl (by constructor <;> omega) ?_
      | refine AL.eq tok rfl rfl rfl rfl rfl (by kernel_rfl) ?_
      | refine AL.neq tok rfl rfl rfl rfl rfl (by kernel_rfl) ?_
      | refine AL.max rfl rfl rfl rfl ?_
      | refine AL.buildSlice tok rfl rfl rfl rfl rfl rfl rfl rfl ?_
      | refine AL.min rfl rfl rfl rfl ?_
      | refine AL.idxM tok rfl rfl rfl rfl rfl rfl (fun _ => rfl) (by first | omega | decide) ?_
      | refine AL.idxMI tok rfl rfl rfl rfl rfl rfl (fun _ => rfl) (by omega) (by omega) ?_
      | refine AL.v rfl rfl (VOp.cutTo tok rfl rfl rfl (fun _ => rfl) rfl (by omega)) ?_
      | refine AL.v rfl rfl (VOp.cutFrom tok rfl rfl rfl (fun _ => rfl) rfl (by omega)) ?_
      | refine AL.v rfl rfl (VOp.cutS tok rfl rfl rfl rfl (by omega) (by omega)) ?_
      | refine AL.v rfl rfl (VOp.cutSF tok rfl rfl rfl (by omega)) ?_
      | refine AL.v rfl rfl (VOp.cutST tok rfl rfl rfl (by omega)) ?_
      | refine AL.v rfl rfl (VOp.joinS rfl rfl (by omega)) ?_
      | refine AL.idxON tok rfl rfl rfl rfl rfl rfl rfl rfl (by first | omega | (simp; omega) | (simp; done) | decide) ?_
      | refine AL.loadRM tok rfl rfl rfl rfl (by first | omega | (simp; omega)) rfl ?_
      | refine AL.loadR tok rfl rfl rfl rfl rfl rfl ?_
      | refine AL.sidxN tok rfl rfl rfl rfl rfl (by omega) ?_
      | refine AL.sidx tok rfl rfl rfl rfl rfl (by omega) (by omega) ?_
      | refine AL.range tok rfl rfl rfl rfl ?_
      | refine AW.block ?_
      | refine AW.exit ?_
      | refine AW.skip ?_
      | refine AL.callS rfl rfl rfl rfl rfl rfl (one_calls ..) rfl ?_
      | refine AL.callP rfl rfl rfl rfl rfl (one_calls ..) ?_
      | ((fail_if_success (refine AL.guard (b := true) rfl rfl ?_ ?_)); (fail_if_success (refine AL.guard (b := false) rfl rfl ?_ ?_)); refine AL.guard rfl rfl (fun hg => ?_) (fun hg => ?_) <;> ((try simp only [decide_eq_true_eq, decide_eq_false_iff_not, Bool.not_eq_true', Bool.not_eq_false', Bool.and_eq_true, Bool.or_eq_true, Bool.and_eq_false_iff, Bool.or_eq_false_iff, Bool.false_eq_true, Bool.true_eq_false, not_true_eq_false, not_false_eq_true, true_iff, iff_true, false_iff, iff_false, Int.toNat_zero, Int.toNat_natCast, Int.not_lt, Int.not_le] at hg) <;> (try first | (exfalso; omega) | exact absurd trivial hg | exact False.elim hg | exact absurd rfl hg)))
      | refine AW.condT rfl ?_
      | refine AW.condF rfl ?_
      | (refine AW.cond rfl (fun hg => ?_) (fun hg => ?_) <;> ((try simp only [decide_eq_true_eq, decide_eq_false_iff_not, Bool.not_eq_true', Bool.not_eq_false', Bool.and_eq_true, Bool.or_eq_true, Bool.and_eq_false_iff, Bool.or_eq_false_iff, Bool.false_eq_true, Bool.true_eq_false, not_true_eq_false, not_false_eq_true, true_iff, iff_true, false_iff, iff_false, Int.toNat_zero, Int.toNat_natCast, Int.not_lt, Int.not_le] at hg) <;> (try first | (exfalso; omega) | exact absurd trivial hg | exact False.elim hg | exact absurd rfl hg))))
  all_goals (try simp only [List.length_map] at *)
  · refine AW.nilD 4 rfl ?_
    refine AW.ret ?_
    refine ⟨_, _, _, _, rfl, Out.pure rfl ⟨?_, rfl⟩ rfl⟩
    simp [addS, *]
  · refine AW.nilD 4 rfl ?_
    refine AW.ret ?_
    refine ⟨_, _, _, _, rfl, Out.pure rfl ⟨?_, rfl⟩ rfl⟩
    have : 32 ≤ l.length := by omega
    simp [addS, *]
  · refine AW.orders mix ?_
    have H := fun σ (hi : Imp σ ⟨21, [(5, i64 0), (4, rowC (l ++ [c]))], [], [], 0⟩) => hK σ (AW.imp hi (by
      repeat (first
      | refine AL.do tok rfl rfl ?_
      | refine AL.nil ?_
      | refine AW.seq fun K hK => ?_
      | refine AW.region ?_
      | refine AL.no rfl rfl ?_
      | (refine hK _ ?_; clear hK)
      | (clear hK; refine hK _ ?_; clear hK)
      | (clear hK; clear hK; refine hK _ ?_; clear hK)
      | refine AL.add rfl rfl rfl rfl (by constructor <;> omega) ?_
      | refine AL.sub rfl rfl rfl rfl (by constructor <;> omega) ?_
      | refine AL.neg rfl rfl rfl (by constructor <;> omega) ?_
      | refine AL.eq tok rfl rfl rfl rfl rfl (by kernel_rfl) ?_
      | refine AL.neq tok rfl rfl rfl rfl rfl (by kernel_rfl) ?_
      | refine AL.max rfl rfl rfl rfl ?_
      | refine AL.buildSlice tok rfl rfl rfl rfl rfl rfl rfl rfl ?_
      | refine AL.min rfl rfl rfl rfl ?_
      | refine AL.idxM tok rfl rfl rfl rfl rfl rfl (fun _ => rfl) (by first | omega | decide) ?_
      | refine AL.idxMI tok rfl rfl rfl rfl rfl rfl (fun _ => rfl) (by omega) (by omega) ?_
      | refine AL.v rfl rfl (VOp.cutTo tok rfl rfl rfl (fun _ => rfl) rfl (by omega)) ?_
      | refine AL.v rfl rfl (VOp.cutFrom tok rfl rfl rfl (fun _ => rfl) rfl (by omega)) ?_
      | refine AL.v rfl rfl (VOp.cutS tok rfl rfl rfl rfl (by omega) (by omega)) ?_
      | refine AL.v rfl rfl (VOp.cutSF tok rfl rfl rfl (by omega)) ?_
      | refine AL.v rfl rfl (VOp.cutST tok rfl rfl rfl (by omega)) ?_
      | refine AL.v rfl rfl (VOp.joinS rfl rfl (by omega)) ?_
      | refine AL.idxON tok rfl rfl rfl rfl rfl rfl rfl rfl (by first | omega | (simp; omega) | (simp; done) | decide) ?_
      | refine AL.loadRM tok rfl rfl rfl rfl (by first | omega | (simp; omega)) rfl ?_
      | refine AL.loadR tok rfl rfl rfl rfl rfl rfl ?_
      | refine AL.sidxN tok rfl rfl rfl rfl rfl (by omega) ?_
      | refine AL.sidx tok rfl rfl rfl rfl rfl (by omega) (by omega) ?_
      | refine AL.range tok rfl rfl rfl rfl ?_
      | refine AW.block ?_
      | refine AW.exit ?_
      | refine AW.skip ?_)
      refine AW.ret ?_
      refine ⟨_, _, _, _, rfl, Out.pure rfl ⟨?_, rfl⟩ rfl⟩
      have : ¬ 32 ≤ l.length := by omega
      simp [addS, *]))
    clear hK
    have hcl := clone_calls l hl
    have he : l.map encC ++ [[D.one (Value.int IntKind.i64 c.tag), D.one (Value.int IntKind.i64 c.conn), D.one (Value.string c.queue), D.one (Value.int IntKind.i64 c.prefetch), D.one (Value.int IntKind.i64 c.unacked)]] = (l ++ [c]).map encC := by simp [encC]
    repeat' first
      | refine AD.step (by decide +kernel) ?_
      | exact EachO.zero
      | refine EachO.no (by decide +kernel) ?_
      | refine EachO.yes ?_ ?_
      | refine AOp.some rfl ?_
      | refine And.intro rfl ?_
      | refine AL.do tok rfl rfl ?_
      | refine AL.nil ?_
      | refine AW.seq fun K hK => ?_
      | refine AW.region ?_
      | refine AL.no rfl rfl ?_
      | (refine hK _ ?_; clear hK)
      | (clear hK; refine hK _ ?_; clear hK)
      | (clear hK; clear hK; refine hK _ ?_; clear hK)
      | refine AL.add rfl rfl rfl rfl (by constructor <;> omega) ?_
      | refine AL.sub rfl rfl rfl rfl (by constructor <;> omega) ?_
      | refine AL.neg rfl rfl rfl (by constructor <;> omega) ?_
      | refine AL.eq tok rfl rfl rfl rfl rfl (by kernel_rfl) ?_
      | refine AL.neq tok rfl rfl rfl rfl rfl (by kernel_rfl) ?_
      | refine AL.max rfl rfl rfl rfl ?_
      | refine AL.buildSlice tok rfl rfl rfl rfl rfl rfl rfl rfl ?_
      | refine AL.min rfl rfl rfl rfl ?_
      | refine AL.idxM tok rfl rfl rfl rfl rfl rfl (fun _ => rfl) (by first | omega | decide) ?_
      | refine AL.idxMI tok rfl rfl rfl rfl rfl rfl (fun _ => rfl) (by omega) (by omega) ?_
      | refine AL.v rfl rfl (VOp.cutTo tok rfl rfl rfl (fun _ => rfl) rfl (by omega)) ?_
      | refine AL.v rfl rfl (VOp.cutFrom tok rfl rfl rfl (fun _ => rfl) rfl (by omega)) ?_
      | refine AL.v rfl rfl (VOp.cutS tok rfl rfl rfl rfl (by omega) (by omega)) ?_
      | refine AL.v rfl rfl (VOp.cutSF tok rfl rfl rfl (by omega)) ?_
      | refine AL.v rfl rfl (VOp.cutST tok rfl rfl rfl (by omega)) ?_
      | refine AL.v rfl rfl (VOp.joinS rfl rfl (by omega)) ?_
      | refine AL.idxON tok rfl rfl rfl rfl rfl rfl rfl rfl (by first | omega | (simp; omega) | (simp; done) | decide) ?_
      | refine AL.loadRM tok rfl rfl rfl rfl (by first | omega | (simp; omega)) rfl ?_
      | refine AL.loadR tok rfl rfl rfl rfl rfl rfl ?_
      | refine AL.sidxN tok rfl rfl rfl rfl rfl (by omega) ?_
      | refine AL.sidx tok rfl rfl rfl rfl rfl (by omega) (by omega) ?_
      | refine AL.range tok rfl rfl rfl rfl ?_
      | refine AW.block ?_
      | refine AW.exit ?_
      | refine AW.skip ?_
      | refine AL.callS rfl rfl rfl rfl rfl rfl (hcl ..) rfl ?_
      | refine AL.callP rfl rfl rfl rfl rfl (hcl ..) ?_
      | (refine AL.callO rfl rfl rfl rfl rfl (hcl ..) (fun xs hxs => ?_); subst hxs)
      | refine AL.append tok rfl rfl rfl rfl rfl rfl rfl rfl rfl rfl rfl (by first | (intro x hx; obtain ⟨_, _, rfl⟩ := List.mem_map.1 hx; rfl) | (simp; done)) (by simp; omega) (by simp; omega) ?_
      | refine AD.done (by decide +kernel) ?_
    all_goals
      simp only [he]
      refine H _ (Imp.trans (Imp.frz 3 rfl rfl rfl) ?_)
      (refine Imp.weak id (fun _ _ _ _ h => h) (by first | assumption | (intro b hb; cases hb)) ?_ ?_ <;> (repeat' (first
      | exact trivial
      | exact Nat.lt_of_lt_of_le (Nat.lt_succ_self _) (Nat.le_of_ble_eq_true rfl)
      | exact rfl
      | exact Or.inl ⟨rfl, rfl⟩
      | exact Or.inr ⟨rfl, LF.fn _ _ ‹_›⟩
      | refine ⟨?_, ?_⟩)))

set_option maxHeartbeats 8000000 in
set_option maxRecDepth 10000 in
theorem add_calls (l : List C) (c : C) (hl : l.length ≤ 1000000) : ACallP Try.prog 16 [rowC l, aggC c] (addAV (addS l c)) := by
  refine ACalls.body tok Try.func16 rfl (by kernel_rfl) (by rw [Try.ntmps16]; simp) ?_
  simp only [Try.ntmps16, Try.results16, argT]
  refine AW.bound 0 rfl fun hm => ?_
  rw [List.length_map] at hm
  have h1 : validS c = 0 → oneS l c = if 0 ≤ findS l c.conn c.tag then 7 else 0 := fun h => by simp [oneS, h]
  have h2 : ¬ validS c = 0 → oneS l c = validS c := fun h => by simp [oneS, h]
  repeat' (first
      | refine AL.do tok rfl rfl ?_
      | refine AL.nil ?_
      | refine AW.seq fun K hK => ?_
      | refine AW.region ?_
      | refine AL.no rfl rfl ?_
      | (refine hK _ ?_; clear hK)
      | (clear hK; refine hK _ ?_; clear hK)
      | (clear hK; clear hK; refine hK _ ?_; clear hK)
      | refine AL.add rfl rfl rfl rfl (by constructor <;> omega) ?_
      | refine AL.sub rfl rfl rfl rfl (by constructor <;> omega) ?_
      | refine AL.neg rfl rfl rfl (by constructor <;> omega) ?_
      | refine AL.eq tok rfl rfl rfl rfl rfl (by kernel_rfl) ?_
      | refine AL.neq tok rfl rfl rfl rfl rfl (by kernel_rfl) ?_
      | refine AL.max rfl rfl rfl rfl ?_
      | refine AL.buildSlice tok rfl rfl rfl rfl rfl rfl rfl rfl ?_
      | refine AL.min rfl rfl rfl rfl ?_
      | refine AL.idxM tok rfl rfl rfl rfl rfl rfl (fun _ => rfl) (by first | omega | decide) ?_
      | refine AL.idxMI tok rfl rfl rfl rfl rfl rfl (fun _ => rfl) (by omega) (by omega) ?_
      | refine AL.v rfl rfl (VOp.cutTo tok rfl rfl rfl (fun _ => rfl) rfl (by omega)) ?_
      | refine AL.v rfl rfl (VOp.cutFrom tok rfl rfl rfl (fun _ => rfl) rfl (by omega)) ?_
      | refine AL.v rfl rfl (VOp.cutS tok rfl rfl rfl rfl (by omega) (by omega)) ?_
      | refine AL.v rfl rfl (VOp.cutSF tok rfl rfl rfl (by omega)) ?_
      | refine AL.v rfl rfl (VOp.cutST tok rfl rfl rfl (by omega)) ?_
      | refine AL.v rfl rfl (VOp.joinS rfl rfl (by omega)) ?_
      | refine AL.idxON tok rfl rfl rfl rfl rfl rfl rfl rfl (by first | omega | (simp; omega) | (simp; done) | decide) ?_
      | refine AL.loadRM tok rfl rfl rfl rfl (by first | omega | (simp; omega)) rfl ?_
      | refine AL.loadR tok rfl rfl rfl rfl rfl rfl ?_
      | refine AL.sidxN tok rfl rfl rfl rfl rfl (by omega) ?_
      | refine AL.sidx tok rfl rfl rfl rfl rfl (by omega) (by omega) ?_
      | refine AL.range tok rfl rfl rfl rfl ?_
      | refine AW.block ?_
      | refine AW.exit ?_
      | refine AW.skip ?_
      | refine AL.callS rfl rfl rfl rfl rfl rfl (valid_calls ..) rfl ?_
      | refine AL.callP rfl rfl rfl rfl rfl (valid_calls ..) ?_
      | refine AL.callS rfl rfl rfl rfl rfl rfl (find_calls ..) rfl ?_
      | refine AL.callP rfl rfl rfl rfl rfl (find_calls ..) ?_
      | ((fail_if_success (refine AL.guard (b := true) rfl rfl ?_ ?_)); (fail_if_success (refine AL.guard (b := false) rfl rfl ?_ ?_)); refine AL.guard rfl rfl (fun hg => ?_) (fun hg => ?_) <;> ((try simp only [decide_eq_true_eq, decide_eq_false_iff_not, Bool.not_eq_true', Bool.not_eq_false', Bool.and_eq_true, Bool.or_eq_true, Bool.and_eq_false_iff, Bool.or_eq_false_iff, Bool.false_eq_true, Bool.true_eq_false, not_true_eq_false, not_false_eq_true, true_iff, iff_true, false_iff, iff_false, Int.toNat_zero, Int.toNat_natCast, Int.not_lt, Int.not_le] at hg) <;> (try first | (exfalso; omega) | exact absurd trivial hg | exact False.elim hg | exact absurd rfl hg)))
      | refine AW.condT rfl ?_
      | refine AW.condF rfl ?_
      | (refine AW.cond rfl (fun hg => ?_) (fun hg => ?_) <;> ((try simp only [decide_eq_true_eq, decide_eq_false_iff_not, Bool.not_eq_true', Bool.not_eq_false', Bool.and_eq_true, Bool.or_eq_true, Bool.and_eq_false_iff, Bool.or_eq_false_iff, Bool.false_eq_true, Bool.true_eq_false, not_true_eq_false, not_false_eq_true, true_iff, iff_true, false_iff, iff_false, Int.toNat_zero, Int.toNat_natCast, Int.not_lt, Int.not_le] at hg) <;> (try first | (exfalso; omega) | exact absurd trivial hg | exact False.elim hg | exact absurd rfl hg))))
  all_goals (try simp only [List.length_map] at *)
  · have h2 := h2 hg
    refine AW.nilD 4 rfl ?_
    refine AW.ret ?_
    refine ⟨_, _, _, _, rfl, Out.pure rfl ⟨?_, rfl⟩ rfl⟩
    simp [addS, *]
  · refine AW.nilD 4 rfl ?_
    refine AW.ret ?_
    refine ⟨_, _, _, _, rfl, Out.pure rfl ⟨?_, rfl⟩ rfl⟩
    simp [addS, *]
  · refine AW.nilD 4 rfl ?_
    refine AW.ret ?_
    refine ⟨_, _, _, _, rfl, Out.pure rfl ⟨?_, rfl⟩ rfl⟩
    have : 32 ≤ l.length := by omega
    have : ¬ 0 ≤ findS l c.conn c.tag := by omega
    simp [addS, *]
  · refine AW.orders mix ?_
    have H := fun σ (hi : Imp σ ⟨27, [(5, i64 0), (4, rowC (l ++ [c]))], [], [], 0⟩) => hK σ (AW.imp hi (by
      repeat (first
      | refine AL.do tok rfl rfl ?_
      | refine AL.nil ?_
      | refine AW.seq fun K hK => ?_
      | refine AW.region ?_
      | refine AL.no rfl rfl ?_
      | (refine hK _ ?_; clear hK)
      | (clear hK; refine hK _ ?_; clear hK)
      | (clear hK; clear hK; refine hK _ ?_; clear hK)
      | refine AL.add rfl rfl rfl rfl (by constructor <;> omega) ?_
      | refine AL.sub rfl rfl rfl rfl (by constructor <;> omega) ?_
      | refine AL.neg rfl rfl rfl (by constructor <;> omega) ?_
      | refine AL.eq tok rfl rfl rfl rfl rfl (by kernel_rfl) ?_
      | refine AL.neq tok rfl rfl rfl rfl rfl (by kernel_rfl) ?_
      | refine AL.max rfl rfl rfl rfl ?_
      | refine AL.buildSlice tok rfl rfl rfl rfl rfl rfl rfl rfl ?_
      | refine AL.min rfl rfl rfl rfl ?_
      | refine AL.idxM tok rfl rfl rfl rfl rfl rfl (fun _ => rfl) (by first | omega | decide) ?_
      | refine AL.idxMI tok rfl rfl rfl rfl rfl rfl (fun _ => rfl) (by omega) (by omega) ?_
      | refine AL.v rfl rfl (VOp.cutTo tok rfl rfl rfl (fun _ => rfl) rfl (by omega)) ?_
      | refine AL.v rfl rfl (VOp.cutFrom tok rfl rfl rfl (fun _ => rfl) rfl (by omega)) ?_
      | refine AL.v rfl rfl (VOp.cutS tok rfl rfl rfl rfl (by omega) (by omega)) ?_
      | refine AL.v rfl rfl (VOp.cutSF tok rfl rfl rfl (by omega)) ?_
      | refine AL.v rfl rfl (VOp.cutST tok rfl rfl rfl (by omega)) ?_
      | refine AL.v rfl rfl (VOp.joinS rfl rfl (by omega)) ?_
      | refine AL.idxON tok rfl rfl rfl rfl rfl rfl rfl rfl (by first | omega | (simp; omega) | (simp; done) | decide) ?_
      | refine AL.loadRM tok rfl rfl rfl rfl (by first | omega | (simp; omega)) rfl ?_
      | refine AL.loadR tok rfl rfl rfl rfl rfl rfl ?_
      | refine AL.sidxN tok rfl rfl rfl rfl rfl (by omega) ?_
      | refine AL.sidx tok rfl rfl rfl rfl rfl (by omega) (by omega) ?_
      | refine AL.range tok rfl rfl rfl rfl ?_
      | refine AW.block ?_
      | refine AW.exit ?_
      | refine AW.skip ?_)
      refine AW.ret ?_
      refine ⟨_, _, _, _, rfl, Out.pure rfl ⟨?_, rfl⟩ rfl⟩
      have : ¬ 32 ≤ l.length := by omega
      have : ¬ 0 ≤ findS l c.conn c.tag := by omega
      simp [addS, *]))
    clear hK
    have hcl := clone_calls l hl
    have he : l.map encC ++ [[D.one (Value.int IntKind.i64 c.tag), D.one (Value.int IntKind.i64 c.conn), D.one (Value.string c.queue), D.one (Value.int IntKind.i64 c.prefetch), D.one (Value.int IntKind.i64 c.unacked)]] = (l ++ [c]).map encC := by simp [encC]
    repeat' first
      | refine AD.step (by decide +kernel) ?_
      | exact EachO.zero
      | refine EachO.no (by decide +kernel) ?_
      | refine EachO.yes ?_ ?_
      | refine AOp.some rfl ?_
      | refine And.intro rfl ?_
      | refine AL.do tok rfl rfl ?_
      | refine AL.nil ?_
      | refine AW.seq fun K hK => ?_
      | refine AW.region ?_
      | refine AL.no rfl rfl ?_
      | (refine hK _ ?_; clear hK)
      | (clear hK; refine hK _ ?_; clear hK)
      | (clear hK; clear hK; refine hK _ ?_; clear hK)
      | refine AL.add rfl rfl rfl rfl (by constructor <;> omega) ?_
      | refine AL.sub rfl rfl rfl rfl (by constructor <;> omega) ?_
      | refine AL.neg rfl rfl rfl (by constructor <;> omega) ?_
      | refine AL.eq tok rfl rfl rfl rfl rfl (by kernel_rfl) ?_
      | refine AL.neq tok rfl rfl rfl rfl rfl (by kernel_rfl) ?_
      | refine AL.max rfl rfl rfl rfl ?_
      | refine AL.buildSlice tok rfl rfl rfl rfl rfl rfl rfl rfl ?_
      | refine AL.min rfl rfl rfl rfl ?_
      | refine AL.idxM tok rfl rfl rfl rfl rfl rfl (fun _ => rfl) (by first | omega | decide) ?_
      | refine AL.idxMI tok rfl rfl rfl rfl rfl rfl (fun _ => rfl) (by omega) (by omega) ?_
      | refine AL.v rfl rfl (VOp.cutTo tok rfl rfl rfl (fun _ => rfl) rfl (by omega)) ?_
      | refine AL.v rfl rfl (VOp.cutFrom tok rfl rfl rfl (fun _ => rfl) rfl (by omega)) ?_
      | refine AL.v rfl rfl (VOp.cutS tok rfl rfl rfl rfl (by omega) (by omega)) ?_
      | refine AL.v rfl rfl (VOp.cutSF tok rfl rfl rfl (by omega)) ?_
      | refine AL.v rfl rfl (VOp.cutST tok rfl rfl rfl (by omega)) ?_
      | refine AL.v rfl rfl (VOp.joinS rfl rfl (by omega)) ?_
      | refine AL.idxON tok rfl rfl rfl rfl rfl rfl rfl rfl (by first | omega | (simp; omega) | (simp; done) | decide) ?_
      | refine AL.loadRM tok rfl rfl rfl rfl (by first | omega | (simp; omega)) rfl ?_
      | refine AL.loadR tok rfl rfl rfl rfl rfl rfl ?_
      | refine AL.sidxN tok rfl rfl rfl rfl rfl (by omega) ?_
      | refine AL.sidx tok rfl rfl rfl rfl rfl (by omega) (by omega) ?_
      | refine AL.range tok rfl rfl rfl rfl ?_
      | refine AW.block ?_
      | refine AW.exit ?_
      | refine AW.skip ?_
      | refine AL.callS rfl rfl rfl rfl rfl rfl (hcl ..) rfl ?_
      | refine AL.callP rfl rfl rfl rfl rfl (hcl ..) ?_
      | (refine AL.callO rfl rfl rfl rfl rfl (hcl ..) (fun xs hxs => ?_); subst hxs)
      | refine AL.append tok rfl rfl rfl rfl rfl rfl rfl rfl rfl rfl rfl (by first | (intro x hx; obtain ⟨_, _, rfl⟩ := List.mem_map.1 hx; rfl) | (simp; done)) (by simp; omega) (by simp; omega) ?_
      | refine AD.done (by decide +kernel) ?_
    all_goals
      simp only [he]
      refine H _ (Imp.trans (Imp.frz 3 rfl rfl rfl) ?_)
      (refine Imp.weak id (fun _ _ _ _ h => h) (by first | assumption | (intro b hb; cases hb)) ?_ ?_ <;> (repeat' (first
      | exact trivial
      | exact Nat.lt_of_lt_of_le (Nat.lt_succ_self _) (Nat.le_of_ble_eq_true rfl)
      | exact rfl
      | exact Or.inl ⟨rfl, rfl⟩
      | exact Or.inr ⟨rfl, LF.fn _ _ ‹_›⟩
      | refine ⟨?_, ?_⟩)))
end Go.Proofs.Try
