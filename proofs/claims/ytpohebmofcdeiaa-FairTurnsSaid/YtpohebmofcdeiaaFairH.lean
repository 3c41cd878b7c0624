/- fair: the examples of the chapter. -/
import Derived.Test.YtpohebmofcdeiaaFairG
set_option linter.unusedSimpArgs false
set_option linter.unusedVariables false
namespace Go.Proofs.Try
open Go Go.AM

def exL : List C := [⟨1, 0, ⟨#[113]⟩, 0, 0⟩, ⟨2, 0, ⟨#[112]⟩, 0, 0⟩, ⟨3, 0, ⟨#[113]⟩, 0, 0⟩]
def exM : List C := [⟨1, 0, ⟨#[113]⟩, 0, 0⟩, ⟨2, 0, ⟨#[112]⟩, 0, 0⟩, ⟨3, 0, ⟨#[113]⟩, 1, 1⟩]
def exN : List C := [⟨1, 0, ⟨#[113]⟩, 0, 0⟩, ⟨2, 0, ⟨#[112]⟩, 0, 0⟩, ⟨3, 0, ⟨#[113]⟩, 1, 0⟩]

theorem ex_next (l : List C) (q : ByteArray) (last : Int) (r : Int) (h : nextI l q last = r) : ACallP Try.prog 13 [rowC l, st q, i64 last] (nextAV r) := h ▸ next_calls l q last

set_option maxHeartbeats 8000000 in
set_option maxRecDepth 10000 in
theorem example_calls : ACallP Try.prog 8 [] (bo true) := by
  have n1 : ACallP Try.prog 13 [rowC exL, st ⟨#[113]⟩, i64 1] (.tup [i64 2, bo true]) := ex_next _ _ _ 2 (by decide)
  have n2 : ACallP Try.prog 13 [rowC exL, st ⟨#[113]⟩, i64 2] (.tup [i64 2, bo true]) := ex_next _ _ _ 2 (by decide)
  have n3 : ACallP Try.prog 13 [rowC exL, st ⟨#[113]⟩, i64 3] (.tup [i64 0, bo true]) := ex_next _ _ _ 0 (by decide)
  have n4 : ACallP Try.prog 13 [rowC exL, st ⟨#[113]⟩, i64 9] (.tup [i64 0, bo true]) := ex_next _ _ _ 0 (by decide)
  have n5 : ACallP Try.prog 13 [rowC exM, st ⟨#[113]⟩, i64 1] (.tup [i64 0, bo true]) := ex_next _ _ _ 0 (by decide)
  have n6 : ACallP Try.prog 13 [rowC exM, st ⟨#[114]⟩, i64 1] (.tup [i64 0, bo false]) := ex_next _ _ _ (-1) (by decide)
  have a7 : ACallP Try.prog 16 [rowC exM, aggC ⟨3, 0, ⟨#[122]⟩, 0, 0⟩] (.tup [rowC [], i64 7]) := by
    have h := add_calls exM ⟨3, 0, ⟨#[122]⟩, 0, 0⟩ (by decide)
    rwa [show addS exM ⟨3, 0, ⟨#[122]⟩, 0, 0⟩ = ([], 7) by decide] at h
  have c8 : ACallP Try.prog 20 [rowC exM, i64 0, i64 3, i64 (-5)] (rowC exN) := (show countS exM 0 3 (-5) = exN by decide) ▸ count26_calls exM 0 3 (-5) (by decide) (by unfold OkU; decide)
  have r9 : ACallP Try.prog 9 [aggC ⟨3, 0, ⟨#[113]⟩, 1, 1⟩] (bo false) := ready_calls _
  have k10 : ACallP Try.prog 11 [rowC exM] (i64 0) := (show checkS exM = 0 by decide) ▸ check_calls exM
  refine ACalls.body tok Try.func8 rfl (by kernel_rfl) (by rw [Try.ntmps8]; simp) ?_
  simp only [Try.ntmps8, Try.results8, argT]
  repeat (first
      | refine AL.do tok rfl rfl ?_
      | refine AL.nil ?_
      | refine AW.seq fun K hK => ?_
      | refine AW.region ?_
      | refine AL.no rfl rfl ?_
      | (refine hK _ ?_; clear hK)
      | (clear hK; refine hK _ ?_; clear hK)
      | (clear hK; clear hK; refine hK _ ?_; clear hK)
      | refine AL.add rfl rfl rfl rfl (by constructor <;> omega) ?_
      | refine AL.sub rfl rfl rfl rfl (by constructor <;> omega) ?_
      | refine AL.neg rfl rfl rfl (by constructor <;> omega) ?_
      | refine AL.eq tok rfl rfl rfl rfl rfl (by kernel_rfl) ?_
      | refine AL.neq tok rfl rfl rfl rfl rfl (by kernel_rfl) ?_
      | refine AL.max rfl rfl rfl rfl ?_
      | refine AL.buildSlice tok rfl rfl rfl rfl rfl rfl rfl rfl ?_
      | refine AL.min rfl rfl rfl rfl ?_
      | refine AL.idxM tok rfl rfl rfl rfl rfl rfl (fun _ => rfl) (by first | omega | decide) ?_
      | refine AL.idxMI tok rfl rfl rfl rfl rfl rfl (fun _ => rfl) (by omega) (by omega) ?_
      | refine AL.v rfl rfl (VOp.cutTo tok rfl rfl rfl (fun _ => rfl) rfl (by omega)) ?_
      | refine AL.v rfl rfl (VOp.cutFrom tok rfl rfl rfl (fun _ => rfl) rfl (by omega)) ?_
      | refine AL.v rfl rfl (VOp.cutS tok rfl rfl rfl rfl (by omega) (by omega)) ?_
      | refine AL.v rfl rfl (VOp.cutSF tok rfl rfl rfl (by omega)) ?_
      | refine AL.v rfl rfl (VOp.cutST tok rfl rfl rfl (by omega)) ?_
      | refine AL.v rfl rfl (VOp.joinS rfl rfl (by omega)) ?_
      | refine AL.idxON tok rfl rfl rfl rfl rfl rfl rfl rfl (by first | omega | (simp; omega) | (simp; done) | decide) ?_
      | refine AL.loadRM tok rfl rfl rfl rfl (by first | omega | (simp; omega)) rfl ?_
      | refine AL.loadR tok rfl rfl rfl rfl rfl rfl ?_
      | refine AL.sidxN tok rfl rfl rfl rfl rfl (by omega) ?_
      | refine AL.sidx tok rfl rfl rfl rfl rfl (by omega) (by omega) ?_
      | refine AL.range tok rfl rfl rfl rfl ?_
      | refine AW.block ?_
      | refine AW.exit ?_
      | refine AW.skip ?_)
  refine AW.loop (ι := Nat) (fun i => ⟨104, [(21, i64 i), (20, i64 4), (19, .own (.loc 2)), (2, .own (.loc 1)), (1, .own (.loc 0)), (0, bo false)], [(0, some (.row 25 5 (exL.map encC))), (1, some (.row 3 1 [[.one (.int .i64 2)], [.one (.int .i64 2)], [.one (.int .i64 0)], [.one (.int .i64 0)]])), (2, some (.row 3 1 [[.one (.int .i64 1)], [.one (.int .i64 2)], [.one (.int .i64 3)], [.one (.int .i64 9)]]))], [], 3⟩)
    (fun i => i ≤ 4) (fun i => 4 - i) 0 (Nat.zero_le _) ?_ ?_
  · (refine Imp.weak id (fun _ _ _ _ h => h) (by first | assumption | (intro b hb; cases hb)) ?_ ?_ <;> (repeat' (first
      | exact trivial
      | exact Nat.lt_of_lt_of_le (Nat.lt_succ_self _) (Nat.le_of_ble_eq_true rfl)
      | exact rfl
      | exact Or.inl ⟨rfl, rfl⟩
      | exact Or.inr ⟨rfl, LF.fn _ _ ‹_›⟩
      | refine ⟨?_, ?_⟩)))
  rintro i hi K1 hK1
  rcases (by omega : i = 0 ∨ i = 1 ∨ i = 2 ∨ i = 3 ∨ i = 4) with rfl | rfl | rfl | rfl | rfl
  · repeat' (first
      | refine AL.do tok rfl rfl ?_
      | refine AL.nil ?_
      | refine AW.seq fun K hK => ?_
      | refine AW.region ?_
      | refine AL.no rfl rfl ?_
      | (refine hK _ ?_; clear hK)
      | (clear hK; refine hK _ ?_; clear hK)
      | (clear hK; clear hK; refine hK _ ?_; clear hK)
      | refine AL.add rfl rfl rfl rfl (by constructor <;> omega) ?_
      | refine AL.sub rfl rfl rfl rfl (by constructor <;> omega) ?_
      | refine AL.neg rfl rfl rfl (by constructor <;> omega) ?_
      | refine AL.eq tok rfl rfl rfl rfl rfl (by kernel_rfl) ?_
      | refine AL.neq tok rfl rfl rfl rfl rfl (by kernel_rfl) ?_
      | refine AL.max rfl rfl rfl rfl ?_
      | refine AL.buildSlice tok rfl rfl rfl rfl rfl rfl rfl rfl ?_
      | refine AL.min rfl rfl rfl rfl ?_
      | refine AL.idxM tok rfl rfl rfl rfl rfl rfl (fun _ => rfl) (by first | omega | decide) ?_
      | refine AL.idxMI tok rfl rfl rfl rfl rfl rfl (fun _ => rfl) (by omega) (by omega) ?_
      | refine AL.v rfl rfl (VOp.cutTo tok rfl rfl rfl (fun _ => rfl) rfl (by omega)) ?_
      | refine AL.v rfl rfl (VOp.cutFrom tok rfl rfl rfl (fun _ => rfl) rfl (by omega)) ?_
      | refine AL.v rfl rfl (VOp.cutS tok rfl rfl rfl rfl (by omega) (by omega)) ?_
      | refine AL.v rfl rfl (VOp.cutSF tok rfl rfl rfl (by omega)) ?_
      | refine AL.v rfl rfl (VOp.cutST tok rfl rfl rfl (by omega)) ?_
      | refine AL.v rfl rfl (VOp.joinS rfl rfl (by omega)) ?_
      | refine AL.idxON tok rfl rfl rfl rfl rfl rfl rfl rfl (by first | omega | (simp; omega) | (simp; done) | decide) ?_
      | refine AL.loadRM tok rfl rfl rfl rfl (by first | omega | (simp; omega)) rfl ?_
      | refine AL.loadR tok rfl rfl rfl rfl rfl rfl ?_
      | refine AL.sidxN tok rfl rfl rfl rfl rfl (by omega) ?_
      | refine AL.sidx tok rfl rfl rfl rfl rfl (by omega) (by omega) ?_
      | refine AL.range tok rfl rfl rfl rfl ?_
      | refine AW.block ?_
      | refine AW.exit ?_
      | refine AW.skip ?_
      | refine AL.callS rfl rfl rfl rfl rfl rfl (n1 ..) rfl ?_
      | refine AL.callP rfl rfl rfl rfl rfl (n1 ..) ?_
      | ((fail_if_success (refine AL.guard (b := true) rfl rfl ?_ ?_)); (fail_if_success (refine AL.guard (b := false) rfl rfl ?_ ?_)); refine AL.guard rfl rfl (fun hg => ?_) (fun hg => ?_) <;> ((try simp only [decide_eq_true_eq, decide_eq_false_iff_not, Bool.not_eq_true', Bool.not_eq_false', Bool.and_eq_true, Bool.or_eq_true, Bool.and_eq_false_iff, Bool.or_eq_false_iff, Bool.false_eq_true, Bool.true_eq_false, not_true_eq_false, not_false_eq_true, true_iff, iff_true, false_iff, iff_false, Int.toNat_zero, Int.toNat_natCast, Int.not_lt, Int.not_le] at hg) <;> (try first | (exfalso; omega) | exact absurd trivial hg | exact False.elim hg | exact absurd rfl hg)))
      | refine AW.condT rfl ?_
      | refine AW.condF rfl ?_
      | (refine AW.cond rfl (fun hg => ?_) (fun hg => ?_) <;> ((try simp only [decide_eq_true_eq, decide_eq_false_iff_not, Bool.not_eq_true', Bool.not_eq_false', Bool.and_eq_true, Bool.or_eq_true, Bool.and_eq_false_iff, Bool.or_eq_false_iff, Bool.false_eq_true, Bool.true_eq_false, not_true_eq_false, not_false_eq_true, true_iff, iff_true, false_iff, iff_false, Int.toNat_zero, Int.toNat_natCast, Int.not_lt, Int.not_le] at hg) <;> (try first | (exfalso; omega) | exact absurd trivial hg | exact False.elim hg | exact absurd rfl hg))))
    refine hK1 _ 1 (by omega) (by omega) ?_
    (refine Imp.weak id (fun _ _ _ _ h => h) (by first | assumption | (intro b hb; cases hb)) ?_ ?_ <;> (repeat' (first
      | exact trivial
      | exact Nat.lt_of_lt_of_le (Nat.lt_succ_self _) (Nat.le_of_ble_eq_true rfl)
      | exact rfl
      | exact Or.inl ⟨rfl, rfl⟩
      | exact Or.inr ⟨rfl, LF.fn _ _ ‹_›⟩
      | refine ⟨?_, ?_⟩)))
  · repeat' (first
      | refine AL.do tok rfl rfl ?_
      | refine AL.nil ?_
      | refine AW.seq fun K hK => ?_
      | refine AW.region ?_
      | refine AL.no rfl rfl ?_
      | (refine hK _ ?_; clear hK)
      | (clear hK; refine hK _ ?_; clear hK)
      | (clear hK; clear hK; refine hK _ ?_; clear hK)
      | refine AL.add rfl rfl rfl rfl (by constructor <;> omega) ?_
      | refine AL.sub rfl rfl rfl rfl (by constructor <;> omega) ?_
      | refine AL.neg rfl rfl rfl (by constructor <;> omega) ?_
      | refine AL.eq tok rfl rfl rfl rfl rfl (by kernel_rfl) ?_
      | refine AL.neq tok rfl rfl rfl rfl rfl (by kernel_rfl) ?_
      | refine AL.max rfl rfl rfl rfl ?_
      | refine AL.buildSlice tok rfl rfl rfl rfl rfl rfl rfl rfl ?_
      | refine AL.min rfl rfl rfl rfl ?_
      | refine AL.idxM tok rfl rfl rfl rfl rfl rfl (fun _ => rfl) (by first | omega | decide) ?_
      | refine AL.idxMI tok rfl rfl rfl rfl rfl rfl (fun _ => rfl) (by omega) (by omega) ?_
      | refine AL.v rfl rfl (VOp.cutTo tok rfl rfl rfl (fun _ => rfl) rfl (by omega)) ?_
      | refine AL.v rfl rfl (VOp.cutFrom tok rfl rfl rfl (fun _ => rfl) rfl (by omega)) ?_
      | refine AL.v rfl rfl (VOp.cutS tok rfl rfl rfl rfl (by omega) (by omega)) ?_
      | refine AL.v rfl rfl (VOp.cutSF tok rfl rfl rfl (by omega)) ?_
      | refine AL.v rfl rfl (VOp.cutST tok rfl rfl rfl (by omega)) ?_
      | refine AL.v rfl rfl (VOp.joinS rfl rfl (by omega)) ?_
      | refine AL.idxON tok rfl rfl rfl rfl rfl rfl rfl rfl (by first | omega | (simp; omega) | (simp; done) | decide) ?_
      | refine AL.loadRM tok rfl rfl rfl rfl (by first | omega | (simp; omega)) rfl ?_
      | refine AL.loadR tok rfl rfl rfl rfl rfl rfl ?_
      | refine AL.sidxN tok rfl rfl rfl rfl rfl (by omega) ?_
      | refine AL.sidx tok rfl rfl rfl rfl rfl (by omega) (by omega) ?_
      | refine AL.range tok rfl rfl rfl rfl ?_
      | refine AW.block ?_
      | refine AW.exit ?_
      | refine AW.skip ?_
      | refine AL.callS rfl rfl rfl rfl rfl rfl (n2 ..) rfl ?_
      | refine AL.callP rfl rfl rfl rfl rfl (n2 ..) ?_
      | ((fail_if_success (refine AL.guard (b := true) rfl rfl ?_ ?_)); (fail_if_success (refine AL.guard (b := false) rfl rfl ?_ ?_)); refine AL.guard rfl rfl (fun hg => ?_) (fun hg => ?_) <;> ((try simp only [decide_eq_true_eq, decide_eq_false_iff_not, Bool.not_eq_true', Bool.not_eq_false', Bool.and_eq_true, Bool.or_eq_true, Bool.and_eq_false_iff, Bool.or_eq_false_iff, Bool.false_eq_true, Bool.true_eq_false, not_true_eq_false, not_false_eq_true, true_iff, iff_true, false_iff, iff_false, Int.toNat_zero, Int.toNat_natCast, Int.not_lt, Int.not_le] at hg) <;> (try first | (exfalso; omega) | exact absurd trivial hg | exact False.elim hg | exact absurd rfl hg)))
      | refine AW.condT rfl ?_
      | refine AW.condF rfl ?_
      | (refine AW.cond rfl (fun hg => ?_) (fun hg => ?_) <;> ((try simp only [decide_eq_true_eq, decide_eq_false_iff_not, Bool.not_eq_true', Bool.not_eq_false', Bool.and_eq_true, Bool.or_eq_true, Bool.and_eq_false_iff, Bool.or_eq_false_iff, Bool.false_eq_true, Bool.true_eq_false, not_true_eq_false, not_false_eq_true, true_iff, iff_true, false_iff, iff_false, Int.toNat_zero, Int.toNat_natCast, Int.not_lt, Int.not_le] at hg) <;> (try first | (exfalso; omega) | exact absurd trivial hg | exact False.elim hg | exact absurd rfl hg))))
    refine hK1 _ 2 (by omega) (by omega) ?_
    (refine Imp.weak id (fun _ _ _ _ h => h) (by first | assumption | (intro b hb; cases hb)) ?_ ?_ <;> (repeat' (first
      | exact trivial
      | exact Nat.lt_of_lt_of_le (Nat.lt_succ_self _) (Nat.le_of_ble_eq_true rfl)
      | exact rfl
      | exact Or.inl ⟨rfl, rfl⟩
      | exact Or.inr ⟨rfl, LF.fn _ _ ‹_›⟩
      | refine ⟨?_, ?_⟩)))
  · repeat' (first
      | refine AL.do tok rfl rfl ?_
      | refine AL.nil ?_
      | refine AW.seq fun K hK => ?_
      | refine AW.region ?_
      | refine AL.no rfl rfl ?_
      | (refine hK _ ?_; clear hK)
      | (clear hK; refine hK _ ?_; clear hK)
      | (clear hK; clear hK; refine hK _ ?_; clear hK)
      | refine AL.add rfl rfl rfl rfl (by constructor <;> omega) ?_
      | refine AL.sub rfl rfl rfl rfl (by constructor <;> omega) ?_
      | refine AL.neg rfl rfl rfl (by constructor <;> omega) ?_
      | refine AL.eq tok rfl rfl rfl rfl rfl (by kernel_rfl) ?_
      | refine AL.neq tok rfl rfl rfl rfl rfl (by kernel_rfl) ?_
      | refine AL.max rfl rfl rfl rfl ?_
      | refine AL.buildSlice tok rfl rfl rfl rfl rfl rfl rfl rfl ?_
      | refine AL.min rfl rfl rfl rfl ?_
      | refine AL.idxM tok rfl rfl rfl rfl rfl rfl (fun _ => rfl) (by first | omega | decide) ?_
      | refine AL.idxMI tok rfl rfl rfl rfl rfl rfl (fun _ => rfl) (by omega) (by omega) ?_
      | refine AL.v rfl rfl (VOp.cutTo tok rfl rfl rfl (fun _ => rfl) rfl (by omega)) ?_
      | refine AL.v rfl rfl (VOp.cutFrom tok rfl rfl rfl (fun _ => rfl) rfl (by omega)) ?_
      | refine AL.v rfl rfl (VOp.cutS tok rfl rfl rfl rfl (by omega) (by omega)) ?_
      | refine AL.v rfl rfl (VOp.cutSF tok rfl rfl rfl (by omega)) ?_
      | refine AL.v rfl rfl (VOp.cutST tok rfl rfl rfl (by omega)) ?_
      | refine AL.v rfl rfl (VOp.joinS rfl rfl (by omega)) ?_
      | refine AL.idxON tok rfl rfl rfl rfl rfl rfl rfl rfl (by first | omega | (simp; omega) | (simp; done) | decide) ?_
      | refine AL.loadRM tok rfl rfl rfl rfl (by first | omega | (simp; omega)) rfl ?_
      | refine AL.loadR tok rfl rfl rfl rfl rfl rfl ?_
      | refine AL.sidxN tok rfl rfl rfl rfl rfl (by omega) ?_
      | refine AL.sidx tok rfl rfl rfl rfl rfl (by omega) (by omega) ?_
      | refine AL.range tok rfl rfl rfl rfl ?_
      | refine AW.block ?_
      | refine AW.exit ?_
      | refine AW.skip ?_
      | refine AL.callS rfl rfl rfl rfl rfl rfl (n3 ..) rfl ?_
      | refine AL.callP rfl rfl rfl rfl rfl (n3 ..) ?_
      | ((fail_if_success (refine AL.guard (b := true) rfl rfl ?_ ?_)); (fail_if_success (refine AL.guard (b := false) rfl rfl ?_ ?_)); refine AL.guard rfl rfl (fun hg => ?_) (fun hg => ?_) <;> ((try simp only [decide_eq_true_eq, decide_eq_false_iff_not, Bool.not_eq_true', Bool.not_eq_false', Bool.and_eq_true, Bool.or_eq_true, Bool.and_eq_false_iff, Bool.or_eq_false_iff, Bool.false_eq_true, Bool.true_eq_false, not_true_eq_false, not_false_eq_true, true_iff, iff_true, false_iff, iff_false, Int.toNat_zero, Int.toNat_natCast, Int.not_lt, Int.not_le] at hg) <;> (try first | (exfalso; omega) | exact absurd trivial hg | exact False.elim hg | exact absurd rfl hg)))
      | refine AW.condT rfl ?_
      | refine AW.condF rfl ?_
      | (refine AW.cond rfl (fun hg => ?_) (fun hg => ?_) <;> ((try simp only [decide_eq_true_eq, decide_eq_false_iff_not, Bool.not_eq_true', Bool.not_eq_false', Bool.and_eq_true, Bool.or_eq_true, Bool.and_eq_false_iff, Bool.or_eq_false_iff, Bool.false_eq_true, Bool.true_eq_false, not_true_eq_false, not_false_eq_true, true_iff, iff_true, false_iff, iff_false, Int.toNat_zero, Int.toNat_natCast, Int.not_lt, Int.not_le] at hg) <;> (try first | (exfalso; omega) | exact absurd trivial hg | exact False.elim hg | exact absurd rfl hg))))
    refine hK1 _ 3 (by omega) (by omega) ?_
    (refine Imp.weak id (fun _ _ _ _ h => h) (by first | assumption | (intro b hb; cases hb)) ?_ ?_ <;> (repeat' (first
      | exact trivial
      | exact Nat.lt_of_lt_of_le (Nat.lt_succ_self _) (Nat.le_of_ble_eq_true rfl)
      | exact rfl
      | exact Or.inl ⟨rfl, rfl⟩
      | exact Or.inr ⟨rfl, LF.fn _ _ ‹_›⟩
      | refine ⟨?_, ?_⟩)))
  · repeat' (first
      | refine AL.do tok rfl rfl ?_
      | refine AL.nil ?_
      | refine AW.seq fun K hK => ?_
      | refine AW.region ?_
      | refine AL.no rfl rfl ?_
      | (refine hK _ ?_; clear hK)
      | (clear hK; refine hK _ ?_; clear hK)
      | (clear hK; clear hK; refine hK _ ?_; clear hK)
      | refine AL.add rfl rfl rfl rfl (by constructor <;> omega) ?_
      | refine AL.sub rfl rfl rfl rfl (by constructor <;> omega) ?_
      | refine AL.neg rfl rfl rfl (by constructor <;> omega) ?_
      | refine AL.eq tok rfl rfl rfl rfl rfl (by kernel_rfl) ?_
      | refine AL.neq tok rfl rfl rfl rfl rfl (by kernel_rfl) ?_
      | refine AL.max rfl rfl rfl rfl ?_
      | refine AL.buildSlice tok rfl rfl rfl rfl rfl rfl rfl rfl ?_
      | refine AL.min rfl rfl rfl rfl ?_
      | refine AL.idxM tok rfl rfl rfl rfl rfl rfl (fun _ => rfl) (by first | omega | decide) ?_
      | refine AL.idxMI tok rfl rfl rfl rfl rfl rfl (fun _ => rfl) (by omega) (by omega) ?_
      | refine AL.v rfl rfl (VOp.cutTo tok rfl rfl rfl (fun _ => rfl) rfl (by omega)) ?_
      | refine AL.v rfl rfl (VOp.cutFrom tok rfl rfl rfl (fun _ => rfl) rfl (by omega)) ?_
      | refine AL.v rfl rfl (VOp.cutS tok rfl rfl rfl rfl (by omega) (by omega)) ?_
      | refine AL.v rfl rfl (VOp.cutSF tok rfl rfl rfl (by omega)) ?_
      | refine AL.v rfl rfl (VOp.cutST tok rfl rfl rfl (by omega)) ?_
      | refine AL.v rfl rfl (VOp.joinS rfl rfl (by omega)) ?_
      | refine AL.idxON tok rfl rfl rfl rfl rfl rfl rfl rfl (by first | omega | (simp; omega) | (simp; done) | decide) ?_
      | refine AL.loadRM tok rfl rfl rfl rfl (by first | omega | (simp; omega)) rfl ?_
      | refine AL.loadR tok rfl rfl rfl rfl rfl rfl ?_
      | refine AL.sidxN tok rfl rfl rfl rfl rfl (by omega) ?_
      | refine AL.sidx tok rfl rfl rfl rfl rfl (by omega) (by omega) ?_
      | refine AL.range tok rfl rfl rfl rfl ?_
      | refine AW.block ?_
      | refine AW.exit ?_
      | refine AW.skip ?_
      | refine AL.callS rfl rfl rfl rfl rfl rfl (n4 ..) rfl ?_
      | refine AL.callP rfl rfl rfl rfl rfl (n4 ..) ?_
      | ((fail_if_success (refine AL.guard (b := true) rfl rfl ?_ ?_)); (fail_if_success (refine AL.guard (b := false) rfl rfl ?_ ?_)); refine AL.guard rfl rfl (fun hg => ?_) (fun hg => ?_) <;> ((try simp only [decide_eq_true_eq, decide_eq_false_iff_not, Bool.not_eq_true', Bool.not_eq_false', Bool.and_eq_true, Bool.or_eq_true, Bool.and_eq_false_iff, Bool.or_eq_false_iff, Bool.false_eq_true, Bool.true_eq_false, not_true_eq_false, not_false_eq_true, true_iff, iff_true, false_iff, iff_false, Int.toNat_zero, Int.toNat_natCast, Int.not_lt, Int.not_le] at hg) <;> (try first | (exfalso; omega) | exact absurd trivial hg | exact False.elim hg | exact absurd rfl hg)))
      | refine AW.condT rfl ?_
      | refine AW.condF rfl ?_
      | (refine AW.cond rfl (fun hg => ?_) (fun hg => ?_) <;> ((try simp only [decide_eq_true_eq, decide_eq_false_iff_not, Bool.not_eq_true', Bool.not_eq_false', Bool.and_eq_true, Bool.or_eq_true, Bool.and_eq_false_iff, Bool.or_eq_false_iff, Bool.false_eq_true, Bool.true_eq_false, not_true_eq_false, not_false_eq_true, true_iff, iff_true, false_iff, iff_false, Int.toNat_zero, Int.toNat_natCast, Int.not_lt, Int.not_le] at hg) <;> (try first | (exfalso; omega) | exact absurd trivial hg | exact False.elim hg | exact absurd rfl hg))))
    refine hK1 _ 4 (by omega) (by omega) ?_
    (refine Imp.weak id (fun _ _ _ _ h => h) (by first | assumption | (intro b hb; cases hb)) ?_ ?_ <;> (repeat' (first
      | exact trivial
      | exact Nat.lt_of_lt_of_le (Nat.lt_succ_self _) (Nat.le_of_ble_eq_true rfl)
      | exact rfl
      | exact Or.inl ⟨rfl, rfl⟩
      | exact Or.inr ⟨rfl, LF.fn _ _ ‹_›⟩
      | refine ⟨?_, ?_⟩)))
  · repeat' (first
      | refine AL.do tok rfl rfl ?_
      | refine AL.nil ?_
      | refine AW.seq fun K hK => ?_
      | refine AW.region ?_
      | refine AL.no rfl rfl ?_
      | (refine hK _ ?_; clear hK)
      | (clear hK; refine hK _ ?_; clear hK)
      | (clear hK; clear hK; refine hK _ ?_; clear hK)
      | refine AL.add rfl rfl rfl rfl (by constructor <;> omega) ?_
      | refine AL.sub rfl rfl rfl rfl (by constructor <;> omega) ?_
      | refine AL.neg rfl rfl rfl (by constructor <;> omega) ?_
      | refine AL.eq tok rfl rfl rfl rfl rfl (by kernel_rfl) ?_
      | refine AL.neq tok rfl rfl rfl rfl rfl (by kernel_rfl) ?_
      | refine AL.max rfl rfl rfl rfl ?_
      | refine AL.buildSlice tok rfl rfl rfl rfl rfl rfl rfl rfl ?_
      | refine AL.min rfl rfl rfl rfl ?_
      | refine AL.idxM tok rfl rfl rfl rfl rfl rfl (fun _ => rfl) (by first | omega | decide) ?_
      | refine AL.idxMI tok rfl rfl rfl rfl rfl rfl (fun _ => rfl) (by omega) (by omega) ?_
      | refine AL.v rfl rfl (VOp.cutTo tok rfl rfl rfl (fun _ => rfl) rfl (by omega)) ?_
      | refine AL.v rfl rfl (VOp.cutFrom tok rfl rfl rfl (fun _ => rfl) rfl (by omega)) ?_
      | refine AL.v rfl rfl (VOp.cutS tok rfl rfl rfl rfl (by omega) (by omega)) ?_
      | refine AL.v rfl rfl (VOp.cutSF tok rfl rfl rfl (by omega)) ?_
      | refine AL.v rfl rfl (VOp.cutST tok rfl rfl rfl (by omega)) ?_
      | refine AL.v rfl rfl (VOp.joinS rfl rfl (by omega)) ?_
      | refine AL.idxON tok rfl rfl rfl rfl rfl rfl rfl rfl (by first | omega | (simp; omega) | (simp; done) | decide) ?_
      | refine AL.loadRM tok rfl rfl rfl rfl (by first | omega | (simp; omega)) rfl ?_
      | refine AL.loadR tok rfl rfl rfl rfl rfl rfl ?_
      | refine AL.sidxN tok rfl rfl rfl rfl rfl (by omega) ?_
      | refine AL.sidx tok rfl rfl rfl rfl rfl (by omega) (by omega) ?_
      | refine AL.range tok rfl rfl rfl rfl ?_
      | refine AW.block ?_
      | refine AW.exit ?_
      | refine AW.skip ?_
      | ((fail_if_success (refine AL.guard (b := true) rfl rfl ?_ ?_)); (fail_if_success (refine AL.guard (b := false) rfl rfl ?_ ?_)); refine AL.guard rfl rfl (fun hg => ?_) (fun hg => ?_) <;> ((try simp only [decide_eq_true_eq, decide_eq_false_iff_not, Bool.not_eq_true', Bool.not_eq_false', Bool.and_eq_true, Bool.or_eq_true, Bool.and_eq_false_iff, Bool.or_eq_false_iff, Bool.false_eq_true, Bool.true_eq_false, not_true_eq_false, not_false_eq_true, true_iff, iff_true, false_iff, iff_false, Int.toNat_zero, Int.toNat_natCast, Int.not_lt, Int.not_le] at hg) <;> (try first | (exfalso; omega) | exact absurd trivial hg | exact False.elim hg | exact absurd rfl hg)))
      | refine AW.condT rfl ?_
      | refine AW.condF rfl ?_
      | (refine AW.cond rfl (fun hg => ?_) (fun hg => ?_) <;> ((try simp only [decide_eq_true_eq, decide_eq_false_iff_not, Bool.not_eq_true', Bool.not_eq_false', Bool.and_eq_true, Bool.or_eq_true, Bool.and_eq_false_iff, Bool.or_eq_false_iff, Bool.false_eq_true, Bool.true_eq_false, not_true_eq_false, not_false_eq_true, true_iff, iff_true, false_iff, iff_false, Int.toNat_zero, Int.toNat_natCast, Int.not_lt, Int.not_le] at hg) <;> (try first | (exfalso; omega) | exact absurd trivial hg | exact False.elim hg | exact absurd rfl hg))))
    refine AL.storeRM tok ((⟨3, 0, ⟨#[113]⟩, 1, 0⟩ : C)) rfl rfl rfl (by first | omega | (simp; omega) | decide) rfl rfl rfl rfl (Nat.le_of_ble_eq_true rfl) rfl ?_
    repeat' (first
      | refine AL.do tok rfl rfl ?_
      | refine AL.nil ?_
      | refine AW.seq fun K hK => ?_
      | refine AW.region ?_
      | refine AL.no rfl rfl ?_
      | (refine hK _ ?_; clear hK)
      | (clear hK; refine hK _ ?_; clear hK)
      | (clear hK; clear hK; refine hK _ ?_; clear hK)
      | refine AL.add rfl rfl rfl rfl (by constructor <;> omega) ?_
      | refine AL.sub rfl rfl rfl rfl (by constructor <;> omega) ?_
      | refine AL.neg rfl rfl rfl (by constructor <;> omega) ?_
      | refine AL.eq tok rfl rfl rfl rfl rfl (by kernel_rfl) ?_
      | refine AL.neq tok rfl rfl rfl rfl rfl (by kernel_rfl) ?_
      | refine AL.max rfl rfl rfl rfl ?_
      | refine AL.buildSlice tok rfl rfl rfl rfl rfl rfl rfl rfl ?_
      | refine AL.min rfl rfl rfl rfl ?_
      | refine AL.idxM tok rfl rfl rfl rfl rfl rfl (fun _ => rfl) (by first | omega | decide) ?_
      | refine AL.idxMI tok rfl rfl rfl rfl rfl rfl (fun _ => rfl) (by omega) (by omega) ?_
      | refine AL.v rfl rfl (VOp.cutTo tok rfl rfl rfl (fun _ => rfl) rfl (by omega)) ?_
      | refine AL.v rfl rfl (VOp.cutFrom tok rfl rfl rfl (fun _ => rfl) rfl (by omega)) ?_
      | refine AL.v rfl rfl (VOp.cutS tok rfl rfl rfl rfl (by omega) (by omega)) ?_
      | refine AL.v rfl rfl (VOp.cutSF tok rfl rfl rfl (by omega)) ?_
      | refine AL.v rfl rfl (VOp.cutST tok rfl rfl rfl (by omega)) ?_
      | refine AL.v rfl rfl (VOp.joinS rfl rfl (by omega)) ?_
      | refine AL.idxON tok rfl rfl rfl rfl rfl rfl rfl rfl (by first | omega | (simp; omega) | (simp; done) | decide) ?_
      | refine AL.loadRM tok rfl rfl rfl rfl (by first | omega | (simp; omega)) rfl ?_
      | refine AL.loadR tok rfl rfl rfl rfl rfl rfl ?_
      | refine AL.sidxN tok rfl rfl rfl rfl rfl (by omega) ?_
      | refine AL.sidx tok rfl rfl rfl rfl rfl (by omega) (by omega) ?_
      | refine AL.range tok rfl rfl rfl rfl ?_
      | refine AW.block ?_
      | refine AW.exit ?_
      | refine AW.skip ?_
      | ((fail_if_success (refine AL.guard (b := true) rfl rfl ?_ ?_)); (fail_if_success (refine AL.guard (b := false) rfl rfl ?_ ?_)); refine AL.guard rfl rfl (fun hg => ?_) (fun hg => ?_) <;> ((try simp only [decide_eq_true_eq, decide_eq_false_iff_not, Bool.not_eq_true', Bool.not_eq_false', Bool.and_eq_true, Bool.or_eq_true, Bool.and_eq_false_iff, Bool.or_eq_false_iff, Bool.false_eq_true, Bool.true_eq_false, not_true_eq_false, not_false_eq_true, true_iff, iff_true, false_iff, iff_false, Int.toNat_zero, Int.toNat_natCast, Int.not_lt, Int.not_le] at hg) <;> (try first | (exfalso; omega) | exact absurd trivial hg | exact False.elim hg | exact absurd rfl hg)))
      | refine AW.condT rfl ?_
      | refine AW.condF rfl ?_
      | (refine AW.cond rfl (fun hg => ?_) (fun hg => ?_) <;> ((try simp only [decide_eq_true_eq, decide_eq_false_iff_not, Bool.not_eq_true', Bool.not_eq_false', Bool.and_eq_true, Bool.or_eq_true, Bool.and_eq_false_iff, Bool.or_eq_false_iff, Bool.false_eq_true, Bool.true_eq_false, not_true_eq_false, not_false_eq_true, true_iff, iff_true, false_iff, iff_false, Int.toNat_zero, Int.toNat_natCast, Int.not_lt, Int.not_le] at hg) <;> (try first | (exfalso; omega) | exact absurd trivial hg | exact False.elim hg | exact absurd rfl hg))))
    refine AL.storeRM tok ((⟨3, 0, ⟨#[113]⟩, 1, 1⟩ : C)) rfl rfl rfl (by first | omega | (simp; omega) | decide) rfl rfl rfl rfl (Nat.le_of_ble_eq_true rfl) rfl ?_
    refine AL.frz 0 rfl rfl rfl ?_
    repeat' (first
      | refine AL.do tok rfl rfl ?_
      | refine AL.nil ?_
      | refine AW.seq fun K hK => ?_
      | refine AW.region ?_
      | refine AL.no rfl rfl ?_
      | (refine hK _ ?_; clear hK)
      | (clear hK; refine hK _ ?_; clear hK)
      | (clear hK; clear hK; refine hK _ ?_; clear hK)
      | refine AL.add rfl rfl rfl rfl (by constructor <;> omega) ?_
      | refine AL.sub rfl rfl rfl rfl (by constructor <;> omega) ?_
      | refine AL.neg rfl rfl rfl (by constructor <;> omega) ?_
      | refine AL.eq tok rfl rfl rfl rfl rfl (by kernel_rfl) ?_
      | refine AL.neq tok rfl rfl rfl rfl rfl (by kernel_rfl) ?_
      | refine AL.max rfl rfl rfl rfl ?_
      | refine AL.buildSlice tok rfl rfl rfl rfl rfl rfl rfl rfl ?_
      | refine AL.min rfl rfl rfl rfl ?_
      | refine AL.idxM tok rfl rfl rfl rfl rfl rfl (fun _ => rfl) (by first | omega | decide) ?_
      | refine AL.idxMI tok rfl rfl rfl rfl rfl rfl (fun _ => rfl) (by omega) (by omega) ?_
      | refine AL.v rfl rfl (VOp.cutTo tok rfl rfl rfl (fun _ => rfl) rfl (by omega)) ?_
      | refine AL.v rfl rfl (VOp.cutFrom tok rfl rfl rfl (fun _ => rfl) rfl (by omega)) ?_
      | refine AL.v rfl rfl (VOp.cutS tok rfl rfl rfl rfl (by omega) (by omega)) ?_
      | refine AL.v rfl rfl (VOp.cutSF tok rfl rfl rfl (by omega)) ?_
      | refine AL.v rfl rfl (VOp.cutST tok rfl rfl rfl (by omega)) ?_
      | refine AL.v rfl rfl (VOp.joinS rfl rfl (by omega)) ?_
      | refine AL.idxON tok rfl rfl rfl rfl rfl rfl rfl rfl (by first | omega | (simp; omega) | (simp; done) | decide) ?_
      | refine AL.loadRM tok rfl rfl rfl rfl (by first | omega | (simp; omega)) rfl ?_
      | refine AL.loadR tok rfl rfl rfl rfl rfl rfl ?_
      | refine AL.sidxN tok rfl rfl rfl rfl rfl (by omega) ?_
      | refine AL.sidx tok rfl rfl rfl rfl rfl (by omega) (by omega) ?_
      | refine AL.range tok rfl rfl rfl rfl ?_
      | refine AW.block ?_
      | refine AW.exit ?_
      | refine AW.skip ?_
      | refine AL.callS rfl rfl rfl rfl rfl rfl (n5 ..) rfl ?_
      | refine AL.callP rfl rfl rfl rfl rfl (n5 ..) ?_
      | refine AL.callS rfl rfl rfl rfl rfl rfl (n6 ..) rfl ?_
      | refine AL.callP rfl rfl rfl rfl rfl (n6 ..) ?_
      | refine AL.callS rfl rfl rfl rfl rfl rfl (a7 ..) rfl ?_
      | refine AL.callP rfl rfl rfl rfl rfl (a7 ..) ?_
      | refine AL.callS rfl rfl rfl rfl rfl rfl (c8 ..) rfl ?_
      | refine AL.callP rfl rfl rfl rfl rfl (c8 ..) ?_
      | refine AL.callS rfl rfl rfl rfl rfl rfl (r9 ..) rfl ?_
      | refine AL.callP rfl rfl rfl rfl rfl (r9 ..) ?_
      | refine AL.callS rfl rfl rfl rfl rfl rfl (k10 ..) rfl ?_
      | refine AL.callP rfl rfl rfl rfl rfl (k10 ..) ?_
      | ((fail_if_success (refine AL.guard (b := true) rfl rfl ?_ ?_)); (fail_if_success (refine AL.guard (b := false) rfl rfl ?_ ?_)); refine AL.guard rfl rfl (fun hg => ?_) (fun hg => ?_) <;> ((try simp only [decide_eq_true_eq, decide_eq_false_iff_not, Bool.not_eq_true', Bool.not_eq_false', Bool.and_eq_true, Bool.or_eq_true, Bool.and_eq_false_iff, Bool.or_eq_false_iff, Bool.false_eq_true, Bool.true_eq_false, not_true_eq_false, not_false_eq_true, true_iff, iff_true, false_iff, iff_false, Int.toNat_zero, Int.toNat_natCast, Int.not_lt, Int.not_le] at hg) <;> (try first | (exfalso; omega) | exact absurd trivial hg | exact False.elim hg | exact absurd rfl hg)))
      | refine AW.condT rfl ?_
      | refine AW.condF rfl ?_
      | (refine AW.cond rfl (fun hg => ?_) (fun hg => ?_) <;> ((try simp only [decide_eq_true_eq, decide_eq_false_iff_not, Bool.not_eq_true', Bool.not_eq_false', Bool.and_eq_true, Bool.or_eq_true, Bool.and_eq_false_iff, Bool.or_eq_false_iff, Bool.false_eq_true, Bool.true_eq_false, not_true_eq_false, not_false_eq_true, true_iff, iff_true, false_iff, iff_false, Int.toNat_zero, Int.toNat_natCast, Int.not_lt, Int.not_le] at hg) <;> (try first | (exfalso; omega) | exact absurd trivial hg | exact False.elim hg | exact absurd rfl hg)))
      | refine AW.ret ?_)
    refine ⟨_, _, _, _, rfl, Out.pure rfl ⟨?_, rfl⟩ rfl⟩
    rfl
end Go.Proofs.Try
