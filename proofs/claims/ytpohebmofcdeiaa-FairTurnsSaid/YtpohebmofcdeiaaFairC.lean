/- fair: a list's test, the layer's and the reference's. -/
import Derived.Test.YtpohebmofcdeiaaFairB
set_option linter.unusedSimpArgs false
set_option linter.unusedVariables false
namespace Go.Proofs.Try
open Go Go.AM

/-- The first error of those from here on, beside those before. -/
def checkL : List C → List C → Int
  | _, [] => 0
  | pre, c :: r => if oneS pre c = 0 then checkL (pre ++ [c]) r else oneS pre c
def checkS (l : List C) : Int := if 32 < l.length then 5 else checkL [] l

theorem checkL_lt {l : List C} {i : Nat} (h : i < l.length) : checkL (l.take i) (l.drop i) = if oneS (l.take i) l[i] = 0 then checkL (l.take (i + 1)) (l.drop (i + 1)) else oneS (l.take i) l[i] := by
  rw [List.drop_eq_getElem_cons h, checkL, List.take_append_getElem h]
theorem cut_row (l : List C) (i : Nat) : AV.d (.row (((l.map encC).take (Int.toNat (i : Int))).drop (Int.toNat 0))) = rowC (l.take i) := by
  simp [rowC, List.map_take]

set_option maxHeartbeats 4000000 in
set_option maxRecDepth 10000 in
theorem refCheck_calls (l : List C) : ACallP Try.prog 12 [rowC l] (i64 (checkS l)) := by
  refine ACalls.body tok Try.func12 rfl (by kernel_rfl) (by rw [Try.ntmps12]; simp) ?_
  simp only [Try.ntmps12, Try.results12, argT]
  by_cases h32 : 32 < l.length
  · repeat (first
      | refine AL.do tok rfl rfl ?_
      | refine AL.nil ?_
      | refine AW.seq fun K hK => ?_
      | refine AW.region ?_
      | refine AL.no rfl rfl ?_
      | (refine hK _ ?_; clear hK)
      | (clear hK; refine hK _ ?_; clear hK)
      | (clear hK; clear hK; refine hK _ ?_; clear hK)
      | refine AL.add rfl rfl rfl rfl (by constructor <;> omega) ?_
      | refine AL.sub rfl rfl rfl rfl (by constructor <;> omega) ?_
      | refine AL.neg rfl rfl rfl (by constructor <;> omega) ?_
      | refine AL.eq tok rfl rfl rfl rfl rfl (by kernel_rfl) ?_
      | refine AL.neq tok rfl rfl rfl rfl rfl (by kernel_rfl) ?_
      | refine AL.max rfl rfl rfl rfl ?_
      | refine AL.buildSlice tok rfl rfl rfl rfl rfl rfl rfl rfl ?_
      | refine AL.min rfl rfl rfl rfl ?_
      | refine AL.idxM tok rfl rfl rfl rfl rfl rfl (fun _ => rfl) (by first | omega | decide) ?_
      | refine AL.idxMI tok rfl rfl rfl rfl rfl rfl (fun _ => rfl) (by omega) (by omega) ?_
      | refine AL.v rfl rfl (VOp.cutS tok rfl rfl rfl rfl (by omega) (by omega)) ?_
      | refine AL.v rfl rfl (VOp.cutSF tok rfl rfl rfl (by omega)) ?_
      | refine AL.v rfl rfl (VOp.cutST tok rfl rfl rfl (by omega)) ?_
      | refine AL.v rfl rfl (VOp.joinS rfl rfl (by omega)) ?_
      | refine AL.idxON tok rfl rfl rfl rfl rfl rfl rfl rfl (by first | omega | (simp; omega) | (simp; done) | decide) ?_
      | refine AL.loadRM tok rfl rfl rfl rfl (by first | omega | (simp; omega)) rfl ?_
      | refine AL.loadR tok rfl rfl rfl rfl rfl rfl ?_
      | refine AL.sidxN tok rfl rfl rfl rfl rfl (by omega) ?_
      | refine AL.sidx tok rfl rfl rfl rfl rfl (by omega) (by omega) ?_
      | refine AL.range tok rfl rfl rfl rfl ?_
      | refine AW.block ?_
      | refine AW.exit ?_
      | refine AW.skip ?_)
    simp only [List.length_map]
    repeat' (first
      | refine AL.do tok rfl rfl ?_
      | refine AL.nil ?_
      | refine AW.seq fun K hK => ?_
      | refine AW.region ?_
      | refine AL.no rfl rfl ?_
      | (refine hK _ ?_; clear hK)
      | (clear hK; refine hK _ ?_; clear hK)
      | (clear hK; clear hK; refine hK _ ?_; clear hK)
      | refine AL.add rfl rfl rfl rfl (by constructor <;> omega) ?_
      | refine AL.sub rfl rfl rfl rfl (by constructor <;> omega) ?_
      | refine AL.neg rfl rfl rfl (by constructor <;> omega) ?_
      | refine AL.eq tok rfl rfl rfl rfl rfl (by kernel_rfl) ?_
      | refine AL.neq tok rfl rfl rfl rfl rfl (by kernel_rfl) ?_
      | refine AL.max rfl rfl rfl rfl ?_
      | refine AL.buildSlice tok rfl rfl rfl rfl rfl rfl rfl rfl ?_
      | refine AL.min rfl rfl rfl rfl ?_
      | refine AL.idxM tok rfl rfl rfl rfl rfl rfl (fun _ => rfl) (by first | omega | decide) ?_
      | refine AL.idxMI tok rfl rfl rfl rfl rfl rfl (fun _ => rfl) (by omega) (by omega) ?_
      | refine AL.v rfl rfl (VOp.cutS tok rfl rfl rfl rfl (by omega) (by omega)) ?_
      | refine AL.v rfl rfl (VOp.cutSF tok rfl rfl rfl (by omega)) ?_
      | refine AL.v rfl rfl (VOp.cutST tok rfl rfl rfl (by omega)) ?_
      | refine AL.v rfl rfl (VOp.joinS rfl rfl (by omega)) ?_
      | refine AL.idxON tok rfl rfl rfl rfl rfl rfl rfl rfl (by first | omega | (simp; omega) | (simp; done) | decide) ?_
      | refine AL.loadRM tok rfl rfl rfl rfl (by first | omega | (simp; omega)) rfl ?_
      | refine AL.loadR tok rfl rfl rfl rfl rfl rfl ?_
      | refine AL.sidxN tok rfl rfl rfl rfl rfl (by omega) ?_
      | refine AL.sidx tok rfl rfl rfl rfl rfl (by omega) (by omega) ?_
      | refine AL.range tok rfl rfl rfl rfl ?_
      | refine AW.block ?_
      | refine AW.exit ?_
      | refine AW.skip ?_
      | ((fail_if_success (refine AL.guard (b := true) rfl rfl ?_ ?_)); (fail_if_success (refine AL.guard (b := false) rfl rfl ?_ ?_)); refine AL.guard rfl rfl (fun hg => ?_) (fun hg => ?_) <;> ((try simp only [decide_eq_true_eq, decide_eq_false_iff_not, Bool.not_eq_true', Bool.not_eq_false', Bool.and_eq_true, Bool.or_eq_true, Bool.and_eq_false_iff, Bool.or_eq_false_iff, Bool.false_eq_true, Bool.true_eq_false, not_true_eq_false, not_false_eq_true, true_iff, iff_true, false_iff, iff_false, Int.toNat_zero, Int.toNat_natCast, Int.not_lt, Int.not_le] at hg) <;> (try first | (exfalso; omega) | exact absurd trivial hg | exact False.elim hg | exact absurd rfl hg)))
      | refine AW.condT rfl ?_
      | refine AW.condF rfl ?_
      | (refine AW.cond rfl (fun hg => ?_) (fun hg => ?_) <;> ((try simp only [decide_eq_true_eq, decide_eq_false_iff_not, Bool.not_eq_true', Bool.not_eq_false', Bool.and_eq_true, Bool.or_eq_true, Bool.and_eq_false_iff, Bool.or_eq_false_iff, Bool.false_eq_true, Bool.true_eq_false, not_true_eq_false, not_false_eq_true, true_iff, iff_true, false_iff, iff_false, Int.toNat_zero, Int.toNat_natCast, Int.not_lt, Int.not_le] at hg) <;> (try first | (exfalso; omega) | exact absurd trivial hg | exact False.elim hg | exact absurd rfl hg)))
      | refine AW.ret ?_)
    refine ⟨_, _, _, _, rfl, Out.pure rfl ⟨?_, rfl⟩ rfl⟩
    simp [checkS, h32]
  · repeat (first
      | refine AL.do tok rfl rfl ?_
      | refine AL.nil ?_
      | refine AW.seq fun K hK => ?_
      | refine AW.region ?_
      | refine AL.no rfl rfl ?_
      | (refine hK _ ?_; clear hK)
      | (clear hK; refine hK _ ?_; clear hK)
      | (clear hK; clear hK; refine hK _ ?_; clear hK)
      | refine AL.add rfl rfl rfl rfl (by constructor <;> omega) ?_
      | refine AL.sub rfl rfl rfl rfl (by constructor <;> omega) ?_
      | refine AL.neg rfl rfl rfl (by constructor <;> omega) ?_
      | refine AL.eq tok rfl rfl rfl rfl rfl (by kernel_rfl) ?_
      | refine AL.neq tok rfl rfl rfl rfl rfl (by kernel_rfl) ?_
      | refine AL.max rfl rfl rfl rfl ?_
      | refine AL.buildSlice tok rfl rfl rfl rfl rfl rfl rfl rfl ?_
      | refine AL.min rfl rfl rfl rfl ?_
      | refine AL.idxM tok rfl rfl rfl rfl rfl rfl (fun _ => rfl) (by first | omega | decide) ?_
      | refine AL.idxMI tok rfl rfl rfl rfl rfl rfl (fun _ => rfl) (by omega) (by omega) ?_
      | refine AL.v rfl rfl (VOp.cutS tok rfl rfl rfl rfl (by omega) (by omega)) ?_
      | refine AL.v rfl rfl (VOp.cutSF tok rfl rfl rfl (by omega)) ?_
      | refine AL.v rfl rfl (VOp.cutST tok rfl rfl rfl (by omega)) ?_
      | refine AL.v rfl rfl (VOp.joinS rfl rfl (by omega)) ?_
      | refine AL.idxON tok rfl rfl rfl rfl rfl rfl rfl rfl (by first | omega | (simp; omega) | (simp; done) | decide) ?_
      | refine AL.loadRM tok rfl rfl rfl rfl (by first | omega | (simp; omega)) rfl ?_
      | refine AL.loadR tok rfl rfl rfl rfl rfl rfl ?_
      | refine AL.sidxN tok rfl rfl rfl rfl rfl (by omega) ?_
      | refine AL.sidx tok rfl rfl rfl rfl rfl (by omega) (by omega) ?_
      | refine AL.range tok rfl rfl rfl rfl ?_
      | refine AW.block ?_
      | refine AW.exit ?_
      | refine AW.skip ?_)
    simp only [List.length_map]
    repeat' (first
      | refine AL.do tok rfl rfl ?_
      | refine AL.nil ?_
      | refine AW.seq fun K hK => ?_
      | refine AW.region ?_
      | refine AL.no rfl rfl ?_
      | (refine hK _ ?_; clear hK)
      | (clear hK; refine hK _ ?_; clear hK)
      | (clear hK; clear hK; refine hK _ ?_; clear hK)
      | refine AL.add rfl rfl rfl rfl (by constructor <;> omega) ?_
      | refine AL.sub rfl rfl rfl rfl (by constructor <;> omega) ?_
      | refine AL.neg rfl rfl rfl (by constructor <;> omega) ?_
      | refine AL.eq tok rfl rfl rfl rfl rfl (by kernel_rfl) ?_
      | refine AL.neq tok rfl rfl rfl rfl rfl (by kernel_rfl) ?_
      | refine AL.max rfl rfl rfl rfl ?_
      | refine AL.buildSlice tok rfl rfl rfl rfl rfl rfl rfl rfl ?_
      | refine AL.min rfl rfl rfl rfl ?_
      | refine AL.idxM tok rfl rfl rfl rfl rfl rfl (fun _ => rfl) (by first | omega | decide) ?_
      | refine AL.idxMI tok rfl rfl rfl rfl rfl rfl (fun _ => rfl) (by omega) (by omega) ?_
      | refine AL.v rfl rfl (VOp.cutS tok rfl rfl rfl rfl (by omega) (by omega)) ?_
      | refine AL.v rfl rfl (VOp.cutSF tok rfl rfl rfl (by omega)) ?_
      | refine AL.v rfl rfl (VOp.cutST tok rfl rfl rfl (by omega)) ?_
      | refine AL.v rfl rfl (VOp.joinS rfl rfl (by omega)) ?_
      | refine AL.idxON tok rfl rfl rfl rfl rfl rfl rfl rfl (by first | omega | (simp; omega) | (simp; done) | decide) ?_
      | refine AL.loadRM tok rfl rfl rfl rfl (by first | omega | (simp; omega)) rfl ?_
      | refine AL.loadR tok rfl rfl rfl rfl rfl rfl ?_
      | refine AL.sidxN tok rfl rfl rfl rfl rfl (by omega) ?_
      | refine AL.sidx tok rfl rfl rfl rfl rfl (by omega) (by omega) ?_
      | refine AL.range tok rfl rfl rfl rfl ?_
      | refine AW.block ?_
      | refine AW.exit ?_
      | refine AW.skip ?_
      | ((fail_if_success (refine AL.guard (b := true) rfl rfl ?_ ?_)); (fail_if_success (refine AL.guard (b := false) rfl rfl ?_ ?_)); refine AL.guard rfl rfl (fun hg => ?_) (fun hg => ?_) <;> ((try simp only [decide_eq_true_eq, decide_eq_false_iff_not, Bool.not_eq_true', Bool.not_eq_false', Bool.and_eq_true, Bool.or_eq_true, Bool.and_eq_false_iff, Bool.or_eq_false_iff, Bool.false_eq_true, Bool.true_eq_false, not_true_eq_false, not_false_eq_true, true_iff, iff_true, false_iff, iff_false, Int.toNat_zero, Int.toNat_natCast, Int.not_lt, Int.not_le] at hg) <;> (try first | (exfalso; omega) | exact absurd trivial hg | exact False.elim hg | exact absurd rfl hg)))
      | refine AW.condT rfl ?_
      | refine AW.condF rfl ?_
      | (refine AW.cond rfl (fun hg => ?_) (fun hg => ?_) <;> ((try simp only [decide_eq_true_eq, decide_eq_false_iff_not, Bool.not_eq_true', Bool.not_eq_false', Bool.and_eq_true, Bool.or_eq_true, Bool.and_eq_false_iff, Bool.or_eq_false_iff, Bool.false_eq_true, Bool.true_eq_false, not_true_eq_false, not_false_eq_true, true_iff, iff_true, false_iff, iff_false, Int.toNat_zero, Int.toNat_natCast, Int.not_lt, Int.not_le] at hg) <;> (try first | (exfalso; omega) | exact absurd trivial hg | exact False.elim hg | exact absurd rfl hg)))
      | refine AW.ret ?_)
    simp only [List.length_map]
    refine AW.loop (ι := Nat) (fun i => ⟨25, [(11, i64 i), (10, i64 l.length), (9, rowC l), (0, rowC l)], [], [], 0⟩)
      (fun i => i ≤ l.length ∧ checkL (l.take i) (l.drop i) = checkS l) (fun i => l.length - i) 0 (And.intro (Nat.zero_le _) (by simp [checkS, h32])) ?_ ?_
    · (refine Imp.weak id (fun _ _ _ _ h => h) (by first | assumption | (intro b hb; cases hb)) ?_ ?_ <;> (repeat' (first
      | exact trivial
      | exact Nat.lt_of_lt_of_le (Nat.lt_succ_self _) (Nat.le_of_ble_eq_true rfl)
      | exact rfl
      | exact Or.inl ⟨rfl, rfl⟩
      | exact Or.inr ⟨rfl, LF.fn _ _ ‹_›⟩
      | refine ⟨?_, ?_⟩)))
    rintro i ⟨hi, hf⟩ K1 hK1
    by_cases hlt : i < l.length
    · rw [checkL_lt hlt] at hf
      repeat (first
      | refine AL.do tok rfl rfl ?_
      | refine AL.nil ?_
      | refine AW.seq fun K hK => ?_
      | refine AW.region ?_
      | refine AL.no rfl rfl ?_
      | (refine hK _ ?_; clear hK)
      | (clear hK; refine hK _ ?_; clear hK)
      | (clear hK; clear hK; refine hK _ ?_; clear hK)
      | refine AL.add rfl rfl rfl rfl (by constructor <;> omega) ?_
      | refine AL.sub rfl rfl rfl rfl (by constructor <;> omega) ?_
      | refine AL.neg rfl rfl rfl (by constructor <;> omega) ?_
      | refine AL.eq tok rfl rfl rfl rfl rfl (by kernel_rfl) ?_
      | refine AL.neq tok rfl rfl rfl rfl rfl (by kernel_rfl) ?_
      | refine AL.max rfl rfl rfl rfl ?_
      | refine AL.buildSlice tok rfl rfl rfl rfl rfl rfl rfl rfl ?_
      | refine AL.min rfl rfl rfl rfl ?_
      | refine AL.idxM tok rfl rfl rfl rfl rfl rfl (fun _ => rfl) (by first | omega | decide) ?_
      | refine AL.idxMI tok rfl rfl rfl rfl rfl rfl (fun _ => rfl) (by omega) (by omega) ?_
      | refine AL.v rfl rfl (VOp.cutS tok rfl rfl rfl rfl (by omega) (by omega)) ?_
      | refine AL.v rfl rfl (VOp.cutSF tok rfl rfl rfl (by omega)) ?_
      | refine AL.v rfl rfl (VOp.cutST tok rfl rfl rfl (by omega)) ?_
      | refine AL.v rfl rfl (VOp.joinS rfl rfl (by omega)) ?_
      | refine AL.idxON tok rfl rfl rfl rfl rfl rfl rfl rfl (by first | omega | (simp; omega) | (simp; done) | decide) ?_
      | refine AL.loadRM tok rfl rfl rfl rfl (by first | omega | (simp; omega)) rfl ?_
      | refine AL.loadR tok rfl rfl rfl rfl rfl rfl ?_
      | refine AL.sidxN tok rfl rfl rfl rfl rfl (by omega) ?_
      | refine AL.sidx tok rfl rfl rfl rfl rfl (by omega) (by omega) ?_
      | refine AL.range tok rfl rfl rfl rfl ?_
      | refine AW.block ?_
      | refine AW.exit ?_
      | refine AW.skip ?_)
      refine AW.cond rfl (fun hg => ?_) (fun hg => by simp at hg; omega)
      repeat (first
      | refine AL.do tok rfl rfl ?_
      | refine AL.nil ?_
      | refine AW.seq fun K hK => ?_
      | refine AW.region ?_
      | refine AL.no rfl rfl ?_
      | (refine hK _ ?_; clear hK)
      | (clear hK; refine hK _ ?_; clear hK)
      | (clear hK; clear hK; refine hK _ ?_; clear hK)
      | refine AL.add rfl rfl rfl rfl (by constructor <;> omega) ?_
      | refine AL.sub rfl rfl rfl rfl (by constructor <;> omega) ?_
      | refine AL.neg rfl rfl rfl (by constructor <;> omega) ?_
      | refine AL.eq tok rfl rfl rfl rfl rfl (by kernel_rfl) ?_
      | refine AL.neq tok rfl rfl rfl rfl rfl (by kernel_rfl) ?_
      | refine AL.max rfl rfl rfl rfl ?_
      | refine AL.buildSlice tok rfl rfl rfl rfl rfl rfl rfl rfl ?_
      | refine AL.min rfl rfl rfl rfl ?_
      | refine AL.idxM tok rfl rfl rfl rfl rfl rfl (fun _ => rfl) (by first | omega | decide) ?_
      | refine AL.idxMI tok rfl rfl rfl rfl rfl rfl (fun _ => rfl) (by omega) (by omega) ?_
      | refine AL.v rfl rfl (VOp.cutS tok rfl rfl rfl rfl (by omega) (by omega)) ?_
      | refine AL.v rfl rfl (VOp.cutSF tok rfl rfl rfl (by omega)) ?_
      | refine AL.v rfl rfl (VOp.cutST tok rfl rfl rfl (by omega)) ?_
      | refine AL.v rfl rfl (VOp.joinS rfl rfl (by omega)) ?_
      | refine AL.idxON tok rfl rfl rfl rfl rfl rfl rfl rfl (by first | omega | (simp; omega) | (simp; done) | decide) ?_
      | refine AL.loadRM tok rfl rfl rfl rfl (by first | omega | (simp; omega)) rfl ?_
      | refine AL.loadR tok rfl rfl rfl rfl rfl rfl ?_
      | refine AL.sidxN tok rfl rfl rfl rfl rfl (by omega) ?_
      | refine AL.sidx tok rfl rfl rfl rfl rfl (by omega) (by omega) ?_
      | refine AL.range tok rfl rfl rfl rfl ?_
      | refine AW.block ?_
      | refine AW.exit ?_
      | refine AW.skip ?_)
      repeat (first
      | refine AL.do tok rfl rfl ?_
      | refine AL.nil ?_
      | refine AW.seq fun K hK => ?_
      | refine AW.region ?_
      | refine AL.no rfl rfl ?_
      | (refine hK _ ?_; clear hK)
      | (clear hK; refine hK _ ?_; clear hK)
      | (clear hK; clear hK; refine hK _ ?_; clear hK)
      | refine AL.add rfl rfl rfl rfl (by constructor <;> omega) ?_
      | refine AL.sub rfl rfl rfl rfl (by constructor <;> omega) ?_
      | refine AL.neg rfl rfl rfl (by constructor <;> omega) ?_
      | refine AL.eq tok rfl rfl rfl rfl rfl (by kernel_rfl) ?_
      | refine AL.neq tok rfl rfl rfl rfl rfl (by kernel_rfl) ?_
      | refine AL.max rfl rfl rfl rfl ?_
      | refine AL.buildSlice tok rfl rfl rfl rfl rfl rfl rfl rfl ?_
      | refine AL.min rfl rfl rfl rfl ?_
      | refine AL.idxM tok rfl rfl rfl rfl rfl rfl (fun _ => rfl) (by first | omega | decide) ?_
      | refine AL.idxMI tok rfl rfl rfl rfl rfl rfl (fun _ => rfl) (by omega) (by omega) ?_
      | refine AL.v rfl rfl (VOp.cutS tok rfl rfl rfl rfl (by omega) (by omega)) ?_
      | refine AL.v rfl rfl (VOp.cutSF tok rfl rfl rfl (by omega)) ?_
      | refine AL.v rfl rfl (VOp.cutST tok rfl rfl rfl (by omega)) ?_
      | refine AL.v rfl rfl (VOp.joinS rfl rfl (by omega)) ?_
      | refine AL.idxON tok rfl rfl rfl rfl rfl rfl rfl rfl (by first | omega | (simp; omega) | (simp; done) | decide) ?_
      | refine AL.loadRM tok rfl rfl rfl rfl (by first | omega | (simp; omega)) rfl ?_
      | refine AL.loadR tok rfl rfl rfl rfl rfl rfl ?_
      | refine AL.sidxN tok rfl rfl rfl rfl rfl (by omega) ?_
      | refine AL.sidx tok rfl rfl rfl rfl rfl (by omega) (by omega) ?_
      | refine AL.range tok rfl rfl rfl rfl ?_
      | refine AW.block ?_
      | refine AW.exit ?_
      | refine AW.skip ?_)
      refine AW.drawn mix (by kernel_rfl) ?_
      repeat (first
      | refine AQ.do tok rfl rfl rfl ?_
      | refine AQ.no rfl rfl ?_
      | refine AQ.v rfl (VOp.add rfl rfl (by constructor <;> omega)) rfl ?_
      | refine AQ.v rfl (VOp.sub rfl rfl (by constructor <;> omega)) rfl ?_
      | refine AQ.v rfl (VOp.eq tok rfl rfl rfl (by kernel_rfl)) rfl ?_
      | refine AQ.v rfl (VOp.neq tok rfl rfl rfl (by kernel_rfl)) rfl ?_
      | refine AQ.v rfl (VOp.idxM tok rfl rfl rfl rfl (fun _ => rfl) (by omega)) rfl ?_
      | refine AQ.v rfl (VOp.idxMI tok rfl rfl rfl rfl (fun _ => rfl) (by omega) (by omega)) rfl ?_
      | refine AQ.v rfl (VOp.cutTo tok rfl rfl rfl (fun _ => rfl) rfl (by omega)) rfl ?_
      | refine AQ.v rfl (VOp.cutFrom tok rfl rfl rfl (fun _ => rfl) rfl (by omega)) rfl ?_
      | refine AQ.nil ?_)
      repeat (first
      | refine AQ.do tok rfl rfl rfl ?_
      | refine AQ.no rfl rfl ?_
      | refine AQ.v rfl (VOp.add rfl rfl (by constructor <;> omega)) rfl ?_
      | refine AQ.v rfl (VOp.sub rfl rfl (by constructor <;> omega)) rfl ?_
      | refine AQ.v rfl (VOp.eq tok rfl rfl rfl (by kernel_rfl)) rfl ?_
      | refine AQ.v rfl (VOp.neq tok rfl rfl rfl (by kernel_rfl)) rfl ?_
      | refine AQ.v rfl (VOp.idxM tok rfl rfl rfl rfl (fun _ => rfl) (by omega)) rfl ?_
      | refine AQ.v rfl (VOp.idxMI tok rfl rfl rfl rfl (fun _ => rfl) (by omega) (by omega)) rfl ?_
      | refine AQ.v rfl (VOp.cutTo tok rfl rfl rfl (fun _ => rfl) rfl (by omega)) rfl ?_
      | refine AQ.v rfl (VOp.cutFrom tok rfl rfl rfl (fun _ => rfl) rfl (by omega)) rfl ?_
      | refine AQ.nil ?_
      | refine AQ.callB rfl rfl rfl rfl rfl rfl (one_calls ..) rfl ?_)
      repeat' (first
      | refine AL.do tok rfl rfl ?_
      | refine AL.nil ?_
      | refine AW.seq fun K hK => ?_
      | refine AW.region ?_
      | refine AL.no rfl rfl ?_
      | (refine hK _ ?_; clear hK)
      | (clear hK; refine hK _ ?_; clear hK)
      | (clear hK; clear hK; refine hK _ ?_; clear hK)
      | refine AL.add rfl rfl rfl rfl (by constructor <;> omega) ?_
      | refine AL.sub rfl rfl rfl rfl (by constructor <;> omega) ?_
      | refine AL.neg rfl rfl rfl (by constructor <;> omega) ?_
      | refine AL.eq tok rfl rfl rfl rfl rfl (by kernel_rfl) ?_
      | refine AL.neq tok rfl rfl rfl rfl rfl (by kernel_rfl) ?_
      | refine AL.max rfl rfl rfl rfl ?_
      | refine AL.buildSlice tok rfl rfl rfl rfl rfl rfl rfl rfl ?_
      | refine AL.min rfl rfl rfl rfl ?_
      | refine AL.idxM tok rfl rfl rfl rfl rfl rfl (fun _ => rfl) (by first | omega | decide) ?_
      | refine AL.idxMI tok rfl rfl rfl rfl rfl rfl (fun _ => rfl) (by omega) (by omega) ?_
      | refine AL.v rfl rfl (VOp.cutS tok rfl rfl rfl rfl (by omega) (by omega)) ?_
      | refine AL.v rfl rfl (VOp.cutSF tok rfl rfl rfl (by omega)) ?_
      | refine AL.v rfl rfl (VOp.cutST tok rfl rfl rfl (by omega)) ?_
      | refine AL.v rfl rfl (VOp.joinS rfl rfl (by omega)) ?_
      | refine AL.idxON tok rfl rfl rfl rfl rfl rfl rfl rfl (by first | omega | (simp; omega) | (simp; done) | decide) ?_
      | refine AL.loadRM tok rfl rfl rfl rfl (by first | omega | (simp; omega)) rfl ?_
      | refine AL.loadR tok rfl rfl rfl rfl rfl rfl ?_
      | refine AL.sidxN tok rfl rfl rfl rfl rfl (by omega) ?_
      | refine AL.sidx tok rfl rfl rfl rfl rfl (by omega) (by omega) ?_
      | refine AL.range tok rfl rfl rfl rfl ?_
      | refine AW.block ?_
      | refine AW.exit ?_
      | refine AW.skip ?_
      | ((fail_if_success (refine AL.guard (b := true) rfl rfl ?_ ?_)); (fail_if_success (refine AL.guard (b := false) rfl rfl ?_ ?_)); refine AL.guard rfl rfl (fun hg => ?_) (fun hg => ?_) <;> ((try simp only [decide_eq_true_eq, decide_eq_false_iff_not, Bool.not_eq_true', Bool.not_eq_false', Bool.and_eq_true, Bool.or_eq_true, Bool.and_eq_false_iff, Bool.or_eq_false_iff, Bool.false_eq_true, Bool.true_eq_false, not_true_eq_false, not_false_eq_true, true_iff, iff_true, false_iff, iff_false, Int.toNat_zero, Int.toNat_natCast, Int.not_lt, Int.not_le] at hg) <;> (try first | (exfalso; omega) | exact absurd trivial hg | exact False.elim hg | exact absurd rfl hg)))
      | refine AW.condT rfl ?_
      | refine AW.condF rfl ?_
      | (refine AW.cond rfl (fun hg => ?_) (fun hg => ?_) <;> ((try simp only [decide_eq_true_eq, decide_eq_false_iff_not, Bool.not_eq_true', Bool.not_eq_false', Bool.and_eq_true, Bool.or_eq_true, Bool.and_eq_false_iff, Bool.or_eq_false_iff, Bool.false_eq_true, Bool.true_eq_false, not_true_eq_false, not_false_eq_true, true_iff, iff_true, false_iff, iff_false, Int.toNat_zero, Int.toNat_natCast, Int.not_lt, Int.not_le] at hg) <;> (try first | (exfalso; omega) | exact absurd trivial hg | exact False.elim hg | exact absurd rfl hg)))
      | refine AW.ret ?_)
      all_goals first
        | (refine ⟨_, _, _, _, rfl, Out.pure rfl ⟨?_, rfl⟩ rfl⟩; rw [← hf, if_neg hg]; done)
        | (rw [if_pos hg] at hf
           refine hK1 _ (i + 1) (And.intro (by omega) hf) (by omega) ?_
           (refine Imp.weak id (fun _ _ _ _ h => h) (by first | assumption | (intro b hb; cases hb)) ?_ ?_ <;> (repeat' (first
      | exact trivial
      | exact Nat.lt_of_lt_of_le (Nat.lt_succ_self _) (Nat.le_of_ble_eq_true rfl)
      | exact rfl
      | exact Or.inl ⟨rfl, rfl⟩
      | exact Or.inr ⟨rfl, LF.fn _ _ ‹_›⟩
      | refine ⟨?_, ?_⟩))))
    · repeat (first
      | refine AL.do tok rfl rfl ?_
      | refine AL.nil ?_
      | refine AW.seq fun K hK => ?_
      | refine AW.region ?_
      | refine AL.no rfl rfl ?_
      | (refine hK _ ?_; clear hK)
      | (clear hK; refine hK _ ?_; clear hK)
      | (clear hK; clear hK; refine hK _ ?_; clear hK)
      | refine AL.add rfl rfl rfl rfl (by constructor <;> omega) ?_
      | refine AL.sub rfl rfl rfl rfl (by constructor <;> omega) ?_
      | refine AL.neg rfl rfl rfl (by constructor <;> omega) ?_
      | refine AL.eq tok rfl rfl rfl rfl rfl (by kernel_rfl) ?_
      | refine AL.neq tok rfl rfl rfl rfl rfl (by kernel_rfl) ?_
      | refine AL.max rfl rfl rfl rfl ?_
      | refine AL.buildSlice tok rfl rfl rfl rfl rfl rfl rfl rfl ?_
      | refine AL.min rfl rfl rfl rfl ?_
      | refine AL.idxM tok rfl rfl rfl rfl rfl rfl (fun _ => rfl) (by first | omega | decide) ?_
      | refine AL.idxMI tok rfl rfl rfl rfl rfl rfl (fun _ => rfl) (by omega) (by omega) ?_
      | refine AL.v rfl rfl (VOp.cutS tok rfl rfl rfl rfl (by omega) (by omega)) ?_
      | refine AL.v rfl rfl (VOp.cutSF tok rfl rfl rfl (by omega)) ?_
      | refine AL.v rfl rfl (VOp.cutST tok rfl rfl rfl (by omega)) ?_
      | refine AL.v rfl rfl (VOp.joinS rfl rfl (by omega)) ?_
      | refine AL.idxON tok rfl rfl rfl rfl rfl rfl rfl rfl (by first | omega | (simp; omega) | (simp; done) | decide) ?_
      | refine AL.loadRM tok rfl rfl rfl rfl (by first | omega | (simp; omega)) rfl ?_
      | refine AL.loadR tok rfl rfl rfl rfl rfl rfl ?_
      | refine AL.sidxN tok rfl rfl rfl rfl rfl (by omega) ?_
      | refine AL.sidx tok rfl rfl rfl rfl rfl (by omega) (by omega) ?_
      | refine AL.range tok rfl rfl rfl rfl ?_
      | refine AW.block ?_
      | refine AW.exit ?_
      | refine AW.skip ?_)
      refine AW.cond rfl (fun hg => by simp at hg; omega) (fun hg => ?_)
      repeat (first
      | refine AL.do tok rfl rfl ?_
      | refine AL.nil ?_
      | refine AW.seq fun K hK => ?_
      | refine AW.region ?_
      | refine AL.no rfl rfl ?_
      | (refine hK _ ?_; clear hK)
      | (clear hK; refine hK _ ?_; clear hK)
      | (clear hK; clear hK; refine hK _ ?_; clear hK)
      | refine AL.add rfl rfl rfl rfl (by constructor <;> omega) ?_
      | refine AL.sub rfl rfl rfl rfl (by constructor <;> omega) ?_
      | refine AL.neg rfl rfl rfl (by constructor <;> omega) ?_
      | refine AL.eq tok rfl rfl rfl rfl rfl (by kernel_rfl) ?_
      | refine AL.neq tok rfl rfl rfl rfl rfl (by kernel_rfl) ?_
      | refine AL.max rfl rfl rfl rfl ?_
      | refine AL.buildSlice tok rfl rfl rfl rfl rfl rfl rfl rfl ?_
      | refine AL.min rfl rfl rfl rfl ?_
      | refine AL.idxM tok rfl rfl rfl rfl rfl rfl (fun _ => rfl) (by first | omega | decide) ?_
      | refine AL.idxMI tok rfl rfl rfl rfl rfl rfl (fun _ => rfl) (by omega) (by omega) ?_
      | refine AL.v rfl rfl (VOp.cutS tok rfl rfl rfl rfl (by omega) (by omega)) ?_
      | refine AL.v rfl rfl (VOp.cutSF tok rfl rfl rfl (by omega)) ?_
      | refine AL.v rfl rfl (VOp.cutST tok rfl rfl rfl (by omega)) ?_
      | refine AL.v rfl rfl (VOp.joinS rfl rfl (by omega)) ?_
      | refine AL.idxON tok rfl rfl rfl rfl rfl rfl rfl rfl (by first | omega | (simp; omega) | (simp; done) | decide) ?_
      | refine AL.loadRM tok rfl rfl rfl rfl (by first | omega | (simp; omega)) rfl ?_
      | refine AL.loadR tok rfl rfl rfl rfl rfl rfl ?_
      | refine AL.sidxN tok rfl rfl rfl rfl rfl (by omega) ?_
      | refine AL.sidx tok rfl rfl rfl rfl rfl (by omega) (by omega) ?_
      | refine AL.range tok rfl rfl rfl rfl ?_
      | refine AW.block ?_
      | refine AW.exit ?_
      | refine AW.skip ?_)
      refine AW.ret ?_
      refine ⟨_, _, _, _, rfl, Out.pure rfl ⟨?_, rfl⟩ rfl⟩
      rw [← hf, List.drop_eq_nil_of_le (by omega)]
      rfl

set_option maxHeartbeats 4000000 in
set_option maxRecDepth 10000 in
theorem check_calls (l : List C) : ACallP Try.prog 11 [rowC l] (i64 (checkS l)) := by
  refine ACalls.body tok Try.func11 rfl (by kernel_rfl) (by rw [Try.ntmps11]; simp) ?_
  simp only [Try.ntmps11, Try.results11, argT]
  by_cases h32 : 32 < l.length
  · repeat (first
      | refine AL.do tok rfl rfl ?_
      | refine AL.nil ?_
      | refine AW.seq fun K hK => ?_
      | refine AW.region ?_
      | refine AL.no rfl rfl ?_
      | (refine hK _ ?_; clear hK)
      | (clear hK; refine hK _ ?_; clear hK)
      | (clear hK; clear hK; refine hK _ ?_; clear hK)
      | refine AL.add rfl rfl rfl rfl (by constructor <;> omega) ?_
      | refine AL.sub rfl rfl rfl rfl (by constructor <;> omega) ?_
      | refine AL.neg rfl rfl rfl (by constructor <;> omega) ?_
      | refine AL.eq tok rfl rfl rfl rfl rfl (by kernel_rfl) ?_
      | refine AL.neq tok rfl rfl rfl rfl rfl (by kernel_rfl) ?_
      | refine AL.max rfl rfl rfl rfl ?_
      | refine AL.buildSlice tok rfl rfl rfl rfl rfl rfl rfl rfl ?_
      | refine AL.min rfl rfl rfl rfl ?_
      | refine AL.idxM tok rfl rfl rfl rfl rfl rfl (fun _ => rfl) (by first | omega | decide) ?_
      | refine AL.idxMI tok rfl rfl rfl rfl rfl rfl (fun _ => rfl) (by omega) (by omega) ?_
      | refine AL.v rfl rfl (VOp.cutS tok rfl rfl rfl rfl (by omega) (by omega)) ?_
      | refine AL.v rfl rfl (VOp.cutSF tok rfl rfl rfl (by omega)) ?_
      | refine AL.v rfl rfl (VOp.cutST tok rfl rfl rfl (by omega)) ?_
      | refine AL.v rfl rfl (VOp.joinS rfl rfl (by omega)) ?_
      | refine AL.idxON tok rfl rfl rfl rfl rfl rfl rfl rfl (by first | omega | (simp; omega) | (simp; done) | decide) ?_
      | refine AL.loadRM tok rfl rfl rfl rfl (by first | omega | (simp; omega)) rfl ?_
      | refine AL.loadR tok rfl rfl rfl rfl rfl rfl ?_
      | refine AL.sidxN tok rfl rfl rfl rfl rfl (by omega) ?_
      | refine AL.sidx tok rfl rfl rfl rfl rfl (by omega) (by omega) ?_
      | refine AL.range tok rfl rfl rfl rfl ?_
      | refine AW.block ?_
      | refine AW.exit ?_
      | refine AW.skip ?_)
    simp only [List.length_map]
    repeat' (first
      | refine AL.do tok rfl rfl ?_
      | refine AL.nil ?_
      | refine AW.seq fun K hK => ?_
      | refine AW.region ?_
      | refine AL.no rfl rfl ?_
      | (refine hK _ ?_; clear hK)
      | (clear hK; refine hK _ ?_; clear hK)
      | (clear hK; clear hK; refine hK _ ?_; clear hK)
      | refine AL.add rfl rfl rfl rfl (by constructor <;> omega) ?_
      | refine AL.sub rfl rfl rfl rfl (by constructor <;> omega) ?_
      | refine AL.neg rfl rfl rfl (by constructor <;> omega) ?_
      | refine AL.eq tok rfl rfl rfl rfl rfl (by kernel_rfl) ?_
      | refine AL.neq tok rfl rfl rfl rfl rfl (by kernel_rfl) ?_
      | refine AL.max rfl rfl rfl rfl ?_
      | refine AL.buildSlice tok rfl rfl rfl rfl rfl rfl rfl rfl ?_
      | refine AL.min rfl rfl rfl rfl ?_
      | refine AL.idxM tok rfl rfl rfl rfl rfl rfl (fun _ => rfl) (by first | omega | decide) ?_
      | refine AL.idxMI tok rfl rfl rfl rfl rfl rfl (fun _ => rfl) (by omega) (by omega) ?_
      | refine AL.v rfl rfl (VOp.cutS tok rfl rfl rfl rfl (by omega) (by omega)) ?_
      | refine AL.v rfl rfl (VOp.cutSF tok rfl rfl rfl (by omega)) ?_
      | refine AL.v rfl rfl (VOp.cutST tok rfl rfl rfl (by omega)) ?_
      | refine AL.v rfl rfl (VOp.joinS rfl rfl (by omega)) ?_
      | refine AL.idxON tok rfl rfl rfl rfl rfl rfl rfl rfl (by first | omega | (simp; omega) | (simp; done) | decide) ?_
      | refine AL.loadRM tok rfl rfl rfl rfl (by first | omega | (simp; omega)) rfl ?_
      | refine AL.loadR tok rfl rfl rfl rfl rfl rfl ?_
      | refine AL.sidxN tok rfl rfl rfl rfl rfl (by omega) ?_
      | refine AL.sidx tok rfl rfl rfl rfl rfl (by omega) (by omega) ?_
      | refine AL.range tok rfl rfl rfl rfl ?_
      | refine AW.block ?_
      | refine AW.exit ?_
      | refine AW.skip ?_
      | ((fail_if_success (refine AL.guard (b := true) rfl rfl ?_ ?_)); (fail_if_success (refine AL.guard (b := false) rfl rfl ?_ ?_)); refine AL.guard rfl rfl (fun hg => ?_) (fun hg => ?_) <;> ((try simp only [decide_eq_true_eq, decide_eq_false_iff_not, Bool.not_eq_true', Bool.not_eq_false', Bool.and_eq_true, Bool.or_eq_true, Bool.and_eq_false_iff, Bool.or_eq_false_iff, Bool.false_eq_true, Bool.true_eq_false, not_true_eq_false, not_false_eq_true, true_iff, iff_true, false_iff, iff_false, Int.toNat_zero, Int.toNat_natCast, Int.not_lt, Int.not_le] at hg) <;> (try first | (exfalso; omega) | exact absurd trivial hg | exact False.elim hg | exact absurd rfl hg)))
      | refine AW.condT rfl ?_
      | refine AW.condF rfl ?_
      | (refine AW.cond rfl (fun hg => ?_) (fun hg => ?_) <;> ((try simp only [decide_eq_true_eq, decide_eq_false_iff_not, Bool.not_eq_true', Bool.not_eq_false', Bool.and_eq_true, Bool.or_eq_true, Bool.and_eq_false_iff, Bool.or_eq_false_iff, Bool.false_eq_true, Bool.true_eq_false, not_true_eq_false, not_false_eq_true, true_iff, iff_true, false_iff, iff_false, Int.toNat_zero, Int.toNat_natCast, Int.not_lt, Int.not_le] at hg) <;> (try first | (exfalso; omega) | exact absurd trivial hg | exact False.elim hg | exact absurd rfl hg)))
      | refine AW.ret ?_)
    refine ⟨_, _, _, _, rfl, Out.pure rfl ⟨?_, rfl⟩ rfl⟩
    simp [checkS, h32]
  · repeat (first
      | refine AL.do tok rfl rfl ?_
      | refine AL.nil ?_
      | refine AW.seq fun K hK => ?_
      | refine AW.region ?_
      | refine AL.no rfl rfl ?_
      | (refine hK _ ?_; clear hK)
      | (clear hK; refine hK _ ?_; clear hK)
      | (clear hK; clear hK; refine hK _ ?_; clear hK)
      | refine AL.add rfl rfl rfl rfl (by constructor <;> omega) ?_
      | refine AL.sub rfl rfl rfl rfl (by constructor <;> omega) ?_
      | refine AL.neg rfl rfl rfl (by constructor <;> omega) ?_
      | refine AL.eq tok rfl rfl rfl rfl rfl (by kernel_rfl) ?_
      | refine AL.neq tok rfl rfl rfl rfl rfl (by kernel_rfl) ?_
      | refine AL.max rfl rfl rfl rfl ?_
      | refine AL.buildSlice tok rfl rfl rfl rfl rfl rfl rfl rfl ?_
      | refine AL.min rfl rfl rfl rfl ?_
      | refine AL.idxM tok rfl rfl rfl rfl rfl rfl (fun _ => rfl) (by first | omega | decide) ?_
      | refine AL.idxMI tok rfl rfl rfl rfl rfl rfl (fun _ => rfl) (by omega) (by omega) ?_
      | refine AL.v rfl rfl (VOp.cutS tok rfl rfl rfl rfl (by omega) (by omega)) ?_
      | refine AL.v rfl rfl (VOp.cutSF tok rfl rfl rfl (by omega)) ?_
      | refine AL.v rfl rfl (VOp.cutST tok rfl rfl rfl (by omega)) ?_
      | refine AL.v rfl rfl (VOp.joinS rfl rfl (by omega)) ?_
      | refine AL.idxON tok rfl rfl rfl rfl rfl rfl rfl rfl (by first | omega | (simp; omega) | (simp; done) | decide) ?_
      | refine AL.loadRM tok rfl rfl rfl rfl (by first | omega | (simp; omega)) rfl ?_
      | refine AL.loadR tok rfl rfl rfl rfl rfl rfl ?_
      | refine AL.sidxN tok rfl rfl rfl rfl rfl (by omega) ?_
      | refine AL.sidx tok rfl rfl rfl rfl rfl (by omega) (by omega) ?_
      | refine AL.range tok rfl rfl rfl rfl ?_
      | refine AW.block ?_
      | refine AW.exit ?_
      | refine AW.skip ?_)
    simp only [List.length_map]
    repeat' (first
      | refine AL.do tok rfl rfl ?_
      | refine AL.nil ?_
      | refine AW.seq fun K hK => ?_
      | refine AW.region ?_
      | refine AL.no rfl rfl ?_
      | (refine hK _ ?_; clear hK)
      | (clear hK; refine hK _ ?_; clear hK)
      | (clear hK; clear hK; refine hK _ ?_; clear hK)
      | refine AL.add rfl rfl rfl rfl (by constructor <;> omega) ?_
      | refine AL.sub rfl rfl rfl rfl (by constructor <;> omega) ?_
      | refine AL.neg rfl rfl rfl (by constructor <;> omega) ?_
      | refine AL.eq tok rfl rfl rfl rfl rfl (by kernel_rfl) ?_
      | refine AL.neq tok rfl rfl rfl rfl rfl (by kernel_rfl) ?_
      | refine AL.max rfl rfl rfl rfl ?_
      | refine AL.buildSlice tok rfl rfl rfl rfl rfl rfl rfl rfl ?_
      | refine AL.min rfl rfl rfl rfl ?_
      | refine AL.idxM tok rfl rfl rfl rfl rfl rfl (fun _ => rfl) (by first | omega | decide) ?_
      | refine AL.idxMI tok rfl rfl rfl rfl rfl rfl (fun _ => rfl) (by omega) (by omega) ?_
      | refine AL.v rfl rfl (VOp.cutS tok rfl rfl rfl rfl (by omega) (by omega)) ?_
      | refine AL.v rfl rfl (VOp.cutSF tok rfl rfl rfl (by omega)) ?_
      | refine AL.v rfl rfl (VOp.cutST tok rfl rfl rfl (by omega)) ?_
      | refine AL.v rfl rfl (VOp.joinS rfl rfl (by omega)) ?_
      | refine AL.idxON tok rfl rfl rfl rfl rfl rfl rfl rfl (by first | omega | (simp; omega) | (simp; done) | decide) ?_
      | refine AL.loadRM tok rfl rfl rfl rfl (by first | omega | (simp; omega)) rfl ?_
      | refine AL.loadR tok rfl rfl rfl rfl rfl rfl ?_
      | refine AL.sidxN tok rfl rfl rfl rfl rfl (by omega) ?_
      | refine AL.sidx tok rfl rfl rfl rfl rfl (by omega) (by omega) ?_
      | refine AL.range tok rfl rfl rfl rfl ?_
      | refine AW.block ?_
      | refine AW.exit ?_
      | refine AW.skip ?_
      | ((fail_if_success (refine AL.guard (b := true) rfl rfl ?_ ?_)); (fail_if_success (refine AL.guard (b := false) rfl rfl ?_ ?_)); refine AL.guard rfl rfl (fun hg => ?_) (fun hg => ?_) <;> ((try simp only [decide_eq_true_eq, decide_eq_false_iff_not, Bool.not_eq_true', Bool.not_eq_false', Bool.and_eq_true, Bool.or_eq_true, Bool.and_eq_false_iff, Bool.or_eq_false_iff, Bool.false_eq_true, Bool.true_eq_false, not_true_eq_false, not_false_eq_true, true_iff, iff_true, false_iff, iff_false, Int.toNat_zero, Int.toNat_natCast, Int.not_lt, Int.not_le] at hg) <;> (try first | (exfalso; omega) | exact absurd trivial hg | exact False.elim hg | exact absurd rfl hg)))
      | refine AW.condT rfl ?_
      | refine AW.condF rfl ?_
      | (refine AW.cond rfl (fun hg => ?_) (fun hg => ?_) <;> ((try simp only [decide_eq_true_eq, decide_eq_false_iff_not, Bool.not_eq_true', Bool.not_eq_false', Bool.and_eq_true, Bool.or_eq_true, Bool.and_eq_false_iff, Bool.or_eq_false_iff, Bool.false_eq_true, Bool.true_eq_false, not_true_eq_false, not_false_eq_true, true_iff, iff_true, false_iff, iff_false, Int.toNat_zero, Int.toNat_natCast, Int.not_lt, Int.not_le] at hg) <;> (try first | (exfalso; omega) | exact absurd trivial hg | exact False.elim hg | exact absurd rfl hg)))
      | refine AW.ret ?_)
    simp only [List.length_map]
    refine AW.loop (ι := Nat) (fun i => ⟨31, [(11, i64 i), (10, i64 l.length), (9, rowC l), (0, rowC l)], [], [], 0⟩)
      (fun i => i ≤ l.length ∧ checkL (l.take i) (l.drop i) = checkS l) (fun i => l.length - i) 0 (And.intro (Nat.zero_le _) (by simp [checkS, h32])) ?_ ?_
    · (refine Imp.weak id (fun _ _ _ _ h => h) (by first | assumption | (intro b hb; cases hb)) ?_ ?_ <;> (repeat' (first
      | exact trivial
      | exact Nat.lt_of_lt_of_le (Nat.lt_succ_self _) (Nat.le_of_ble_eq_true rfl)
      | exact rfl
      | exact Or.inl ⟨rfl, rfl⟩
      | exact Or.inr ⟨rfl, LF.fn _ _ ‹_›⟩
      | refine ⟨?_, ?_⟩)))
    rintro i ⟨hi, hf⟩ K1 hK1
    by_cases hlt : i < l.length
    · rw [checkL_lt hlt] at hf
      repeat (first
      | refine AL.do tok rfl rfl ?_
      | refine AL.nil ?_
      | refine AW.seq fun K hK => ?_
      | refine AW.region ?_
      | refine AL.no rfl rfl ?_
      | (refine hK _ ?_; clear hK)
      | (clear hK; refine hK _ ?_; clear hK)
      | (clear hK; clear hK; refine hK _ ?_; clear hK)
      | refine AL.add rfl rfl rfl rfl (by constructor <;> omega) ?_
      | refine AL.sub rfl rfl rfl rfl (by constructor <;> omega) ?_
      | refine AL.neg rfl rfl rfl (by constructor <;> omega) ?_
      | refine AL.eq tok rfl rfl rfl rfl rfl (by kernel_rfl) ?_
      | refine AL.neq tok rfl rfl rfl rfl rfl (by kernel_rfl) ?_
      | refine AL.max rfl rfl rfl rfl ?_
      | refine AL.buildSlice tok rfl rfl rfl rfl rfl rfl rfl rfl ?_
      | refine AL.min rfl rfl rfl rfl ?_
      | refine AL.idxM tok rfl rfl rfl rfl rfl rfl (fun _ => rfl) (by first | omega | decide) ?_
      | refine AL.idxMI tok rfl rfl rfl rfl rfl rfl (fun _ => rfl) (by omega) (by omega) ?_
      | refine AL.v rfl rfl (VOp.cutS tok rfl rfl rfl rfl (by omega) (by omega)) ?_
      | refine AL.v rfl rfl (VOp.cutSF tok rfl rfl rfl (by omega)) ?_
      | refine AL.v rfl rfl (VOp.cutST tok rfl rfl rfl (by omega)) ?_
      | refine AL.v rfl rfl (VOp.joinS rfl rfl (by omega)) ?_
      | refine AL.idxON tok rfl rfl rfl rfl rfl rfl rfl rfl (by first | omega | (simp; omega) | (simp; done) | decide) ?_
      | refine AL.loadRM tok rfl rfl rfl rfl (by first | omega | (simp; omega)) rfl ?_
      | refine AL.loadR tok rfl rfl rfl rfl rfl rfl ?_
      | refine AL.sidxN tok rfl rfl rfl rfl rfl (by omega) ?_
      | refine AL.sidx tok rfl rfl rfl rfl rfl (by omega) (by omega) ?_
      | refine AL.range tok rfl rfl rfl rfl ?_
      | refine AW.block ?_
      | refine AW.exit ?_
      | refine AW.skip ?_)
      refine AW.cond rfl (fun hg => ?_) (fun hg => by simp at hg; omega)
      repeat (first
      | refine AL.do tok rfl rfl ?_
      | refine AL.nil ?_
      | refine AW.seq fun K hK => ?_
      | refine AW.region ?_
      | refine AL.no rfl rfl ?_
      | (refine hK _ ?_; clear hK)
      | (clear hK; refine hK _ ?_; clear hK)
      | (clear hK; clear hK; refine hK _ ?_; clear hK)
      | refine AL.add rfl rfl rfl rfl (by constructor <;> omega) ?_
      | refine AL.sub rfl rfl rfl rfl (by constructor <;> omega) ?_
      | refine AL.neg rfl rfl rfl (by constructor <;> omega) ?_
      | refine AL.eq tok rfl rfl rfl rfl rfl (by kernel_rfl) ?_
      | refine AL.neq tok rfl rfl rfl rfl rfl (by kernel_rfl) ?_
      | refine AL.max rfl rfl rfl rfl ?_
      | refine AL.buildSlice tok rfl rfl rfl rfl rfl rfl rfl rfl ?_
      | refine AL.min rfl rfl rfl rfl ?_
      | refine AL.idxM tok rfl rfl rfl rfl rfl rfl (fun _ => rfl) (by first | omega | decide) ?_
      | refine AL.idxMI tok rfl rfl rfl rfl rfl rfl (fun _ => rfl) (by omega) (by omega) ?_
      | refine AL.v rfl rfl (VOp.cutS tok rfl rfl rfl rfl (by omega) (by omega)) ?_
      | refine AL.v rfl rfl (VOp.cutSF tok rfl rfl rfl (by omega)) ?_
      | refine AL.v rfl rfl (VOp.cutST tok rfl rfl rfl (by omega)) ?_
      | refine AL.v rfl rfl (VOp.joinS rfl rfl (by omega)) ?_
      | refine AL.idxON tok rfl rfl rfl rfl rfl rfl rfl rfl (by first | omega | (simp; omega) | (simp; done) | decide) ?_
      | refine AL.loadRM tok rfl rfl rfl rfl (by first | omega | (simp; omega)) rfl ?_
      | refine AL.loadR tok rfl rfl rfl rfl rfl rfl ?_
      | refine AL.sidxN tok rfl rfl rfl rfl rfl (by omega) ?_
      | refine AL.sidx tok rfl rfl rfl rfl rfl (by omega) (by omega) ?_
      | refine AL.range tok rfl rfl rfl rfl ?_
      | refine AW.block ?_
      | refine AW.exit ?_
      | refine AW.skip ?_)
      have hv : ∀ e, validS l[i] = e → oneS (l.take i) l[i] = if e = 0 then (if 0 ≤ findS (l.take i) l[i].conn l[i].tag then 7 else 0) else e := fun e he => by subst he; rfl
      repeat' (first
      | refine AL.do tok rfl rfl ?_
      | refine AL.nil ?_
      | refine AW.seq fun K hK => ?_
      | refine AW.region ?_
      | refine AL.no rfl rfl ?_
      | (refine hK _ ?_; clear hK)
      | (clear hK; refine hK _ ?_; clear hK)
      | (clear hK; clear hK; refine hK _ ?_; clear hK)
      | refine AL.add rfl rfl rfl rfl (by constructor <;> omega) ?_
      | refine AL.sub rfl rfl rfl rfl (by constructor <;> omega) ?_
      | refine AL.neg rfl rfl rfl (by constructor <;> omega) ?_
      | refine AL.eq tok rfl rfl rfl rfl rfl (by kernel_rfl) ?_
      | refine AL.neq tok rfl rfl rfl rfl rfl (by kernel_rfl) ?_
      | refine AL.max rfl rfl rfl rfl ?_
      | refine AL.buildSlice tok rfl rfl rfl rfl rfl rfl rfl rfl ?_
      | refine AL.min rfl rfl rfl rfl ?_
      | refine AL.idxM tok rfl rfl rfl rfl rfl rfl (fun _ => rfl) (by first | omega | decide) ?_
      | refine AL.idxMI tok rfl rfl rfl rfl rfl rfl (fun _ => rfl) (by omega) (by omega) ?_
      | refine AL.v rfl rfl (VOp.cutS tok rfl rfl rfl rfl (by omega) (by omega)) ?_
      | refine AL.v rfl rfl (VOp.cutSF tok rfl rfl rfl (by omega)) ?_
      | refine AL.v rfl rfl (VOp.cutST tok rfl rfl rfl (by omega)) ?_
      | refine AL.v rfl rfl (VOp.joinS rfl rfl (by omega)) ?_
      | refine AL.idxON tok rfl rfl rfl rfl rfl rfl rfl rfl (by first | omega | (simp; omega) | (simp; done) | decide) ?_
      | refine AL.loadRM tok rfl rfl rfl rfl (by first | omega | (simp; omega)) rfl ?_
      | refine AL.loadR tok rfl rfl rfl rfl rfl rfl ?_
      | refine AL.sidxN tok rfl rfl rfl rfl rfl (by omega) ?_
      | refine AL.sidx tok rfl rfl rfl rfl rfl (by omega) (by omega) ?_
      | refine AL.range tok rfl rfl rfl rfl ?_
      | refine AW.block ?_
      | refine AW.exit ?_
      | refine AW.skip ?_
      | refine AL.callS rfl rfl rfl rfl rfl rfl (valid_calls ..) rfl ?_
      | refine AL.callP rfl rfl rfl rfl rfl (valid_calls ..) ?_
      | ((fail_if_success (refine AL.guard (b := true) rfl rfl ?_ ?_)); (fail_if_success (refine AL.guard (b := false) rfl rfl ?_ ?_)); refine AL.guard rfl rfl (fun hg => ?_) (fun hg => ?_) <;> ((try simp only [decide_eq_true_eq, decide_eq_false_iff_not, Bool.not_eq_true', Bool.not_eq_false', Bool.and_eq_true, Bool.or_eq_true, Bool.and_eq_false_iff, Bool.or_eq_false_iff, Bool.false_eq_true, Bool.true_eq_false, not_true_eq_false, not_false_eq_true, true_iff, iff_true, false_iff, iff_false, Int.toNat_zero, Int.toNat_natCast, Int.not_lt, Int.not_le] at hg) <;> (try first | (exfalso; omega) | exact absurd trivial hg | exact False.elim hg | exact absurd rfl hg)))
      | refine AW.condT rfl ?_
      | refine AW.condF rfl ?_
      | (refine AW.cond rfl (fun hg => ?_) (fun hg => ?_) <;> ((try simp only [decide_eq_true_eq, decide_eq_false_iff_not, Bool.not_eq_true', Bool.not_eq_false', Bool.and_eq_true, Bool.or_eq_true, Bool.and_eq_false_iff, Bool.or_eq_false_iff, Bool.false_eq_true, Bool.true_eq_false, not_true_eq_false, not_false_eq_true, true_iff, iff_true, false_iff, iff_false, Int.toNat_zero, Int.toNat_natCast, Int.not_lt, Int.not_le] at hg) <;> (try first | (exfalso; omega) | exact absurd trivial hg | exact False.elim hg | exact absurd rfl hg)))
      | refine AW.ret ?_)
      · refine ⟨_, _, _, _, rfl, Out.pure rfl ⟨?_, rfl⟩ rfl⟩
        rw [← hf]
        simp [hv _ rfl, hg]
      refine AW.drawn mix (by kernel_rfl) ?_
      repeat (first
      | refine AQ.do tok rfl rfl rfl ?_
      | refine AQ.no rfl rfl ?_
      | refine AQ.v rfl (VOp.add rfl rfl (by constructor <;> omega)) rfl ?_
      | refine AQ.v rfl (VOp.sub rfl rfl (by constructor <;> omega)) rfl ?_
      | refine AQ.v rfl (VOp.eq tok rfl rfl rfl (by kernel_rfl)) rfl ?_
      | refine AQ.v rfl (VOp.neq tok rfl rfl rfl (by kernel_rfl)) rfl ?_
      | refine AQ.v rfl (VOp.idxM tok rfl rfl rfl rfl (fun _ => rfl) (by omega)) rfl ?_
      | refine AQ.v rfl (VOp.idxMI tok rfl rfl rfl rfl (fun _ => rfl) (by omega) (by omega)) rfl ?_
      | refine AQ.v rfl (VOp.cutTo tok rfl rfl rfl (fun _ => rfl) rfl (by omega)) rfl ?_
      | refine AQ.v rfl (VOp.cutFrom tok rfl rfl rfl (fun _ => rfl) rfl (by omega)) rfl ?_
      | refine AQ.nil ?_)
      repeat (first
      | refine AQ.do tok rfl rfl rfl ?_
      | refine AQ.no rfl rfl ?_
      | refine AQ.v rfl (VOp.add rfl rfl (by constructor <;> omega)) rfl ?_
      | refine AQ.v rfl (VOp.sub rfl rfl (by constructor <;> omega)) rfl ?_
      | refine AQ.v rfl (VOp.eq tok rfl rfl rfl (by kernel_rfl)) rfl ?_
      | refine AQ.v rfl (VOp.neq tok rfl rfl rfl (by kernel_rfl)) rfl ?_
      | refine AQ.v rfl (VOp.idxM tok rfl rfl rfl rfl (fun _ => rfl) (by omega)) rfl ?_
      | refine AQ.v rfl (VOp.idxMI tok rfl rfl rfl rfl (fun _ => rfl) (by omega) (by omega)) rfl ?_
      | refine AQ.v rfl (VOp.cutTo tok rfl rfl rfl (fun _ => rfl) rfl (by omega)) rfl ?_
      | refine AQ.v rfl (VOp.cutFrom tok rfl rfl rfl (fun _ => rfl) rfl (by omega)) rfl ?_
      | refine AQ.nil ?_
      | refine AQ.callB rfl rfl rfl rfl rfl rfl (find_calls ..) rfl ?_)
      repeat' (first
      | refine AL.do tok rfl rfl ?_
      | refine AL.nil ?_
      | refine AW.seq fun K hK => ?_
      | refine AW.region ?_
      | refine AL.no rfl rfl ?_
      | (refine hK _ ?_; clear hK)
      | (clear hK; refine hK _ ?_; clear hK)
      | (clear hK; clear hK; refine hK _ ?_; clear hK)
      | refine AL.add rfl rfl rfl rfl (by constructor <;> omega) ?_
      | refine AL.sub rfl rfl rfl rfl (by constructor <;> omega) ?_
      | refine AL.neg rfl rfl rfl (by constructor <;> omega) ?_
      | refine AL.eq tok rfl rfl rfl rfl rfl (by kernel_rfl) ?_
      | refine AL.neq tok rfl rfl rfl rfl rfl (by kernel_rfl) ?_
      | refine AL.max rfl rfl rfl rfl ?_
      | refine AL.buildSlice tok rfl rfl rfl rfl rfl rfl rfl rfl ?_
      | refine AL.min rfl rfl rfl rfl ?_
      | refine AL.idxM tok rfl rfl rfl rfl rfl rfl (fun _ => rfl) (by first | omega | decide) ?_
      | refine AL.idxMI tok rfl rfl rfl rfl rfl rfl (fun _ => rfl) (by omega) (by omega) ?_
      | refine AL.v rfl rfl (VOp.cutS tok rfl rfl rfl rfl (by omega) (by omega)) ?_
      | refine AL.v rfl rfl (VOp.cutSF tok rfl rfl rfl (by omega)) ?_
      | refine AL.v rfl rfl (VOp.cutST tok rfl rfl rfl (by omega)) ?_
      | refine AL.v rfl rfl (VOp.joinS rfl rfl (by omega)) ?_
      | refine AL.idxON tok rfl rfl rfl rfl rfl rfl rfl rfl (by first | omega | (simp; omega) | (simp; done) | decide) ?_
      | refine AL.loadRM tok rfl rfl rfl rfl (by first | omega | (simp; omega)) rfl ?_
      | refine AL.loadR tok rfl rfl rfl rfl rfl rfl ?_
      | refine AL.sidxN tok rfl rfl rfl rfl rfl (by omega) ?_
      | refine AL.sidx tok rfl rfl rfl rfl rfl (by omega) (by omega) ?_
      | refine AL.range tok rfl rfl rfl rfl ?_
      | refine AW.block ?_
      | refine AW.exit ?_
      | refine AW.skip ?_
      | ((fail_if_success (refine AL.guard (b := true) rfl rfl ?_ ?_)); (fail_if_success (refine AL.guard (b := false) rfl rfl ?_ ?_)); refine AL.guard rfl rfl (fun hg => ?_) (fun hg => ?_) <;> ((try simp only [decide_eq_true_eq, decide_eq_false_iff_not, Bool.not_eq_true', Bool.not_eq_false', Bool.and_eq_true, Bool.or_eq_true, Bool.and_eq_false_iff, Bool.or_eq_false_iff, Bool.false_eq_true, Bool.true_eq_false, not_true_eq_false, not_false_eq_true, true_iff, iff_true, false_iff, iff_false, Int.toNat_zero, Int.toNat_natCast, Int.not_lt, Int.not_le] at hg) <;> (try first | (exfalso; omega) | exact absurd trivial hg | exact False.elim hg | exact absurd rfl hg)))
      | refine AW.condT rfl ?_
      | refine AW.condF rfl ?_
      | (refine AW.cond rfl (fun hg => ?_) (fun hg => ?_) <;> ((try simp only [decide_eq_true_eq, decide_eq_false_iff_not, Bool.not_eq_true', Bool.not_eq_false', Bool.and_eq_true, Bool.or_eq_true, Bool.and_eq_false_iff, Bool.or_eq_false_iff, Bool.false_eq_true, Bool.true_eq_false, not_true_eq_false, not_false_eq_true, true_iff, iff_true, false_iff, iff_false, Int.toNat_zero, Int.toNat_natCast, Int.not_lt, Int.not_le] at hg) <;> (try first | (exfalso; omega) | exact absurd trivial hg | exact False.elim hg | exact absurd rfl hg)))
      | refine AW.ret ?_)
      all_goals first
        | (refine ⟨_, _, _, _, rfl, Out.pure rfl ⟨?_, rfl⟩ rfl⟩; rw [← hf]; simp [hv _ rfl, *]; done)
        | (simp [hv _ rfl, *] at hf
           refine hK1 _ (i + 1) (And.intro (by omega) hf) (by omega) ?_
           (refine Imp.weak id (fun _ _ _ _ h => h) (by first | assumption | (intro b hb; cases hb)) ?_ ?_ <;> (repeat' (first
      | exact trivial
      | exact Nat.lt_of_lt_of_le (Nat.lt_succ_self _) (Nat.le_of_ble_eq_true rfl)
      | exact rfl
      | exact Or.inl ⟨rfl, rfl⟩
      | exact Or.inr ⟨rfl, LF.fn _ _ ‹_›⟩
      | refine ⟨?_, ?_⟩))))
    · repeat (first
      | refine AL.do tok rfl rfl ?_
      | refine AL.nil ?_
      | refine AW.seq fun K hK => ?_
      | refine AW.region ?_
      | refine AL.no rfl rfl ?_
      | (refine hK _ ?_; clear hK)
      | (clear hK; refine hK _ ?_; clear hK)
      | (clear hK; clear hK; refine hK _ ?_; clear hK)
      | refine AL.add rfl rfl rfl rfl (by constructor <;> omega) ?_
      | refine AL.sub rfl rfl rfl rfl (by constructor <;> omega) ?_
      | refine AL.neg rfl rfl rfl (by constructor <;> omega) ?_
      | refine AL.eq tok rfl rfl rfl rfl rfl (by kernel_rfl) ?_
      | refine AL.neq tok rfl rfl rfl rfl rfl (by kernel_rfl) ?_
      | refine AL.max rfl rfl rfl rfl ?_
      | refine AL.buildSlice tok rfl rfl rfl rfl rfl rfl rfl rfl ?_
      | refine AL.min rfl rfl rfl rfl ?_
      | refine AL.idxM tok rfl rfl rfl rfl rfl rfl (fun _ => rfl) (by first | omega | decide) ?_
      | refine AL.idxMI tok rfl rfl rfl rfl rfl rfl (fun _ => rfl) (by omega) (by omega) ?_
      | refine AL.v rfl rfl (VOp.cutS tok rfl rfl rfl rfl (by omega) (by omega)) ?_
      | refine AL.v rfl rfl (VOp.cutSF tok rfl rfl rfl (by omega)) ?_
      | refine AL.v rfl rfl (VOp.cutST tok rfl rfl rfl (by omega)) ?_
      | refine AL.v rfl rfl (VOp.joinS rfl rfl (by omega)) ?_
      | refine AL.idxON tok rfl rfl rfl rfl rfl rfl rfl rfl (by first | omega | (simp; omega) | (simp; done) | decide) ?_
      | refine AL.loadRM tok rfl rfl rfl rfl (by first | omega | (simp; omega)) rfl ?_
      | refine AL.loadR tok rfl rfl rfl rfl rfl rfl ?_
      | refine AL.sidxN tok rfl rfl rfl rfl rfl (by omega) ?_
      | refine AL.sidx tok rfl rfl rfl rfl rfl (by omega) (by omega) ?_
      | refine AL.range tok rfl rfl rfl rfl ?_
      | refine AW.block ?_
      | refine AW.exit ?_
      | refine AW.skip ?_)
      refine AW.cond rfl (fun hg => by simp at hg; omega) (fun hg => ?_)
      repeat (first
      | refine AL.do tok rfl rfl ?_
      | refine AL.nil ?_
      | refine AW.seq fun K hK => ?_
      | refine AW.region ?_
      | refine AL.no rfl rfl ?_
      | (refine hK _ ?_; clear hK)
      | (clear hK; refine hK _ ?_; clear hK)
      | (clear hK; clear hK; refine hK _ ?_; clear hK)
      | refine AL.add rfl rfl rfl rfl (by constructor <;> omega) ?_
      | refine AL.sub rfl rfl rfl rfl (by constructor <;> omega) ?_
      | refine AL.neg rfl rfl rfl (by constructor <;> omega) ?_
      | refine AL.eq tok rfl rfl rfl rfl rfl (by kernel_rfl) ?_
      | refine AL.neq tok rfl rfl rfl rfl rfl (by kernel_rfl) ?_
      | refine AL.max rfl rfl rfl rfl ?_
      | refine AL.buildSlice tok rfl rfl rfl rfl rfl rfl rfl rfl ?_
      | refine AL.min rfl rfl rfl rfl ?_
      | refine AL.idxM tok rfl rfl rfl rfl rfl rfl (fun _ => rfl) (by first | omega | decide) ?_
      | refine AL.idxMI tok rfl rfl rfl rfl rfl rfl (fun _ => rfl) (by omega) (by omega) ?_
      | refine AL.v rfl rfl (VOp.cutS tok rfl rfl rfl rfl (by omega) (by omega)) ?_
      | refine AL.v rfl rfl (VOp.cutSF tok rfl rfl rfl (by omega)) ?_
      | refine AL.v rfl rfl (VOp.cutST tok rfl rfl rfl (by omega)) ?_
      | refine AL.v rfl rfl (VOp.joinS rfl rfl (by omega)) ?_
      | refine AL.idxON tok rfl rfl rfl rfl rfl rfl rfl rfl (by first | omega | (simp; omega) | (simp; done) | decide) ?_
      | refine AL.loadRM tok rfl rfl rfl rfl (by first | omega | (simp; omega)) rfl ?_
      | refine AL.loadR tok rfl rfl rfl rfl rfl rfl ?_
      | refine AL.sidxN tok rfl rfl rfl rfl rfl (by omega) ?_
      | refine AL.sidx tok rfl rfl rfl rfl rfl (by omega) (by omega) ?_
      | refine AL.range tok rfl rfl rfl rfl ?_
      | refine AW.block ?_
      | refine AW.exit ?_
      | refine AW.skip ?_)
      refine AW.ret ?_
      refine ⟨_, _, _, _, rfl, Out.pure rfl ⟨?_, rfl⟩ rfl⟩
      rw [← hf, List.drop_eq_nil_of_le (by omega)]
      rfl
end Go.Proofs.Try
