/- fair: a consumer by itself, a list of them: the layer's tests and the reference's. -/
import Derived.Test.YtpohebmofcdeiaaFairA
import Derived.Test.YtpohebmofcdeiaaName2
set_option linter.unusedSimpArgs false
set_option linter.unusedVariables false
namespace Go.Proofs.Try
open Go Go.AM

def inB (n : Int) : Bool := decide (0 ≤ n) && decide (n ≤ 1099511627776)
set_option maxRecDepth 10000 in
theorem count_calls (n : Int) : ACallP Try.prog 33 [i64 n] (bo (inB n)) := by
  refine ACalls.body tok Try.func33 rfl (by kernel_rfl) (by rw [Try.ntmps33]; simp) ?_
  simp only [Try.ntmps33, Try.results33, argT]
  repeat' (first
      | refine AL.do tok rfl rfl ?_
      | refine AL.nil ?_
      | refine AW.seq fun K hK => ?_
      | refine AW.region ?_
      | refine AL.no rfl rfl ?_
      | (refine hK _ ?_; clear hK)
      | (clear hK; refine hK _ ?_; clear hK)
      | (clear hK; clear hK; refine hK _ ?_; clear hK)
      | refine AL.add rfl rfl rfl rfl (by constructor <;> omega) ?_
      | refine AL.sub rfl rfl rfl rfl (by constructor <;> omega) ?_
      | refine AL.neg rfl rfl rfl (by constructor <;> omega) ?_
      | refine AL.eq tok rfl rfl rfl rfl rfl (by kernel_rfl) ?_
      | refine AL.neq tok rfl rfl rfl rfl rfl (by kernel_rfl) ?_
      | refine AL.max rfl rfl rfl rfl ?_
      | refine AL.buildSlice tok rfl rfl rfl rfl rfl rfl rfl rfl ?_
      | refine AL.min rfl rfl rfl rfl ?_
      | refine AL.idxM tok rfl rfl rfl rfl rfl rfl (fun _ => rfl) (by first | omega | decide) ?_
      | refine AL.idxMI tok rfl rfl rfl rfl rfl rfl (fun _ => rfl) (by omega) (by omega) ?_
      | refine AL.v rfl rfl (VOp.cutS tok rfl rfl rfl rfl (by omega) (by omega)) ?_
      | refine AL.v rfl rfl (VOp.cutSF tok rfl rfl rfl (by omega)) ?_
      | refine AL.v rfl rfl (VOp.cutST tok rfl rfl rfl (by omega)) ?_
      | refine AL.v rfl rfl (VOp.joinS rfl rfl (by omega)) ?_
      | refine AL.idxON tok rfl rfl rfl rfl rfl rfl rfl rfl (by first | omega | (simp; omega) | (simp; done) | decide) ?_
      | refine AL.loadRM tok rfl rfl rfl rfl (by first | omega | (simp; omega)) rfl ?_
      | refine AL.loadR tok rfl rfl rfl rfl rfl rfl ?_
      | refine AL.sidxN tok rfl rfl rfl rfl rfl (by omega) ?_
      | refine AL.sidx tok rfl rfl rfl rfl rfl (by omega) (by omega) ?_
      | refine AL.range tok rfl rfl rfl rfl ?_
      | refine AW.block ?_
      | refine AW.exit ?_
      | refine AW.skip ?_
      | ((fail_if_success (refine AL.guard (b := true) rfl rfl ?_ ?_)); (fail_if_success (refine AL.guard (b := false) rfl rfl ?_ ?_)); refine AL.guard rfl rfl (fun hg => ?_) (fun hg => ?_) <;> ((try simp only [decide_eq_true_eq, decide_eq_false_iff_not, Bool.not_eq_true', Bool.not_eq_false', Bool.and_eq_true, Bool.or_eq_true, Bool.and_eq_false_iff, Bool.or_eq_false_iff, Bool.false_eq_true, Bool.true_eq_false, not_true_eq_false, not_false_eq_true, true_iff, iff_true, false_iff, iff_false, Int.toNat_zero, Int.toNat_natCast, Int.not_lt, Int.not_le] at hg) <;> (try first | (exfalso; omega) | exact absurd trivial hg | exact False.elim hg | exact absurd rfl hg)))
      | refine AW.condT rfl ?_
      | refine AW.condF rfl ?_
      | (refine AW.cond rfl (fun hg => ?_) (fun hg => ?_) <;> ((try simp only [decide_eq_true_eq, decide_eq_false_iff_not, Bool.not_eq_true', Bool.not_eq_false', Bool.and_eq_true, Bool.or_eq_true, Bool.and_eq_false_iff, Bool.or_eq_false_iff, Bool.false_eq_true, Bool.true_eq_false, not_true_eq_false, not_false_eq_true, true_iff, iff_true, false_iff, iff_false, Int.toNat_zero, Int.toNat_natCast, Int.not_lt, Int.not_le] at hg) <;> (try first | (exfalso; omega) | exact absurd trivial hg | exact False.elim hg | exact absurd rfl hg)))
      | refine AW.ret ?_)
  all_goals (refine ⟨_, _, _, _, rfl, Out.pure rfl ⟨?_, rfl⟩ rfl⟩; unfold inB; (refine bo_iff ?_; (try simp only [decide_eq_true_eq, decide_eq_false_iff_not, Bool.not_eq_true', Bool.not_eq_false', Bool.and_eq_true, Bool.or_eq_true, Bool.and_eq_false_iff, Bool.or_eq_false_iff, Bool.false_eq_true, Bool.true_eq_false, not_true_eq_false, not_false_eq_true, true_iff, iff_true, false_iff, iff_false, Int.toNat_zero, Int.toNat_natCast, Int.not_lt, Int.not_le]); omega))
set_option maxRecDepth 10000 in
theorem in_calls (n : Int) : ACallP Try.prog 36 [i64 n] (bo (inB n)) := by
  refine ACalls.body tok Try.func36 rfl (by kernel_rfl) (by rw [Try.ntmps36]; simp) ?_
  simp only [Try.ntmps36, Try.results36, argT]
  repeat' (first
      | refine AL.do tok rfl rfl ?_
      | refine AL.nil ?_
      | refine AW.seq fun K hK => ?_
      | refine AW.region ?_
      | refine AL.no rfl rfl ?_
      | (refine hK _ ?_; clear hK)
      | (clear hK; refine hK _ ?_; clear hK)
      | (clear hK; clear hK; refine hK _ ?_; clear hK)
      | refine AL.add rfl rfl rfl rfl (by constructor <;> omega) ?_
      | refine AL.sub rfl rfl rfl rfl (by constructor <;> omega) ?_
      | refine AL.neg rfl rfl rfl (by constructor <;> omega) ?_
      | refine AL.eq tok rfl rfl rfl rfl rfl (by kernel_rfl) ?_
      | refine AL.neq tok rfl rfl rfl rfl rfl (by kernel_rfl) ?_
      | refine AL.max rfl rfl rfl rfl ?_
      | refine AL.buildSlice tok rfl rfl rfl rfl rfl rfl rfl rfl ?_
      | refine AL.min rfl rfl rfl rfl ?_
      | refine AL.idxM tok rfl rfl rfl rfl rfl rfl (fun _ => rfl) (by first | omega | decide) ?_
      | refine AL.idxMI tok rfl rfl rfl rfl rfl rfl (fun _ => rfl) (by omega) (by omega) ?_
      | refine AL.v rfl rfl (VOp.cutS tok rfl rfl rfl rfl (by omega) (by omega)) ?_
      | refine AL.v rfl rfl (VOp.cutSF tok rfl rfl rfl (by omega)) ?_
      | refine AL.v rfl rfl (VOp.cutST tok rfl rfl rfl (by omega)) ?_
      | refine AL.v rfl rfl (VOp.joinS rfl rfl (by omega)) ?_
      | refine AL.idxON tok rfl rfl rfl rfl rfl rfl rfl rfl (by first | omega | (simp; omega) | (simp; done) | decide) ?_
      | refine AL.loadRM tok rfl rfl rfl rfl (by first | omega | (simp; omega)) rfl ?_
      | refine AL.loadR tok rfl rfl rfl rfl rfl rfl ?_
      | refine AL.sidxN tok rfl rfl rfl rfl rfl (by omega) ?_
      | refine AL.sidx tok rfl rfl rfl rfl rfl (by omega) (by omega) ?_
      | refine AL.range tok rfl rfl rfl rfl ?_
      | refine AW.block ?_
      | refine AW.exit ?_
      | refine AW.skip ?_
      | ((fail_if_success (refine AL.guard (b := true) rfl rfl ?_ ?_)); (fail_if_success (refine AL.guard (b := false) rfl rfl ?_ ?_)); refine AL.guard rfl rfl (fun hg => ?_) (fun hg => ?_) <;> ((try simp only [decide_eq_true_eq, decide_eq_false_iff_not, Bool.not_eq_true', Bool.not_eq_false', Bool.and_eq_true, Bool.or_eq_true, Bool.and_eq_false_iff, Bool.or_eq_false_iff, Bool.false_eq_true, Bool.true_eq_false, not_true_eq_false, not_false_eq_true, true_iff, iff_true, false_iff, iff_false, Int.toNat_zero, Int.toNat_natCast, Int.not_lt, Int.not_le] at hg) <;> (try first | (exfalso; omega) | exact absurd trivial hg | exact False.elim hg | exact absurd rfl hg)))
      | refine AW.condT rfl ?_
      | refine AW.condF rfl ?_
      | (refine AW.cond rfl (fun hg => ?_) (fun hg => ?_) <;> ((try simp only [decide_eq_true_eq, decide_eq_false_iff_not, Bool.not_eq_true', Bool.not_eq_false', Bool.and_eq_true, Bool.or_eq_true, Bool.and_eq_false_iff, Bool.or_eq_false_iff, Bool.false_eq_true, Bool.true_eq_false, not_true_eq_false, not_false_eq_true, true_iff, iff_true, false_iff, iff_false, Int.toNat_zero, Int.toNat_natCast, Int.not_lt, Int.not_le] at hg) <;> (try first | (exfalso; omega) | exact absurd trivial hg | exact False.elim hg | exact absurd rfl hg)))
      | refine AW.ret ?_)
  all_goals (refine ⟨_, _, _, _, rfl, Out.pure rfl ⟨?_, rfl⟩ rfl⟩; unfold inB; (refine bo_iff ?_; (try simp only [decide_eq_true_eq, decide_eq_false_iff_not, Bool.not_eq_true', Bool.not_eq_false', Bool.and_eq_true, Bool.or_eq_true, Bool.and_eq_false_iff, Bool.or_eq_false_iff, Bool.false_eq_true, Bool.true_eq_false, not_true_eq_false, not_false_eq_true, true_iff, iff_true, false_iff, iff_false, Int.toNat_zero, Int.toNat_natCast, Int.not_lt, Int.not_le]); omega))

def inC (c : C) : Bool := inB c.tag && inB c.conn && inB c.prefetch && inB c.unacked
/-- The error of a consumer by itself. -/
def validS (c : C) : Int := if inC c then (if nameS c.queue then 0 else 11) else 1

set_option maxHeartbeats 4000000 in
set_option maxRecDepth 10000 in
theorem valid_calls (c : C) : ACallP Try.prog 23 [aggC c] (i64 (validS c)) := by
  refine ACalls.body tok Try.func23 rfl (by kernel_rfl) (by rw [Try.ntmps23]; simp) ?_
  simp only [Try.ntmps23, Try.results23, argT]
  repeat' (first
      | refine AL.do tok rfl rfl ?_
      | refine AL.nil ?_
      | refine AW.seq fun K hK => ?_
      | refine AW.region ?_
      | refine AL.no rfl rfl ?_
      | (refine hK _ ?_; clear hK)
      | (clear hK; refine hK _ ?_; clear hK)
      | (clear hK; clear hK; refine hK _ ?_; clear hK)
      | refine AL.add rfl rfl rfl rfl (by constructor <;> omega) ?_
      | refine AL.sub rfl rfl rfl rfl (by constructor <;> omega) ?_
      | refine AL.neg rfl rfl rfl (by constructor <;> omega) ?_
      | refine AL.eq tok rfl rfl rfl rfl rfl (by kernel_rfl) ?_
      | refine AL.neq tok rfl rfl rfl rfl rfl (by kernel_rfl) ?_
      | refine AL.max rfl rfl rfl rfl ?_
      | refine AL.buildSlice tok rfl rfl rfl rfl rfl rfl rfl rfl ?_
      | refine AL.min rfl rfl rfl rfl ?_
      | refine AL.idxM tok rfl rfl rfl rfl rfl rfl (fun _ => rfl) (by first | omega | decide) ?_
      | refine AL.idxMI tok rfl rfl rfl rfl rfl rfl (fun _ => rfl) (by omega) (by omega) ?_
      | refine AL.v rfl rfl (VOp.cutS tok rfl rfl rfl rfl (by omega) (by omega)) ?_
      | refine AL.v rfl rfl (VOp.cutSF tok rfl rfl rfl (by omega)) ?_
      | refine AL.v rfl rfl (VOp.cutST tok rfl rfl rfl (by omega)) ?_
      | refine AL.v rfl rfl (VOp.joinS rfl rfl (by omega)) ?_
      | refine AL.idxON tok rfl rfl rfl rfl rfl rfl rfl rfl (by first | omega | (simp; omega) | (simp; done) | decide) ?_
      | refine AL.loadRM tok rfl rfl rfl rfl (by first | omega | (simp; omega)) rfl ?_
      | refine AL.loadR tok rfl rfl rfl rfl rfl rfl ?_
      | refine AL.sidxN tok rfl rfl rfl rfl rfl (by omega) ?_
      | refine AL.sidx tok rfl rfl rfl rfl rfl (by omega) (by omega) ?_
      | refine AL.range tok rfl rfl rfl rfl ?_
      | refine AW.block ?_
      | refine AW.exit ?_
      | refine AW.skip ?_
      | refine AL.callS rfl rfl rfl rfl rfl rfl (count_calls ..) rfl ?_
      | refine AL.callP rfl rfl rfl rfl rfl (count_calls ..) ?_
      | refine AL.callS rfl rfl rfl rfl rfl rfl (name_calls ..) rfl ?_
      | refine AL.callP rfl rfl rfl rfl rfl (name_calls ..) ?_
      | ((fail_if_success (refine AL.guard (b := true) rfl rfl ?_ ?_)); (fail_if_success (refine AL.guard (b := false) rfl rfl ?_ ?_)); refine AL.guard rfl rfl (fun hg => ?_) (fun hg => ?_) <;> ((try simp only [decide_eq_true_eq, decide_eq_false_iff_not, Bool.not_eq_true', Bool.not_eq_false', Bool.and_eq_true, Bool.or_eq_true, Bool.and_eq_false_iff, Bool.or_eq_false_iff, Bool.false_eq_true, Bool.true_eq_false, not_true_eq_false, not_false_eq_true, true_iff, iff_true, false_iff, iff_false, Int.toNat_zero, Int.toNat_natCast, Int.not_lt, Int.not_le] at hg) <;> (try first | (exfalso; omega) | exact absurd trivial hg | exact False.elim hg | exact absurd rfl hg)))
      | refine AW.condT rfl ?_
      | refine AW.condF rfl ?_
      | (refine AW.cond rfl (fun hg => ?_) (fun hg => ?_) <;> ((try simp only [decide_eq_true_eq, decide_eq_false_iff_not, Bool.not_eq_true', Bool.not_eq_false', Bool.and_eq_true, Bool.or_eq_true, Bool.and_eq_false_iff, Bool.or_eq_false_iff, Bool.false_eq_true, Bool.true_eq_false, not_true_eq_false, not_false_eq_true, true_iff, iff_true, false_iff, iff_false, Int.toNat_zero, Int.toNat_natCast, Int.not_lt, Int.not_le] at hg) <;> (try first | (exfalso; omega) | exact absurd trivial hg | exact False.elim hg | exact absurd rfl hg)))
      | refine AW.ret ?_)
  all_goals (refine ⟨_, _, _, _, rfl, Out.pure rfl ⟨?_, rfl⟩ rfl⟩; simp [validS, inC, *])

set_option maxHeartbeats 4000000 in
set_option maxRecDepth 10000 in
theorem refFind_calls (l : List C) (conn tag : Int) : ACallP Try.prog 32 [rowC l, i64 conn, i64 tag] (i64 (findS l conn tag)) := by
  refine ACalls.body tok Try.func32 rfl (by kernel_rfl) (by rw [Try.ntmps32]; simp) ?_
  simp only [Try.ntmps32, Try.results32, argT]
  refine AW.bound 0 rfl fun hm => ?_
  rw [List.length_map] at hm
  repeat (first
      | refine AL.do tok rfl rfl ?_
      | refine AL.nil ?_
      | refine AW.seq fun K hK => ?_
      | refine AW.region ?_
      | refine AL.no rfl rfl ?_
      | (refine hK _ ?_; clear hK)
      | (clear hK; refine hK _ ?_; clear hK)
      | (clear hK; clear hK; refine hK _ ?_; clear hK)
      | refine AL.add rfl rfl rfl rfl (by constructor <;> omega) ?_
      | refine AL.sub rfl rfl rfl rfl (by constructor <;> omega) ?_
      | refine AL.neg rfl rfl rfl (by constructor <;> omega) ?_
      | refine AL.eq tok rfl rfl rfl rfl rfl (by kernel_rfl) ?_
      | refine AL.neq tok rfl rfl rfl rfl rfl (by kernel_rfl) ?_
      | refine AL.max rfl rfl rfl rfl ?_
      | refine AL.buildSlice tok rfl rfl rfl rfl rfl rfl rfl rfl ?_
      | refine AL.min rfl rfl rfl rfl ?_
      | refine AL.idxM tok rfl rfl rfl rfl rfl rfl (fun _ => rfl) (by first | omega | decide) ?_
      | refine AL.idxMI tok rfl rfl rfl rfl rfl rfl (fun _ => rfl) (by omega) (by omega) ?_
      | refine AL.v rfl rfl (VOp.cutS tok rfl rfl rfl rfl (by omega) (by omega)) ?_
      | refine AL.v rfl rfl (VOp.cutSF tok rfl rfl rfl (by omega)) ?_
      | refine AL.v rfl rfl (VOp.cutST tok rfl rfl rfl (by omega)) ?_
      | refine AL.v rfl rfl (VOp.joinS rfl rfl (by omega)) ?_
      | refine AL.idxON tok rfl rfl rfl rfl rfl rfl rfl rfl (by first | omega | (simp; omega) | (simp; done) | decide) ?_
      | refine AL.loadRM tok rfl rfl rfl rfl (by first | omega | (simp; omega)) rfl ?_
      | refine AL.loadR tok rfl rfl rfl rfl rfl rfl ?_
      | refine AL.sidxN tok rfl rfl rfl rfl rfl (by omega) ?_
      | refine AL.sidx tok rfl rfl rfl rfl rfl (by omega) (by omega) ?_
      | refine AL.range tok rfl rfl rfl rfl ?_
      | refine AW.block ?_
      | refine AW.exit ?_
      | refine AW.skip ?_)
  simp only [List.length_map]
  refine AW.loop (ι := Nat) (fun i => ⟨28, [(11, i64 i), (10, i64 l.length), (9, rowC l), (1, i64 conn), (2, i64 tag)], [], [], 0⟩)
    (fun i => i ≤ l.length ∧ firstS (fun c => decide (c.conn = conn) && decide (c.tag = tag)) (l.drop i) i = findS l conn tag) (fun i => l.length - i) 0 (And.intro (Nat.zero_le _) rfl) ?_ ?_
  · (refine Imp.weak id (fun _ _ _ _ h => h) (by first | assumption | (intro b hb; cases hb)) ?_ ?_ <;> (repeat' (first
      | exact trivial
      | exact Nat.lt_of_lt_of_le (Nat.lt_succ_self _) (Nat.le_of_ble_eq_true rfl)
      | exact rfl
      | exact Or.inl ⟨rfl, rfl⟩
      | exact Or.inr ⟨rfl, LF.fn _ _ ‹_›⟩
      | refine ⟨?_, ?_⟩)))
  rintro i ⟨hi, hf⟩ K1 hK1
  by_cases hlt : i < l.length
  · have hstep : firstS (fun c => decide (c.conn = conn) && decide (c.tag = tag)) (l.drop i) i = if (decide (l[i].conn = conn) && decide (l[i].tag = tag)) then (i : Int) else firstS (fun c => decide (c.conn = conn) && decide (c.tag = tag)) (l.drop (i + 1)) (i + 1) := by
      rw [List.drop_eq_getElem_cons hlt]; rfl
    rw [hstep] at hf
    repeat (first
      | refine AL.do tok rfl rfl ?_
      | refine AL.nil ?_
      | refine AW.seq fun K hK => ?_
      | refine AW.region ?_
      | refine AL.no rfl rfl ?_
      | (refine hK _ ?_; clear hK)
      | (clear hK; refine hK _ ?_; clear hK)
      | (clear hK; clear hK; refine hK _ ?_; clear hK)
      | refine AL.add rfl rfl rfl rfl (by constructor <;> omega) ?_
      | refine AL.sub rfl rfl rfl rfl (by constructor <;> omega) ?_
      | refine AL.neg rfl rfl rfl (by constructor <;> omega) ?_
      | refine AL.eq tok rfl rfl rfl rfl rfl (by kernel_rfl) ?_
      | refine AL.neq tok rfl rfl rfl rfl rfl (by kernel_rfl) ?_
      | refine AL.max rfl rfl rfl rfl ?_
      | refine AL.buildSlice tok rfl rfl rfl rfl rfl rfl rfl rfl ?_
      | refine AL.min rfl rfl rfl rfl ?_
      | refine AL.idxM tok rfl rfl rfl rfl rfl rfl (fun _ => rfl) (by first | omega | decide) ?_
      | refine AL.idxMI tok rfl rfl rfl rfl rfl rfl (fun _ => rfl) (by omega) (by omega) ?_
      | refine AL.v rfl rfl (VOp.cutS tok rfl rfl rfl rfl (by omega) (by omega)) ?_
      | refine AL.v rfl rfl (VOp.cutSF tok rfl rfl rfl (by omega)) ?_
      | refine AL.v rfl rfl (VOp.cutST tok rfl rfl rfl (by omega)) ?_
      | refine AL.v rfl rfl (VOp.joinS rfl rfl (by omega)) ?_
      | refine AL.idxON tok rfl rfl rfl rfl rfl rfl rfl rfl (by first | omega | (simp; omega) | (simp; done) | decide) ?_
      | refine AL.loadRM tok rfl rfl rfl rfl (by first | omega | (simp; omega)) rfl ?_
      | refine AL.loadR tok rfl rfl rfl rfl rfl rfl ?_
      | refine AL.sidxN tok rfl rfl rfl rfl rfl (by omega) ?_
      | refine AL.sidx tok rfl rfl rfl rfl rfl (by omega) (by omega) ?_
      | refine AL.range tok rfl rfl rfl rfl ?_
      | refine AW.block ?_
      | refine AW.exit ?_
      | refine AW.skip ?_)
    refine AW.cond rfl (fun hg => ?_) (fun hg => by simp at hg; omega)
    repeat (first
      | refine AL.do tok rfl rfl ?_
      | refine AL.nil ?_
      | refine AW.seq fun K hK => ?_
      | refine AW.region ?_
      | refine AL.no rfl rfl ?_
      | (refine hK _ ?_; clear hK)
      | (clear hK; refine hK _ ?_; clear hK)
      | (clear hK; clear hK; refine hK _ ?_; clear hK)
      | refine AL.add rfl rfl rfl rfl (by constructor <;> omega) ?_
      | refine AL.sub rfl rfl rfl rfl (by constructor <;> omega) ?_
      | refine AL.neg rfl rfl rfl (by constructor <;> omega) ?_
      | refine AL.eq tok rfl rfl rfl rfl rfl (by kernel_rfl) ?_
      | refine AL.neq tok rfl rfl rfl rfl rfl (by kernel_rfl) ?_
      | refine AL.max rfl rfl rfl rfl ?_
      | refine AL.buildSlice tok rfl rfl rfl rfl rfl rfl rfl rfl ?_
      | refine AL.min rfl rfl rfl rfl ?_
      | refine AL.idxM tok rfl rfl rfl rfl rfl rfl (fun _ => rfl) (by first | omega | decide) ?_
      | refine AL.idxMI tok rfl rfl rfl rfl rfl rfl (fun _ => rfl) (by omega) (by omega) ?_
      | refine AL.v rfl rfl (VOp.cutS tok rfl rfl rfl rfl (by omega) (by omega)) ?_
      | refine AL.v rfl rfl (VOp.cutSF tok rfl rfl rfl (by omega)) ?_
      | refine AL.v rfl rfl (VOp.cutST tok rfl rfl rfl (by omega)) ?_
      | refine AL.v rfl rfl (VOp.joinS rfl rfl (by omega)) ?_
      | refine AL.idxON tok rfl rfl rfl rfl rfl rfl rfl rfl (by first | omega | (simp; omega) | (simp; done) | decide) ?_
      | refine AL.loadRM tok rfl rfl rfl rfl (by first | omega | (simp; omega)) rfl ?_
      | refine AL.loadR tok rfl rfl rfl rfl rfl rfl ?_
      | refine AL.sidxN tok rfl rfl rfl rfl rfl (by omega) ?_
      | refine AL.sidx tok rfl rfl rfl rfl rfl (by omega) (by omega) ?_
      | refine AL.range tok rfl rfl rfl rfl ?_
      | refine AW.block ?_
      | refine AW.exit ?_
      | refine AW.skip ?_)
    repeat' (first
      | refine AL.do tok rfl rfl ?_
      | refine AL.nil ?_
      | refine AW.seq fun K hK => ?_
      | refine AW.region ?_
      | refine AL.no rfl rfl ?_
      | (refine hK _ ?_; clear hK)
      | (clear hK; refine hK _ ?_; clear hK)
      | (clear hK; clear hK; refine hK _ ?_; clear hK)
      | refine AL.add rfl rfl rfl rfl (by constructor <;> omega) ?_
      | refine AL.sub rfl rfl rfl rfl (by constructor <;> omega) ?_
      | refine AL.neg rfl rfl rfl (by constructor <;> omega) ?_
      | refine AL.eq tok rfl rfl rfl rfl rfl (by kernel_rfl) ?_
      | refine AL.neq tok rfl rfl rfl rfl rfl (by kernel_rfl) ?_
      | refine AL.max rfl rfl rfl rfl ?_
      | refine AL.buildSlice tok rfl rfl rfl rfl rfl rfl rfl rfl ?_
      | refine AL.min rfl rfl rfl rfl ?_
      | refine AL.idxM tok rfl rfl rfl rfl rfl rfl (fun _ => rfl) (by first | omega | decide) ?_
      | refine AL.idxMI tok rfl rfl rfl rfl rfl rfl (fun _ => rfl) (by omega) (by omega) ?_
      | refine AL.v rfl rfl (VOp.cutS tok rfl rfl rfl rfl (by omega) (by omega)) ?_
      | refine AL.v rfl rfl (VOp.cutSF tok rfl rfl rfl (by omega)) ?_
      | refine AL.v rfl rfl (VOp.cutST tok rfl rfl rfl (by omega)) ?_
      | refine AL.v rfl rfl (VOp.joinS rfl rfl (by omega)) ?_
      | refine AL.idxON tok rfl rfl rfl rfl rfl rfl rfl rfl (by first | omega | (simp; omega) | (simp; done) | decide) ?_
      | refine AL.loadRM tok rfl rfl rfl rfl (by first | omega | (simp; omega)) rfl ?_
      | refine AL.loadR tok rfl rfl rfl rfl rfl rfl ?_
      | refine AL.sidxN tok rfl rfl rfl rfl rfl (by omega) ?_
      | refine AL.sidx tok rfl rfl rfl rfl rfl (by omega) (by omega) ?_
      | refine AL.range tok rfl rfl rfl rfl ?_
      | refine AW.block ?_
      | refine AW.exit ?_
      | refine AW.skip ?_
      | ((fail_if_success (refine AL.guard (b := true) rfl rfl ?_ ?_)); (fail_if_success (refine AL.guard (b := false) rfl rfl ?_ ?_)); refine AL.guard rfl rfl (fun hg => ?_) (fun hg => ?_) <;> ((try simp only [decide_eq_true_eq, decide_eq_false_iff_not, Bool.not_eq_true', Bool.not_eq_false', Bool.and_eq_true, Bool.or_eq_true, Bool.and_eq_false_iff, Bool.or_eq_false_iff, Bool.false_eq_true, Bool.true_eq_false, not_true_eq_false, not_false_eq_true, true_iff, iff_true, false_iff, iff_false, Int.toNat_zero, Int.toNat_natCast, Int.not_lt, Int.not_le] at hg) <;> (try first | (exfalso; omega) | exact absurd trivial hg | exact False.elim hg | exact absurd rfl hg)))
      | refine AW.condT rfl ?_
      | refine AW.condF rfl ?_
      | (refine AW.cond rfl (fun hg => ?_) (fun hg => ?_) <;> ((try simp only [decide_eq_true_eq, decide_eq_false_iff_not, Bool.not_eq_true', Bool.not_eq_false', Bool.and_eq_true, Bool.or_eq_true, Bool.and_eq_false_iff, Bool.or_eq_false_iff, Bool.false_eq_true, Bool.true_eq_false, not_true_eq_false, not_false_eq_true, true_iff, iff_true, false_iff, iff_false, Int.toNat_zero, Int.toNat_natCast, Int.not_lt, Int.not_le] at hg) <;> (try first | (exfalso; omega) | exact absurd trivial hg | exact False.elim hg | exact absurd rfl hg)))
      | refine AW.ret ?_)
    all_goals first
      | (refine ⟨_, _, _, _, rfl, Out.pure rfl ⟨?_, rfl⟩ rfl⟩; rw [← hf]; simp [*]; done)
      | (refine hK1 _ (i + 1) (And.intro (by omega) (by rw [← hf]; simp [*])) (by omega) ?_
         (refine Imp.weak id (fun _ _ _ _ h => h) (by first | assumption | (intro b hb; cases hb)) ?_ ?_ <;> (repeat' (first
      | exact trivial
      | exact Nat.lt_of_lt_of_le (Nat.lt_succ_self _) (Nat.le_of_ble_eq_true rfl)
      | exact rfl
      | exact Or.inl ⟨rfl, rfl⟩
      | exact Or.inr ⟨rfl, LF.fn _ _ ‹_›⟩
      | refine ⟨?_, ?_⟩))))
  · repeat (first
      | refine AL.do tok rfl rfl ?_
      | refine AL.nil ?_
      | refine AW.seq fun K hK => ?_
      | refine AW.region ?_
      | refine AL.no rfl rfl ?_
      | (refine hK _ ?_; clear hK)
      | (clear hK; refine hK _ ?_; clear hK)
      | (clear hK; clear hK; refine hK _ ?_; clear hK)
      | refine AL.add rfl rfl rfl rfl (by constructor <;> omega) ?_
      | refine AL.sub rfl rfl rfl rfl (by constructor <;> omega) ?_
      | refine AL.neg rfl rfl rfl (by constructor <;> omega) ?_
      | refine AL.eq tok rfl rfl rfl rfl rfl (by kernel_rfl) ?_
      | refine AL.neq tok rfl rfl rfl rfl rfl (by kernel_rfl) ?_
      | refine AL.max rfl rfl rfl rfl ?_
      | refine AL.buildSlice tok rfl rfl rfl rfl rfl rfl rfl rfl ?_
      | refine AL.min rfl rfl rfl rfl ?_
      | refine AL.idxM tok rfl rfl rfl rfl rfl rfl (fun _ => rfl) (by first | omega | decide) ?_
      | refine AL.idxMI tok rfl rfl rfl rfl rfl rfl (fun _ => rfl) (by omega) (by omega) ?_
      | refine AL.v rfl rfl (VOp.cutS tok rfl rfl rfl rfl (by omega) (by omega)) ?_
      | refine AL.v rfl rfl (VOp.cutSF tok rfl rfl rfl (by omega)) ?_
      | refine AL.v rfl rfl (VOp.cutST tok rfl rfl rfl (by omega)) ?_
      | refine AL.v rfl rfl (VOp.joinS rfl rfl (by omega)) ?_
      | refine AL.idxON tok rfl rfl rfl rfl rfl rfl rfl rfl (by first | omega | (simp; omega) | (simp; done) | decide) ?_
      | refine AL.loadRM tok rfl rfl rfl rfl (by first | omega | (simp; omega)) rfl ?_
      | refine AL.loadR tok rfl rfl rfl rfl rfl rfl ?_
      | refine AL.sidxN tok rfl rfl rfl rfl rfl (by omega) ?_
      | refine AL.sidx tok rfl rfl rfl rfl rfl (by omega) (by omega) ?_
      | refine AL.range tok rfl rfl rfl rfl ?_
      | refine AW.block ?_
      | refine AW.exit ?_
      | refine AW.skip ?_)
    refine AW.cond rfl (fun hg => by simp at hg; omega) (fun hg => ?_)
    repeat (first
      | refine AL.do tok rfl rfl ?_
      | refine AL.nil ?_
      | refine AW.seq fun K hK => ?_
      | refine AW.region ?_
      | refine AL.no rfl rfl ?_
      | (refine hK _ ?_; clear hK)
      | (clear hK; refine hK _ ?_; clear hK)
      | (clear hK; clear hK; refine hK _ ?_; clear hK)
      | refine AL.add rfl rfl rfl rfl (by constructor <;> omega) ?_
      | refine AL.sub rfl rfl rfl rfl (by constructor <;> omega) ?_
      | refine AL.neg rfl rfl rfl (by constructor <;> omega) ?_
      | refine AL.eq tok rfl rfl rfl rfl rfl (by kernel_rfl) ?_
      | refine AL.neq tok rfl rfl rfl rfl rfl (by kernel_rfl) ?_
      | refine AL.max rfl rfl rfl rfl ?_
      | refine AL.buildSlice tok rfl rfl rfl rfl rfl rfl rfl rfl ?_
      | refine AL.min rfl rfl rfl rfl ?_
      | refine AL.idxM tok rfl rfl rfl rfl rfl rfl (fun _ => rfl) (by first | omega | decide) ?_
      | refine AL.idxMI tok rfl rfl rfl rfl rfl rfl (fun _ => rfl) (by omega) (by omega) ?_
      | refine AL.v rfl rfl (VOp.cutS tok rfl rfl rfl rfl (by omega) (by omega)) ?_
      | refine AL.v rfl rfl (VOp.cutSF tok rfl rfl rfl (by omega)) ?_
      | refine AL.v rfl rfl (VOp.cutST tok rfl rfl rfl (by omega)) ?_
      | refine AL.v rfl rfl (VOp.joinS rfl rfl (by omega)) ?_
      | refine AL.idxON tok rfl rfl rfl rfl rfl rfl rfl rfl (by first | omega | (simp; omega) | (simp; done) | decide) ?_
      | refine AL.loadRM tok rfl rfl rfl rfl (by first | omega | (simp; omega)) rfl ?_
      | refine AL.loadR tok rfl rfl rfl rfl rfl rfl ?_
      | refine AL.sidxN tok rfl rfl rfl rfl rfl (by omega) ?_
      | refine AL.sidx tok rfl rfl rfl rfl rfl (by omega) (by omega) ?_
      | refine AL.range tok rfl rfl rfl rfl ?_
      | refine AW.block ?_
      | refine AW.exit ?_
      | refine AW.skip ?_)
    refine AW.ret ?_
    refine ⟨_, _, _, _, rfl, Out.pure rfl ⟨?_, rfl⟩ rfl⟩
    rw [← hf, List.drop_eq_nil_of_le (by omega)]
    rfl

/-- The error of a consumer beside others. -/
def oneS (l : List C) (c : C) : Int := if validS c = 0 then (if 0 ≤ findS l c.conn c.tag then 7 else 0) else validS c

set_option maxHeartbeats 4000000 in
set_option maxRecDepth 10000 in
theorem one_calls (l : List C) (c : C) : ACallP Try.prog 25 [rowC l, aggC c] (i64 (oneS l c)) := by
  refine ACalls.body tok Try.func25 rfl (by kernel_rfl) (by rw [Try.ntmps25]; simp) ?_
  simp only [Try.ntmps25, Try.results25, argT]
  repeat' (first
      | refine AL.do tok rfl rfl ?_
      | refine AL.nil ?_
      | refine AW.seq fun K hK => ?_
      | refine AW.region ?_
      | refine AL.no rfl rfl ?_
      | (refine hK _ ?_; clear hK)
      | (clear hK; refine hK _ ?_; clear hK)
      | (clear hK; clear hK; refine hK _ ?_; clear hK)
      | refine AL.add rfl rfl rfl rfl (by constructor <;> omega) ?_
      | refine AL.sub rfl rfl rfl rfl (by constructor <;> omega) ?_
      | refine AL.neg rfl rfl rfl (by constructor <;> omega) ?_
      | refine AL.eq tok rfl rfl rfl rfl rfl (by kernel_rfl) ?_
      | refine AL.neq tok rfl rfl rfl rfl rfl (by kernel_rfl) ?_
      | refine AL.max rfl rfl rfl rfl ?_
      | refine AL.buildSlice tok rfl rfl rfl rfl rfl rfl rfl rfl ?_
      | refine AL.min rfl rfl rfl rfl ?_
      | refine AL.idxM tok rfl rfl rfl rfl rfl rfl (fun _ => rfl) (by first | omega | decide) ?_
      | refine AL.idxMI tok rfl rfl rfl rfl rfl rfl (fun _ => rfl) (by omega) (by omega) ?_
      | refine AL.v rfl rfl (VOp.cutS tok rfl rfl rfl rfl (by omega) (by omega)) ?_
      | refine AL.v rfl rfl (VOp.cutSF tok rfl rfl rfl (by omega)) ?_
      | refine AL.v rfl rfl (VOp.cutST tok rfl rfl rfl (by omega)) ?_
      | refine AL.v rfl rfl (VOp.joinS rfl rfl (by omega)) ?_
      | refine AL.idxON tok rfl rfl rfl rfl rfl rfl rfl rfl (by first | omega | (simp; omega) | (simp; done) | decide) ?_
      | refine AL.loadRM tok rfl rfl rfl rfl (by first | omega | (simp; omega)) rfl ?_
      | refine AL.loadR tok rfl rfl rfl rfl rfl rfl ?_
      | refine AL.sidxN tok rfl rfl rfl rfl rfl (by omega) ?_
      | refine AL.sidx tok rfl rfl rfl rfl rfl (by omega) (by omega) ?_
      | refine AL.range tok rfl rfl rfl rfl ?_
      | refine AW.block ?_
      | refine AW.exit ?_
      | refine AW.skip ?_
      | refine AL.callS rfl rfl rfl rfl rfl rfl (in_calls ..) rfl ?_
      | refine AL.callP rfl rfl rfl rfl rfl (in_calls ..) ?_
      | refine AL.callS rfl rfl rfl rfl rfl rfl (refName_calls ..) rfl ?_
      | refine AL.callP rfl rfl rfl rfl rfl (refName_calls ..) ?_
      | refine AL.callS rfl rfl rfl rfl rfl rfl (refFind_calls ..) rfl ?_
      | refine AL.callP rfl rfl rfl rfl rfl (refFind_calls ..) ?_
      | ((fail_if_success (refine AL.guard (b := true) rfl rfl ?_ ?_)); (fail_if_success (refine AL.guard (b := false) rfl rfl ?_ ?_)); refine AL.guard rfl rfl (fun hg => ?_) (fun hg => ?_) <;> ((try simp only [decide_eq_true_eq, decide_eq_false_iff_not, Bool.not_eq_true', Bool.not_eq_false', Bool.and_eq_true, Bool.or_eq_true, Bool.and_eq_false_iff, Bool.or_eq_false_iff, Bool.false_eq_true, Bool.true_eq_false, not_true_eq_false, not_false_eq_true, true_iff, iff_true, false_iff, iff_false, Int.toNat_zero, Int.toNat_natCast, Int.not_lt, Int.not_le] at hg) <;> (try first | (exfalso; omega) | exact absurd trivial hg | exact False.elim hg | exact absurd rfl hg)))
      | refine AW.condT rfl ?_
      | refine AW.condF rfl ?_
      | (refine AW.cond rfl (fun hg => ?_) (fun hg => ?_) <;> ((try simp only [decide_eq_true_eq, decide_eq_false_iff_not, Bool.not_eq_true', Bool.not_eq_false', Bool.and_eq_true, Bool.or_eq_true, Bool.and_eq_false_iff, Bool.or_eq_false_iff, Bool.false_eq_true, Bool.true_eq_false, not_true_eq_false, not_false_eq_true, true_iff, iff_true, false_iff, iff_false, Int.toNat_zero, Int.toNat_natCast, Int.not_lt, Int.not_le] at hg) <;> (try first | (exfalso; omega) | exact absurd trivial hg | exact False.elim hg | exact absurd rfl hg)))
      | refine AW.ret ?_)
  all_goals (refine ⟨_, _, _, _, rfl, Out.pure rfl ⟨?_, rfl⟩ rfl⟩; simp [oneS, validS, inC, *])

set_option maxRecDepth 10000 in
theorem ready_calls (c : C) : ACallP Try.prog 9 [aggC c] (bo (decide (c.prefetch = 0) || decide (c.unacked < c.prefetch))) := by
  refine ACalls.body tok Try.func9 rfl (by kernel_rfl) (by rw [Try.ntmps9]; simp) ?_
  simp only [Try.ntmps9, Try.results9, argT]
  repeat' (first
      | refine AL.do tok rfl rfl ?_
      | refine AL.nil ?_
      | refine AW.seq fun K hK => ?_
      | refine AW.region ?_
      | refine AL.no rfl rfl ?_
      | (refine hK _ ?_; clear hK)
      | (clear hK; refine hK _ ?_; clear hK)
      | (clear hK; clear hK; refine hK _ ?_; clear hK)
      | refine AL.add rfl rfl rfl rfl (by constructor <;> omega) ?_
      | refine AL.sub rfl rfl rfl rfl (by constructor <;> omega) ?_
      | refine AL.neg rfl rfl rfl (by constructor <;> omega) ?_
      | refine AL.eq tok rfl rfl rfl rfl rfl (by kernel_rfl) ?_
      | refine AL.neq tok rfl rfl rfl rfl rfl (by kernel_rfl) ?_
      | refine AL.max rfl rfl rfl rfl ?_
      | refine AL.buildSlice tok rfl rfl rfl rfl rfl rfl rfl rfl ?_
      | refine AL.min rfl rfl rfl rfl ?_
      | refine AL.idxM tok rfl rfl rfl rfl rfl rfl (fun _ => rfl) (by first | omega | decide) ?_
      | refine AL.idxMI tok rfl rfl rfl rfl rfl rfl (fun _ => rfl) (by omega) (by omega) ?_
      | refine AL.v rfl rfl (VOp.cutS tok rfl rfl rfl rfl (by omega) (by omega)) ?_
      | refine AL.v rfl rfl (VOp.cutSF tok rfl rfl rfl (by omega)) ?_
      | refine AL.v rfl rfl (VOp.cutST tok rfl rfl rfl (by omega)) ?_
      | refine AL.v rfl rfl (VOp.joinS rfl rfl (by omega)) ?_
      | refine AL.idxON tok rfl rfl rfl rfl rfl rfl rfl rfl (by first | omega | (simp; omega) | (simp; done) | decide) ?_
      | refine AL.loadRM tok rfl rfl rfl rfl (by first | omega | (simp; omega)) rfl ?_
      | refine AL.loadR tok rfl rfl rfl rfl rfl rfl ?_
      | refine AL.sidxN tok rfl rfl rfl rfl rfl (by omega) ?_
      | refine AL.sidx tok rfl rfl rfl rfl rfl (by omega) (by omega) ?_
      | refine AL.range tok rfl rfl rfl rfl ?_
      | refine AW.block ?_
      | refine AW.exit ?_
      | refine AW.skip ?_
      | ((fail_if_success (refine AL.guard (b := true) rfl rfl ?_ ?_)); (fail_if_success (refine AL.guard (b := false) rfl rfl ?_ ?_)); refine AL.guard rfl rfl (fun hg => ?_) (fun hg => ?_) <;> ((try simp only [decide_eq_true_eq, decide_eq_false_iff_not, Bool.not_eq_true', Bool.not_eq_false', Bool.and_eq_true, Bool.or_eq_true, Bool.and_eq_false_iff, Bool.or_eq_false_iff, Bool.false_eq_true, Bool.true_eq_false, not_true_eq_false, not_false_eq_true, true_iff, iff_true, false_iff, iff_false, Int.toNat_zero, Int.toNat_natCast, Int.not_lt, Int.not_le] at hg) <;> (try first | (exfalso; omega) | exact absurd trivial hg | exact False.elim hg | exact absurd rfl hg)))
      | refine AW.condT rfl ?_
      | refine AW.condF rfl ?_
      | (refine AW.cond rfl (fun hg => ?_) (fun hg => ?_) <;> ((try simp only [decide_eq_true_eq, decide_eq_false_iff_not, Bool.not_eq_true', Bool.not_eq_false', Bool.and_eq_true, Bool.or_eq_true, Bool.and_eq_false_iff, Bool.or_eq_false_iff, Bool.false_eq_true, Bool.true_eq_false, not_true_eq_false, not_false_eq_true, true_iff, iff_true, false_iff, iff_false, Int.toNat_zero, Int.toNat_natCast, Int.not_lt, Int.not_le] at hg) <;> (try first | (exfalso; omega) | exact absurd trivial hg | exact False.elim hg | exact absurd rfl hg)))
      | refine AW.ret ?_)
  all_goals (refine ⟨_, _, _, _, rfl, Out.pure rfl ⟨?_, rfl⟩ rfl⟩; (refine bo_iff ?_; (try simp only [decide_eq_true_eq, decide_eq_false_iff_not, Bool.not_eq_true', Bool.not_eq_false', Bool.and_eq_true, Bool.or_eq_true, Bool.and_eq_false_iff, Bool.or_eq_false_iff, Bool.false_eq_true, Bool.true_eq_false, not_true_eq_false, not_false_eq_true, true_iff, iff_true, false_iff, iff_false, Int.toNat_zero, Int.toNat_natCast, Int.not_lt, Int.not_le]); omega))
set_option maxRecDepth 10000 in
theorem refReady_calls (c : C) : ACallP Try.prog 10 [aggC c] (bo (decide (c.prefetch = 0) || decide (c.unacked < c.prefetch))) := by
  refine ACalls.body tok Try.func10 rfl (by kernel_rfl) (by rw [Try.ntmps10]; simp) ?_
  simp only [Try.ntmps10, Try.results10, argT]
  repeat' (first
      | refine AL.do tok rfl rfl ?_
      | refine AL.nil ?_
      | refine AW.seq fun K hK => ?_
      | refine AW.region ?_
      | refine AL.no rfl rfl ?_
      | (refine hK _ ?_; clear hK)
      | (clear hK; refine hK _ ?_; clear hK)
      | (clear hK; clear hK; refine hK _ ?_; clear hK)
      | refine AL.add rfl rfl rfl rfl (by constructor <;> omega) ?_
      | refine AL.sub rfl rfl rfl rfl (by constructor <;> omega) ?_
      | refine AL.neg rfl rfl rfl (by constructor <;> omega) ?_
      | refine AL.eq tok rfl rfl rfl rfl rfl (by kernel_rfl) ?_
      | refine AL.neq tok rfl rfl rfl rfl rfl (by kernel_rfl) ?_
      | refine AL.max rfl rfl rfl rfl ?_
      | refine AL.buildSlice tok rfl rfl rfl rfl rfl rfl rfl rfl ?_
      | refine AL.min rfl rfl rfl rfl ?_
      | refine AL.idxM tok rfl rfl rfl rfl rfl rfl (fun _ => rfl) (by first | omega | decide) ?_
      | refine AL.idxMI tok rfl rfl rfl rfl rfl rfl (fun _ => rfl) (by omega) (by omega) ?_
      | refine AL.v rfl rfl (VOp.cutS tok rfl rfl rfl rfl (by omega) (by omega)) ?_
      | refine AL.v rfl rfl (VOp.cutSF tok rfl rfl rfl (by omega)) ?_
      | refine AL.v rfl rfl (VOp.cutST tok rfl rfl rfl (by omega)) ?_
      | refine AL.v rfl rfl (VOp.joinS rfl rfl (by omega)) ?_
      | refine AL.idxON tok rfl rfl rfl rfl rfl rfl rfl rfl (by first | omega | (simp; omega) | (simp; done) | decide) ?_
      | refine AL.loadRM tok rfl rfl rfl rfl (by first | omega | (simp; omega)) rfl ?_
      | refine AL.loadR tok rfl rfl rfl rfl rfl rfl ?_
      | refine AL.sidxN tok rfl rfl rfl rfl rfl (by omega) ?_
      | refine AL.sidx tok rfl rfl rfl rfl rfl (by omega) (by omega) ?_
      | refine AL.range tok rfl rfl rfl rfl ?_
      | refine AW.block ?_
      | refine AW.exit ?_
      | refine AW.skip ?_
      | ((fail_if_success (refine AL.guard (b := true) rfl rfl ?_ ?_)); (fail_if_success (refine AL.guard (b := false) rfl rfl ?_ ?_)); refine AL.guard rfl rfl (fun hg => ?_) (fun hg => ?_) <;> ((try simp only [decide_eq_true_eq, decide_eq_false_iff_not, Bool.not_eq_true', Bool.not_eq_false', Bool.and_eq_true, Bool.or_eq_true, Bool.and_eq_false_iff, Bool.or_eq_false_iff, Bool.false_eq_true, Bool.true_eq_false, not_true_eq_false, not_false_eq_true, true_iff, iff_true, false_iff, iff_false, Int.toNat_zero, Int.toNat_natCast, Int.not_lt, Int.not_le] at hg) <;> (try first | (exfalso; omega) | exact absurd trivial hg | exact False.elim hg | exact absurd rfl hg)))
      | refine AW.condT rfl ?_
      | refine AW.condF rfl ?_
      | (refine AW.cond rfl (fun hg => ?_) (fun hg => ?_) <;> ((try simp only [decide_eq_true_eq, decide_eq_false_iff_not, Bool.not_eq_true', Bool.not_eq_false', Bool.and_eq_true, Bool.or_eq_true, Bool.and_eq_false_iff, Bool.or_eq_false_iff, Bool.false_eq_true, Bool.true_eq_false, not_true_eq_false, not_false_eq_true, true_iff, iff_true, false_iff, iff_false, Int.toNat_zero, Int.toNat_natCast, Int.not_lt, Int.not_le] at hg) <;> (try first | (exfalso; omega) | exact absurd trivial hg | exact False.elim hg | exact absurd rfl hg)))
      | refine AW.ret ?_)
  all_goals (refine ⟨_, _, _, _, rfl, Out.pure rfl ⟨?_, rfl⟩ rfl⟩; (refine bo_iff ?_; (try simp only [decide_eq_true_eq, decide_eq_false_iff_not, Bool.not_eq_true', Bool.not_eq_false', Bool.and_eq_true, Bool.or_eq_true, Bool.and_eq_false_iff, Bool.or_eq_false_iff, Bool.false_eq_true, Bool.true_eq_false, not_true_eq_false, not_false_eq_true, true_iff, iff_true, false_iff, iff_false, Int.toNat_zero, Int.toNat_natCast, Int.not_lt, Int.not_le]); omega))
end Go.Proofs.Try
