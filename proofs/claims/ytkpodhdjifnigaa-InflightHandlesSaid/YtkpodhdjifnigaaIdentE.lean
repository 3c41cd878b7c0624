/- ident: an identifier left out. -/
import Derived.Test.YtkpodhdjifnigaaIdentD
import Derived.Test.YtkpodhdjifnigaaAM46
set_option linter.unusedSimpArgs false
set_option linter.unusedVariables false
namespace Go.Proofs.Try
open Go Go.AM

theorem del_row {α : Type} (A : List α) (k : Nat) (h : k < A.length) : A.take (k - 0) ++ List.drop (k + 1) (List.take (k + 1 + (A.length - (k + 1))) A) ++ List.drop (k - 0 + (List.drop (k + 1) (List.take (k + 1 + (A.length - (k + 1))) A)).length) A = A.eraseIdx k ++ List.drop (A.length - 1) A := by
  rw [show k + 1 + (A.length - (k + 1)) = A.length by omega, List.take_length, List.length_drop, Nat.sub_zero, show k + (A.length - (k + 1)) = A.length - 1 by omega, List.eraseIdx_eq_take_drop_succ]
theorem take_front {α : Type} {n : Nat} (E t r d : List α) (h : E.length = n) : (List.take n (E ++ t) ++ r ++ d).take n = E := by
  rw [List.append_assoc, List.take_append_of_le_length (by simp; omega), List.take_take, Nat.min_self, List.take_append_of_le_length (by omega), List.take_of_length_le (by omega)]
theorem del_len {α : Type} (A : List α) (k : Nat) (h : k < A.length) : k - 0 + (List.drop (k + 1) (List.take (k + 1 + (A.length - (k + 1))) A)).length = A.length - 1 := by
  rw [show k + 1 + (A.length - (k + 1)) = A.length by omega, List.take_length, List.length_drop]
  omega
set_option maxHeartbeats 8000000 in
set_option maxRecDepth 10000 in
theorem delete_calls (l : List Int) (k : Nat) (hk : k < l.length) (hl : l.length ≤ 1000000) : ACallGO Try.prog 90 [.own (.loc 0), i64 k, i64 ((k : Int) + 1)] 3 1 (l.map encI) ((l.eraseIdx k).map encI) := by
  have hlm : (l.map encI).length = l.length := List.length_map ..
  have hne : l.map encI ≠ [] := fun e => by rw [e] at hlm; simp at hlm; omega
  refine ACallsG.body tok Try.func90 rfl (by kernel_rfl) (by rw [Try.ntmps90]; simp) ?_
  simp only [Try.ntmps90, Try.results90, argT, rowsH, Rw.blk, List.length_cons, List.length_nil]
  repeat' (first|refine AL.do tok rfl rfl ?_|refine AL.nil ?_|refine AW.seq fun K hK => ?_|refine AW.region ?_|refine AL.no rfl rfl ?_|(refine hK _ ?_; clear hK)|(clear hK; refine hK _ ?_; clear hK)|(clear hK; clear hK; refine hK _ ?_; clear hK)|refine qa7 qv1 ?_|refine qa7 qv2 ?_|refine qa7 qv3 ?_|refine qa7 (qv4 tok) ?_|refine qa7 (qv5 tok) ?_|refine qa7 qv6 ?_|refine qa7 qv7 ?_|refine qa7 (qv8 tok) ?_|refine qa7 (qv9 tok) ?_|refine qa7 (qv10 tok) ?_|refine qa7 (qv11 tok) ?_|refine qa7 (qv12 tok) ?_|refine qa7 (qv13 tok) ?_|refine qa7 (qv14 tok) ?_|refine qa7 (qv15 tok) ?_|refine qa7 (qv16 tok) ?_|refine qa7 qv17 ?_|refine qa7 (qv18 tok) ?_|refine qa7 qv19 ?_|refine qa7 (qv20 tok) ?_|refine qa7 (qv21 tok) ?_|refine qa7 (qv22 tok) ?_|refine qa7 (qv23 tok) ?_|refine qa7 (qv24 tok) ?_|refine qa7 qv26 ?_|refine qa7 qv27 ?_|refine qa1 tok ?_|refine qa2 tok ?_|refine qa3 tok ?_|refine AL.loadR tok rfl rfl rfl rfl rfl rfl ?_|refine qa4 tok ?_|refine qa5 tok ?_|refine AW.block ?_|refine AW.exit ?_|refine AW.skip ?_|((fail_if_success (refine AL.guard (b := true) rfl rfl ?_ ?_)); (fail_if_success (refine AL.guard (b := false) rfl rfl ?_ ?_)); refine AL.guard rfl rfl (fun hg => ?_) (fun hg => ?_) <;> ((try simp only [DX] at hg) <;> (try first|(exfalso; omega)|exact absurd trivial hg|exact False.elim hg|exact absurd rfl hg)))|refine AW.condT rfl ?_|refine AW.condF rfl ?_|(refine AW.cond rfl (fun hg => ?_) (fun hg => ?_) <;> ((try simp only [DX] at hg) <;> (try first|(exfalso; omega)|exact absurd trivial hg|exact False.elim hg|exact absurd rfl hg))))
  refine AW.any mix [[], [], [0, 1], [], [], [3, 4], [0, 1, 2, 3, 4, 5], [0, 1, 2, 3, 4, 5, 6]] [[21, 23, 24, 25], [20, 23, 24, 25], [23, 24, 25], [20, 21, 22, 24], [20, 21, 22, 23], [20, 21, 22], [], []] [[], [], [], [], [], [], [], []] [(6, 0), (6, 3)] (by decide +kernel) rfl (by first|assumption|(intro b hb; cases hb)) ?_ <;> repeat' (first|refine AR.step rfl rfl (by first|exact OSp.do tok rfl rfl rfl|exact OSp.no rfl rfl|exact OSp.noN rfl|exact OSp.v rfl rfl qv1|exact OSp.v rfl rfl qv2|exact OSp.v rfl rfl qv3|exact OSp.v rfl rfl (qv4 tok)|exact OSp.v rfl rfl (qv5 tok)|exact OSp.v rfl rfl qv6|exact OSp.v rfl rfl qv7|exact OSp.v rfl rfl (qv8 tok)|exact OSp.v rfl rfl (qv9 tok)|exact OSp.v rfl rfl (qv10 tok)|exact OSp.v rfl rfl (qv11 tok)|exact OSp.v rfl rfl (qv12 tok)|exact OSp.v rfl rfl (qv13 tok)|exact OSp.v rfl rfl (qv14 tok)|exact OSp.v rfl rfl (qv15 tok)|exact OSp.v rfl rfl (qv16 tok)|exact OSp.v rfl rfl qv17|exact OSp.v rfl rfl (qv18 tok)|exact OSp.v rfl rfl qv19|exact OSp.v rfl rfl (qv20 tok)|exact OSp.v rfl rfl (qv21 tok)|exact OSp.v rfl rfl (qv22 tok)|exact OSp.v rfl rfl (qv23 tok)|exact OSp.v rfl rfl (qv24 tok)|exact OSp.v rfl rfl qv26|exact OSp.v rfl rfl qv27|exact OSp.copy tok rfl rfl rfl rfl rfl rfl rfl (by (first | (intro x hx; obtain ⟨_, _, rfl⟩ := List.mem_map.1 hx; rfl) | (intro x hx; replace hx := List.mem_of_mem_take (List.mem_of_mem_drop hx); obtain ⟨_, _, rfl⟩ := List.mem_map.1 hx; rfl) | (simp; done))) rfl rfl rfl rfl|exact OSp.buildSlice tok rfl rfl rfl rfl rfl rfl rfl rfl|exact OSp.append tok rfl rfl rfl rfl rfl rfl rfl rfl rfl rfl rfl (by first|(intro x hx; obtain ⟨_, _, rfl⟩ := List.mem_map.1 hx; rfl)|(simp; done)) (by simp; omega) (by simp; omega)|exact OSp.alloc tok rfl rfl rfl rfl|exact OSp.box tok rfl rfl rfl rfl rfl|exact OSp.boxC tok rfl rfl rfl rfl rfl|exact OSp.store tok rfl rfl rfl rfl rfl rfl rfl rfl|exact OSp.appIn tok rfl rfl rfl rfl rfl (by first|assumption|(intro e; have := congrArg List.length e; simp at this; omega)) rfl rfl (by (first | (intro x hx; obtain ⟨_, _, rfl⟩ := List.mem_map.1 hx; rfl) | (intro x hx; replace hx := List.mem_of_mem_take (List.mem_of_mem_drop hx); obtain ⟨_, _, rfl⟩ := List.mem_map.1 hx; rfl) | (simp; done))) rfl rfl rfl rfl (by first|omega|(simp; omega))|exact OSp.copyX tok rfl rfl rfl rfl rfl rfl rfl rfl (by first|omega|(simp; omega)) (by first|omega|(simp; omega)) (by first|omega|(simp; omega)) (by first|omega|(simp; omega)) (by first|omega|(simp; omega))) (by rfl) (by rfl) ?_|refine AR.done rfl rfl ?_|(refine AR.guard rfl rfl rfl rfl (fun hg => ?_) (fun hg => ?_) <;> ((try simp only [DX] at hg) <;> (try first|(exfalso; omega)|exact absurd trivial hg|exact False.elim hg|exact absurd rfl hg))))
  simp only [Int.toNat_natCast, toNat_succ, Nat.zero_add, Int.toNat_zero]
  rw [del_row _ _ (by omega)]
  simp only [del_len (l.map encI) k (by omega)]
  have hel : (l.map encI).eraseIdx k = (l.eraseIdx k).map encI := by rw [List.eraseIdx_eq_take_drop_succ, List.eraseIdx_eq_take_drop_succ]; simp
  have hell : (l.eraseIdx k).length = l.length - 1 := List.length_eraseIdx_of_lt hk
  rw [hel]
  have hrl : ((l.eraseIdx k).map encI ++ List.drop ((l.map encI).length - 1) (l.map encI)).length = l.length := by simp; omega
  have hne2 : (l.eraseIdx k).map encI ++ List.drop ((l.map encI).length - 1) (l.map encI) ≠ [] := fun e => by rw [e] at hrl; simp at hrl; omega
  repeat' (first|refine AL.do tok rfl rfl ?_|refine AL.nil ?_|refine AW.seq fun K hK => ?_|refine AW.region ?_|refine AL.no rfl rfl ?_|(refine hK _ ?_; clear hK)|(clear hK; refine hK _ ?_; clear hK)|(clear hK; clear hK; refine hK _ ?_; clear hK)|refine qa7 qv1 ?_|refine qa7 qv2 ?_|refine qa7 qv3 ?_|refine qa7 (qv4 tok) ?_|refine qa7 (qv5 tok) ?_|refine qa7 qv6 ?_|refine qa7 qv7 ?_|refine qa7 (qv8 tok) ?_|refine qa7 (qv9 tok) ?_|refine qa7 (qv10 tok) ?_|refine qa7 (qv11 tok) ?_|refine qa7 (qv12 tok) ?_|refine qa7 (qv13 tok) ?_|refine qa7 (qv14 tok) ?_|refine qa7 (qv15 tok) ?_|refine qa7 (qv16 tok) ?_|refine qa7 qv17 ?_|refine qa7 (qv18 tok) ?_|refine qa7 qv19 ?_|refine qa7 (qv20 tok) ?_|refine qa7 (qv21 tok) ?_|refine qa7 (qv22 tok) ?_|refine qa7 (qv23 tok) ?_|refine qa7 (qv24 tok) ?_|refine qa7 qv26 ?_|refine qa7 qv27 ?_|refine qa1 tok ?_|refine qa2 tok ?_|refine qa3 tok ?_|refine AL.loadR tok rfl rfl rfl rfl rfl rfl ?_|refine qa4 tok ?_|refine qa5 tok ?_|refine AW.block ?_|refine AW.exit ?_|refine AW.skip ?_|((fail_if_success (refine AL.guard (b := true) rfl rfl ?_ ?_)); (fail_if_success (refine AL.guard (b := false) rfl rfl ?_ ?_)); refine AL.guard rfl rfl (fun hg => ?_) (fun hg => ?_) <;> ((try simp only [DX] at hg) <;> (try first|(exfalso; omega)|exact absurd trivial hg|exact False.elim hg|exact absurd rfl hg)))|refine AW.condT rfl ?_|refine AW.condF rfl ?_|(refine AW.cond rfl (fun hg => ?_) (fun hg => ?_) <;> ((try simp only [DX] at hg) <;> (try first|(exfalso; omega)|exact absurd trivial hg|exact False.elim hg|exact absurd rfl hg))))
  refine AL.clear tok rfl rfl rfl rfl (by first|assumption|(intro e; have := congrArg List.length e; simp at this; omega)) rfl rfl rfl rfl rfl rfl rfl ?_
  repeat' (first|refine AL.do tok rfl rfl ?_|refine AL.nil ?_|refine AW.seq fun K hK => ?_|refine AW.region ?_|refine AL.no rfl rfl ?_|(refine hK _ ?_; clear hK)|(clear hK; refine hK _ ?_; clear hK)|(clear hK; clear hK; refine hK _ ?_; clear hK)|refine qa7 qv1 ?_|refine qa7 qv2 ?_|refine qa7 qv3 ?_|refine qa7 (qv4 tok) ?_|refine qa7 (qv5 tok) ?_|refine qa7 qv6 ?_|refine qa7 qv7 ?_|refine qa7 (qv8 tok) ?_|refine qa7 (qv9 tok) ?_|refine qa7 (qv10 tok) ?_|refine qa7 (qv11 tok) ?_|refine qa7 (qv12 tok) ?_|refine qa7 (qv13 tok) ?_|refine qa7 (qv14 tok) ?_|refine qa7 (qv15 tok) ?_|refine qa7 (qv16 tok) ?_|refine qa7 qv17 ?_|refine qa7 (qv18 tok) ?_|refine qa7 qv19 ?_|refine qa7 (qv20 tok) ?_|refine qa7 (qv21 tok) ?_|refine qa7 (qv22 tok) ?_|refine qa7 (qv23 tok) ?_|refine qa7 (qv24 tok) ?_|refine qa7 qv26 ?_|refine qa7 qv27 ?_|refine qa1 tok ?_|refine qa2 tok ?_|refine qa3 tok ?_|refine AL.loadR tok rfl rfl rfl rfl rfl rfl ?_|refine qa4 tok ?_|refine qa5 tok ?_|refine AW.block ?_|refine AW.exit ?_|refine AW.skip ?_|((fail_if_success (refine AL.guard (b := true) rfl rfl ?_ ?_)); (fail_if_success (refine AL.guard (b := false) rfl rfl ?_ ?_)); refine AL.guard rfl rfl (fun hg => ?_) (fun hg => ?_) <;> ((try simp only [DX] at hg) <;> (try first|(exfalso; omega)|exact absurd trivial hg|exact False.elim hg|exact absurd rfl hg)))|refine AW.condT rfl ?_|refine AW.condF rfl ?_|(refine AW.cond rfl (fun hg => ?_) (fun hg => ?_) <;> ((try simp only [DX] at hg) <;> (try first|(exfalso; omega)|exact absurd trivial hg|exact False.elim hg|exact absurd rfl hg))))
  simp only [Int.toNat_natCast, Nat.zero_add]
  have hE : ((l.eraseIdx k).map encI).length = (l.map encI).length - 1 := by rw [List.length_map, hell, hlm]
  refine AW.trunc 6 rfl rfl (fun e => ?_) ?_
  · have h3 := congrArg List.length e
    simp only [List.length_append, List.length_take, List.length_replicate, List.length_drop, List.length_nil, hE] at h3
    omega
  refine AW.ret ?_
  refine ⟨_, _, _, _, rfl, Out.row rfl ⟨⟨rfl, ?_⟩, rfl⟩ rfl⟩
  rw [take_front _ _ _ _ hE]


theorem fil_erase {l : List Int} {x : Int} (hs : l.Pairwise (· < ·)) (hx : x ∈ l) : cntS l x < l.length ∧ l.eraseIdx (cntS l x) = l.filter fun y => !decide (y = x) := by
  have h := cntS_mem (x := x) hs
  rw [decide_eq_true hx, Bool.and_eq_true, decide_eq_true_eq] at h
  obtain ⟨h1, h2⟩ := h
  have hk : cntS l x < l.length := by omega
  rw [List.getElem?_eq_getElem hk] at h2
  have h2 : l[cntS l x] = x := by simpa using h2
  refine ⟨hk, ?_⟩
  have hd : l = l.take (cntS l x) ++ l[cntS l x] :: l.drop (cntS l x + 1) := by rw [← List.drop_eq_getElem_cons hk, List.take_append_drop]
  rw [List.eraseIdx_eq_take_drop_succ]
  conv => rhs; rw [hd]
  rw [List.filter_append, List.filter_cons, if_neg (by simp [h2])]
  congr 1
  · refine (List.filter_eq_self.2 fun a ha => ?_).symm
    obtain ⟨j, hj, rfl⟩ := List.getElem_of_mem ha
    rw [List.length_take] at hj
    have h3 := cntS_lt (x := x) (by omega : j < l.length) (by omega)
    rw [List.getElem_take]
    simp only [Bool.not_eq_true', decide_eq_false_iff_not]
    omega
  · refine (List.filter_eq_self.2 fun a ha => ?_).symm
    obtain ⟨j, hj, rfl⟩ := List.getElem_of_mem ha
    rw [List.length_drop] at hj
    have h3 := List.pairwise_iff_getElem.1 hs (cntS l x) (cntS l x + 1 + j) hk (by omega) (by omega)
    rw [List.getElem_drop]
    simp only [Bool.not_eq_true', decide_eq_false_iff_not]
    omega
theorem fil_none {l : List Int} {x : Int} (hx : x ∉ l) : (l.filter fun y => !decide (y = x)) = l := List.filter_eq_self.2 fun a ha => by
  simp only [Bool.not_eq_true', decide_eq_false_iff_not]
  exact fun e => hx (e ▸ ha)
set_option maxHeartbeats 8000000 in
set_option maxRecDepth 10000 in
theorem free_calls (p : Po) (x : Int) (hl : p.used.length ≤ 1000000) (hs : p.used.Pairwise (· < ·)) : ACallP Try.prog 75 [aggP p, i64 x] (.tup [aggP (freeS p x), bo (decide (x ∈ p.used))]) := by
  obtain ⟨l, last⟩ := p
  simp only at hl hs
  have hfs : freeS ⟨l, last⟩ x = ⟨l.filter fun y => !decide (y = x), last⟩ := rfl
  rw [hfs]
  simp only
  have hcl := clone_calls l hl
  have hbs := bs_calls l x hl hs
  refine ACalls.body tok Try.func75 rfl (by kernel_rfl) (by rw [Try.ntmps75]; simp) ?_
  simp only [Try.ntmps75, Try.results75, argT]
  have hlm : (l.map encI).length = l.length := List.length_map ..
  repeat (first|refine AL.do tok rfl rfl ?_|refine AL.nil ?_|refine AW.seq fun K hK => ?_|refine AW.region ?_|refine AL.no rfl rfl ?_|(refine hK _ ?_; clear hK)|(clear hK; refine hK _ ?_; clear hK)|(clear hK; clear hK; refine hK _ ?_; clear hK)|refine qa7 qv1 ?_|refine qa7 qv2 ?_|refine qa7 qv3 ?_|refine qa7 (qv4 tok) ?_|refine qa7 (qv5 tok) ?_|refine qa7 qv6 ?_|refine qa7 qv7 ?_|refine qa7 (qv8 tok) ?_|refine qa7 (qv9 tok) ?_|refine qa7 (qv10 tok) ?_|refine qa7 (qv11 tok) ?_|refine qa7 (qv12 tok) ?_|refine qa7 (qv13 tok) ?_|refine qa7 (qv14 tok) ?_|refine qa7 (qv15 tok) ?_|refine qa7 (qv16 tok) ?_|refine qa7 qv17 ?_|refine qa7 (qv18 tok) ?_|refine qa7 qv19 ?_|refine qa7 (qv20 tok) ?_|refine qa7 (qv21 tok) ?_|refine qa7 (qv22 tok) ?_|refine qa7 (qv23 tok) ?_|refine qa7 (qv24 tok) ?_|refine qa7 qv26 ?_|refine qa7 qv27 ?_|refine qa1 tok ?_|refine qa2 tok ?_|refine qa3 tok ?_|refine AL.loadR tok rfl rfl rfl rfl rfl rfl ?_|refine qa4 tok ?_|refine qa5 tok ?_|refine AW.block ?_|refine AW.exit ?_|refine AW.skip ?_)
  refine AL.callO rfl rfl rfl rfl rfl hcl (fun xs hxs => ?_)
  subst hxs
  repeat (first|refine AL.do tok rfl rfl ?_|refine AL.nil ?_|refine AW.seq fun K hK => ?_|refine AW.region ?_|refine AL.no rfl rfl ?_|(refine hK _ ?_; clear hK)|(clear hK; refine hK _ ?_; clear hK)|(clear hK; clear hK; refine hK _ ?_; clear hK)|refine qa7 qv1 ?_|refine qa7 qv2 ?_|refine qa7 qv3 ?_|refine qa7 (qv4 tok) ?_|refine qa7 (qv5 tok) ?_|refine qa7 qv6 ?_|refine qa7 qv7 ?_|refine qa7 (qv8 tok) ?_|refine qa7 (qv9 tok) ?_|refine qa7 (qv10 tok) ?_|refine qa7 (qv11 tok) ?_|refine qa7 (qv12 tok) ?_|refine qa7 (qv13 tok) ?_|refine qa7 (qv14 tok) ?_|refine qa7 (qv15 tok) ?_|refine qa7 (qv16 tok) ?_|refine qa7 qv17 ?_|refine qa7 (qv18 tok) ?_|refine qa7 qv19 ?_|refine qa7 (qv20 tok) ?_|refine qa7 (qv21 tok) ?_|refine qa7 (qv22 tok) ?_|refine qa7 (qv23 tok) ?_|refine qa7 (qv24 tok) ?_|refine qa7 qv26 ?_|refine qa7 qv27 ?_|refine qa1 tok ?_|refine qa2 tok ?_|refine qa3 tok ?_|refine AL.loadR tok rfl rfl rfl rfl rfl rfl ?_|refine qa4 tok ?_|refine qa5 tok ?_|refine AW.block ?_|refine AW.exit ?_|refine AW.skip ?_|refine qc1 (hbs ..) ?_|refine qc2 (hbs ..) ?_)
  refine AW.cond rfl (fun hg => ?_) (fun hg => ?_)
  · have hx : x ∈ l := of_decide_eq_true hg
    obtain ⟨hk, he⟩ := fil_erase hs hx
    repeat (first|refine AL.do tok rfl rfl ?_|refine AL.nil ?_|refine AW.seq fun K hK => ?_|refine AW.region ?_|refine AL.no rfl rfl ?_|(refine hK _ ?_; clear hK)|(clear hK; refine hK _ ?_; clear hK)|(clear hK; clear hK; refine hK _ ?_; clear hK)|refine qa7 qv1 ?_|refine qa7 qv2 ?_|refine qa7 qv3 ?_|refine qa7 (qv4 tok) ?_|refine qa7 (qv5 tok) ?_|refine qa7 qv6 ?_|refine qa7 qv7 ?_|refine qa7 (qv8 tok) ?_|refine qa7 (qv9 tok) ?_|refine qa7 (qv10 tok) ?_|refine qa7 (qv11 tok) ?_|refine qa7 (qv12 tok) ?_|refine qa7 (qv13 tok) ?_|refine qa7 (qv14 tok) ?_|refine qa7 (qv15 tok) ?_|refine qa7 (qv16 tok) ?_|refine qa7 qv17 ?_|refine qa7 (qv18 tok) ?_|refine qa7 qv19 ?_|refine qa7 (qv20 tok) ?_|refine qa7 (qv21 tok) ?_|refine qa7 (qv22 tok) ?_|refine qa7 (qv23 tok) ?_|refine qa7 (qv24 tok) ?_|refine qa7 qv26 ?_|refine qa7 qv27 ?_|refine qa1 tok ?_|refine qa2 tok ?_|refine qa3 tok ?_|refine AL.loadR tok rfl rfl rfl rfl rfl rfl ?_|refine qa4 tok ?_|refine qa5 tok ?_|refine AW.block ?_|refine AW.exit ?_|refine AW.skip ?_)
    refine AL.callGO (ys := [.own (.loc 0), i64 (cntS l x), i64 ((cntS l x : Int) + 1)]) rfl rfl rfl rfl rfl rfl rfl (delete_calls l (cntS l x) hk hl) ?_
    rw [he]
    repeat (first|refine AL.do tok rfl rfl ?_|refine AL.nil ?_|refine AW.seq fun K hK => ?_|refine AW.region ?_|refine AL.no rfl rfl ?_|(refine hK _ ?_; clear hK)|(clear hK; refine hK _ ?_; clear hK)|(clear hK; clear hK; refine hK _ ?_; clear hK)|refine qa7 qv1 ?_|refine qa7 qv2 ?_|refine qa7 qv3 ?_|refine qa7 (qv4 tok) ?_|refine qa7 (qv5 tok) ?_|refine qa7 qv6 ?_|refine qa7 qv7 ?_|refine qa7 (qv8 tok) ?_|refine qa7 (qv9 tok) ?_|refine qa7 (qv10 tok) ?_|refine qa7 (qv11 tok) ?_|refine qa7 (qv12 tok) ?_|refine qa7 (qv13 tok) ?_|refine qa7 (qv14 tok) ?_|refine qa7 (qv15 tok) ?_|refine qa7 (qv16 tok) ?_|refine qa7 qv17 ?_|refine qa7 (qv18 tok) ?_|refine qa7 qv19 ?_|refine qa7 (qv20 tok) ?_|refine qa7 (qv21 tok) ?_|refine qa7 (qv22 tok) ?_|refine qa7 (qv23 tok) ?_|refine qa7 (qv24 tok) ?_|refine qa7 qv26 ?_|refine qa7 qv27 ?_|refine qa1 tok ?_|refine qa2 tok ?_|refine qa3 tok ?_|refine AL.loadR tok rfl rfl rfl rfl rfl rfl ?_|refine qa4 tok ?_|refine qa5 tok ?_|refine AW.block ?_|refine AW.exit ?_|refine AW.skip ?_)
    refine AW.frz 3 rfl rfl rfl ?_
    repeat (first|refine AL.do tok rfl rfl ?_|refine AL.nil ?_|refine AW.seq fun K hK => ?_|refine AW.region ?_|refine AL.no rfl rfl ?_|(refine hK _ ?_; clear hK)|(clear hK; refine hK _ ?_; clear hK)|(clear hK; clear hK; refine hK _ ?_; clear hK)|refine qa7 qv1 ?_|refine qa7 qv2 ?_|refine qa7 qv3 ?_|refine qa7 (qv4 tok) ?_|refine qa7 (qv5 tok) ?_|refine qa7 qv6 ?_|refine qa7 qv7 ?_|refine qa7 (qv8 tok) ?_|refine qa7 (qv9 tok) ?_|refine qa7 (qv10 tok) ?_|refine qa7 (qv11 tok) ?_|refine qa7 (qv12 tok) ?_|refine qa7 (qv13 tok) ?_|refine qa7 (qv14 tok) ?_|refine qa7 (qv15 tok) ?_|refine qa7 (qv16 tok) ?_|refine qa7 qv17 ?_|refine qa7 (qv18 tok) ?_|refine qa7 qv19 ?_|refine qa7 (qv20 tok) ?_|refine qa7 (qv21 tok) ?_|refine qa7 (qv22 tok) ?_|refine qa7 (qv23 tok) ?_|refine qa7 (qv24 tok) ?_|refine qa7 qv26 ?_|refine qa7 qv27 ?_|refine qa1 tok ?_|refine qa2 tok ?_|refine qa3 tok ?_|refine AL.loadR tok rfl rfl rfl rfl rfl rfl ?_|refine qa4 tok ?_|refine qa5 tok ?_|refine AW.block ?_|refine AW.exit ?_|refine AW.skip ?_)
    refine AW.ret ?_
    refine ⟨_, _, _, _, rfl, Out.pure rfl ⟨?_, rfl⟩ rfl⟩
    rfl
  · have hx : x ∉ l := of_decide_eq_false hg
    rw [fil_none hx] at *
    refine AW.frz 2 rfl rfl rfl ?_
    repeat (first|refine AL.do tok rfl rfl ?_|refine AL.nil ?_|refine AW.seq fun K hK => ?_|refine AW.region ?_|refine AL.no rfl rfl ?_|(refine hK _ ?_; clear hK)|(clear hK; refine hK _ ?_; clear hK)|(clear hK; clear hK; refine hK _ ?_; clear hK)|refine qa7 qv1 ?_|refine qa7 qv2 ?_|refine qa7 qv3 ?_|refine qa7 (qv4 tok) ?_|refine qa7 (qv5 tok) ?_|refine qa7 qv6 ?_|refine qa7 qv7 ?_|refine qa7 (qv8 tok) ?_|refine qa7 (qv9 tok) ?_|refine qa7 (qv10 tok) ?_|refine qa7 (qv11 tok) ?_|refine qa7 (qv12 tok) ?_|refine qa7 (qv13 tok) ?_|refine qa7 (qv14 tok) ?_|refine qa7 (qv15 tok) ?_|refine qa7 (qv16 tok) ?_|refine qa7 qv17 ?_|refine qa7 (qv18 tok) ?_|refine qa7 qv19 ?_|refine qa7 (qv20 tok) ?_|refine qa7 (qv21 tok) ?_|refine qa7 (qv22 tok) ?_|refine qa7 (qv23 tok) ?_|refine qa7 (qv24 tok) ?_|refine qa7 qv26 ?_|refine qa7 qv27 ?_|refine qa1 tok ?_|refine qa2 tok ?_|refine qa3 tok ?_|refine AL.loadR tok rfl rfl rfl rfl rfl rfl ?_|refine qa4 tok ?_|refine qa5 tok ?_|refine AW.block ?_|refine AW.exit ?_|refine AW.skip ?_)
    refine AW.ret ?_
    refine ⟨_, _, _, _, rfl, Out.pure rfl ⟨?_, rfl⟩ rfl⟩
    rfl
end Go.Proofs.Try
