/- fair: the law FairPlays: what it computes is true. -/
import Derived.Test.YtpohebmofcdeiaaFairL
import Derived.Test.YtpohebmofcdeiaaAM42
set_option linter.unusedSimpArgs false
set_option linter.unusedVariables false
namespace Go.Proofs.Try
open Go Go.AM

theorem checkL_valid : ∀ {l p : List C}, checkL p l = 0 → ∀ c ∈ l, validS c = 0
  | [], p, _, c, hc => by cases hc
  | a :: l, p, h, c, hc => by
    unfold checkL at h
    by_cases h1 : oneS p a = 0
    · rw [if_pos h1] at h
      rcases List.mem_cons.1 hc with rfl | hc
      · unfold oneS at h1
        by_cases h2 : validS c = 0
        · exact h2
        · rw [if_neg h2] at h1; exact h1
      · exact checkL_valid h c hc
    · rw [if_neg h1] at h; exact absurd h h1
theorem validS_un {c : C} (h : validS c = 0) : 0 ≤ c.unacked ∧ c.unacked ≤ 1099511627776 := by
  unfold validS at h
  by_cases h1 : inC c = true
  · unfold inC inB at h1
    simp only [Bool.and_eq_true, decide_eq_true_eq] at h1
    exact h1.2
  · rw [if_neg h1] at h; omega
/-- A list that the calls keep. -/
def Inv (l : List C) : Prop := l.length ≤ 32 ∧ OkU l
theorem check_inv {l : List C} (h : checkS l = 0) : Inv l := by
  unfold checkS at h
  by_cases h1 : 32 < l.length
  · rw [if_pos h1] at h; omega
  · rw [if_neg h1] at h
    exact ⟨by omega, fun c hc => validS_un (checkL_valid h c hc)⟩
theorem add_inv {l : List C} {c : C} (h : Inv l) (he : (addS l c).2 = 0) : Inv (addS l c).1 := by
  unfold addS at *
  by_cases h1 : oneS l c = 0
  · rw [if_pos h1] at *
    by_cases h2 : 32 ≤ l.length
    · rw [if_pos h2] at he; exact absurd he (by decide)
    · rw [if_neg h2]
      refine ⟨by simp; omega, fun d hd => ?_⟩
      rcases List.mem_append.1 hd with hd | hd
      · exact h.2 d hd
      · obtain rfl : d = c := by simpa using hd
        refine validS_un ?_
        unfold oneS at h1
        by_cases h3 : validS d = 0
        · exact h3
        · rw [if_neg h3] at h1; exact h1
  · rw [if_neg h1] at he; exact absurd he h1
theorem remove_inv {l : List C} {a b : Int} (h : Inv l) : Inv (removeS l a b).1 := by
  unfold removeS
  split
  · exact ⟨by simp, fun d hd => by cases hd⟩
  · exact ⟨Nat.le_trans (List.eraseIdx_sublist ..).length_le h.1, fun d hd => h.2 d ((List.eraseIdx_sublist ..).subset hd)⟩
theorem clamp_in {u n : Int} (h : 0 ≤ u ∧ u ≤ 1099511627776) : 0 ≤ clampS u n ∧ clampS u n ≤ 1099511627776 := by
  unfold clampS
  split
  · omega
  · split <;> omega
theorem count_inv {l : List C} {a b n : Int} (h : Inv l) : Inv (countS l a b n) := by
  unfold countS
  split
  · exact h
  · split
    · rename_i c hc
      refine ⟨by rw [List.length_set]; exact h.1, fun d hd => ?_⟩
      rcases List.mem_or_eq_of_mem_set hd with hd | rfl
      · exact h.2 d hd
      · exact clamp_in (h.2 c (List.mem_of_getElem? hc))
    · exact h

structure OpF where
  kind : Int
  n : Int
  c : C
def encOF (o : OpF) : List D := [.one (.int .i64 o.kind), .one (.int .i64 o.n), .one (.int .i64 o.c.tag), .one (.int .i64 o.c.conn), .one (.string o.c.queue), .one (.int .i64 o.c.prefetch), .one (.int .i64 o.c.unacked)]
abbrev rowOF (l : List OpF) : AV := .d (.row (l.map encOF))
theorem dt_OF {ds : List D} (h : DT ts 37 ds) : ∃ o, ds = encOF o ∧ True := by
  obtain ⟨hl, hf⟩ := DT.strct_inv rfl h
  match ds, hl with
  | [a, b, c0, c1, c2, c3, c4], _ =>
    obtain ⟨n0, e0, _⟩ := DT.int_inv rfl (hf 0 _ _ _ rfl rfl rfl)
    obtain ⟨n1, e1, _⟩ := DT.int_inv rfl (hf 1 _ _ _ rfl rfl rfl)
    obtain ⟨c, e2, _⟩ := dt_C (hf 2 _ _ _ rfl rfl rfl)
    simp [encC] at e0 e1 e2
    exact ⟨⟨n0, n1, c⟩, by simp [encOF, e0, e1, e2], trivial⟩
theorem at_OF {x : AV} (h : AT ts 35 x) : ∃ l : List OpF, x = rowOF l ∧ l.length ≤ 9223372036854775807 := by
  obtain ⟨y, rfl, hd⟩ := h
  obtain ⟨xs, e, hl, hx⟩ := DT.slice_inv rfl hd
  cases e
  obtain ⟨l, rfl, _⟩ := list_decode xs (fun x hx' => dt_OF (hx x hx'))
  exact ⟨l, rfl, by rw [List.length_map] at hl; exact hl⟩
theorem eq_t (l : List C) : ACallP Try.prog 22 [rowC l, rowC l] (bo true) := by
  have := equal_calls l l
  rw [equalB_iff.2 rfl] at this
  exact this

set_option maxHeartbeats 16000000 in
set_option maxRecDepth 10000 in
theorem fairPlays_law (x0 x1 : AV) (h0 : AT ts 22 x0) (h1 : AT ts 35 x1) : ACallP Try.prog 6 [x0, x1] (bo true) := by
  obtain ⟨l, rfl, hl⟩ := at_C h0
  obtain ⟨ops, rfl, hlo⟩ := at_OF h1
  have hlm : (ops.map encOF).length = ops.length := List.length_map ..
  have kc := refCheck_calls l
  have hinv := check_inv (l := l)
  generalize checkS l = e at *
  by_cases he : e = 0
  rotate_left
  · refine ACalls.body tok Try.func6 rfl (by kernel_rfl) (by rw [Try.ntmps6]; simp) ?_
    simp only [Try.ntmps6, Try.results6, argT]
    repeat' (first|refine AL.do tok rfl rfl ?_|refine AL.nil ?_|refine AW.seq fun K hK => ?_|refine AW.region ?_|refine AL.no rfl rfl ?_|(refine hK _ ?_; clear hK)|(clear hK; refine hK _ ?_; clear hK)|(clear hK; clear hK; refine hK _ ?_; clear hK)|refine qa7 qv1 ?_|refine qa7 qv2 ?_|refine qa7 qv3 ?_|refine qa7 (qv4 tok) ?_|refine qa7 (qv5 tok) ?_|refine qa7 qv6 ?_|refine qa7 qv7 ?_|refine qa7 (qv8 tok) ?_|refine qa7 (qv9 tok) ?_|refine qa7 (qv10 tok) ?_|refine qa7 (qv11 tok) ?_|refine qa7 (qv12 tok) ?_|refine qa7 (qv13 tok) ?_|refine qa7 (qv14 tok) ?_|refine qa7 (qv15 tok) ?_|refine qa7 (qv16 tok) ?_|refine qa7 qv17 ?_|refine qa7 (qv18 tok) ?_|refine qa7 qv19 ?_|refine qa7 (qv20 tok) ?_|refine qa7 (qv21 tok) ?_|refine qa7 (qv22 tok) ?_|refine qa7 (qv23 tok) ?_|refine qa1 tok ?_|refine qa2 tok ?_|refine qa3 tok ?_|refine AL.loadR tok rfl rfl rfl rfl rfl rfl ?_|refine qa4 tok ?_|refine qa5 tok ?_|refine AW.block ?_|refine AW.exit ?_|refine AW.skip ?_|refine qc1 (kc ..) ?_|refine qc2 (kc ..) ?_|refine qc1 (example_calls ..) ?_|refine qc2 (example_calls ..) ?_|((fail_if_success (refine AL.guard (b := true) rfl rfl ?_ ?_)); (fail_if_success (refine AL.guard (b := false) rfl rfl ?_ ?_)); refine AL.guard rfl rfl (fun hg => ?_) (fun hg => ?_) <;> ((try simp only [DX] at hg) <;> (try first|(exfalso; omega)|exact absurd trivial hg|exact False.elim hg|exact absurd rfl hg)))|refine AW.condT rfl ?_|refine AW.condF rfl ?_|(refine AW.cond rfl (fun hg => ?_) (fun hg => ?_) <;> ((try simp only [DX] at hg) <;> (try first|(exfalso; omega)|exact absurd trivial hg|exact False.elim hg|exact absurd rfl hg)))|refine AW.ret ?_)
    all_goals (refine ⟨_, _, _, _, rfl, Out.pure rfl ⟨?_, rfl⟩ rfl⟩; rfl)
  by_cases hlen : ops.length ≤ 80
  rotate_left
  · subst he
    refine ACalls.body tok Try.func6 rfl (by kernel_rfl) (by rw [Try.ntmps6]; simp) ?_
    simp only [Try.ntmps6, Try.results6, argT]
    repeat' (first|refine AL.do tok rfl rfl ?_|refine AL.nil ?_|refine AW.seq fun K hK => ?_|refine AW.region ?_|refine AL.no rfl rfl ?_|(refine hK _ ?_; clear hK)|(clear hK; refine hK _ ?_; clear hK)|(clear hK; clear hK; refine hK _ ?_; clear hK)|refine qa7 qv1 ?_|refine qa7 qv2 ?_|refine qa7 qv3 ?_|refine qa7 (qv4 tok) ?_|refine qa7 (qv5 tok) ?_|refine qa7 qv6 ?_|refine qa7 qv7 ?_|refine qa7 (qv8 tok) ?_|refine qa7 (qv9 tok) ?_|refine qa7 (qv10 tok) ?_|refine qa7 (qv11 tok) ?_|refine qa7 (qv12 tok) ?_|refine qa7 (qv13 tok) ?_|refine qa7 (qv14 tok) ?_|refine qa7 (qv15 tok) ?_|refine qa7 (qv16 tok) ?_|refine qa7 qv17 ?_|refine qa7 (qv18 tok) ?_|refine qa7 qv19 ?_|refine qa7 (qv20 tok) ?_|refine qa7 (qv21 tok) ?_|refine qa7 (qv22 tok) ?_|refine qa7 (qv23 tok) ?_|refine qa1 tok ?_|refine qa2 tok ?_|refine qa3 tok ?_|refine AL.loadR tok rfl rfl rfl rfl rfl rfl ?_|refine qa4 tok ?_|refine qa5 tok ?_|refine AW.block ?_|refine AW.exit ?_|refine AW.skip ?_|refine qc1 (kc ..) ?_|refine qc2 (kc ..) ?_|refine qc1 (example_calls ..) ?_|refine qc2 (example_calls ..) ?_|((fail_if_success (refine AL.guard (b := true) rfl rfl ?_ ?_)); (fail_if_success (refine AL.guard (b := false) rfl rfl ?_ ?_)); refine AL.guard rfl rfl (fun hg => ?_) (fun hg => ?_) <;> ((try simp only [DX] at hg) <;> (try first|(exfalso; omega)|exact absurd trivial hg|exact False.elim hg|exact absurd rfl hg)))|refine AW.condT rfl ?_|refine AW.condF rfl ?_|(refine AW.cond rfl (fun hg => ?_) (fun hg => ?_) <;> ((try simp only [DX] at hg) <;> (try first|(exfalso; omega)|exact absurd trivial hg|exact False.elim hg|exact absurd rfl hg)))|refine AW.ret ?_)
    all_goals (refine ⟨_, _, _, _, rfl, Out.pure rfl ⟨?_, rfl⟩ rfl⟩; rfl)
  have hinv2 := hinv he
  subst he
  refine ACalls.body tok Try.func6 rfl (by kernel_rfl) (by rw [Try.ntmps6]; simp) ?_
  simp only [Try.ntmps6, Try.results6, argT]
  repeat' (first|refine AL.do tok rfl rfl ?_|refine AL.nil ?_|refine AW.seq fun K hK => ?_|refine AW.region ?_|refine AL.no rfl rfl ?_|(refine hK _ ?_; clear hK)|(clear hK; refine hK _ ?_; clear hK)|(clear hK; clear hK; refine hK _ ?_; clear hK)|refine qa7 qv1 ?_|refine qa7 qv2 ?_|refine qa7 qv3 ?_|refine qa7 (qv4 tok) ?_|refine qa7 (qv5 tok) ?_|refine qa7 qv6 ?_|refine qa7 qv7 ?_|refine qa7 (qv8 tok) ?_|refine qa7 (qv9 tok) ?_|refine qa7 (qv10 tok) ?_|refine qa7 (qv11 tok) ?_|refine qa7 (qv12 tok) ?_|refine qa7 (qv13 tok) ?_|refine qa7 (qv14 tok) ?_|refine qa7 (qv15 tok) ?_|refine qa7 (qv16 tok) ?_|refine qa7 qv17 ?_|refine qa7 (qv18 tok) ?_|refine qa7 qv19 ?_|refine qa7 (qv20 tok) ?_|refine qa7 (qv21 tok) ?_|refine qa7 (qv22 tok) ?_|refine qa7 (qv23 tok) ?_|refine qa1 tok ?_|refine qa2 tok ?_|refine qa3 tok ?_|refine AL.loadR tok rfl rfl rfl rfl rfl rfl ?_|refine qa4 tok ?_|refine qa5 tok ?_|refine AW.block ?_|refine AW.exit ?_|refine AW.skip ?_|refine qc1 (kc ..) ?_|refine qc2 (kc ..) ?_|refine qc1 (example_calls ..) ?_|refine qc2 (example_calls ..) ?_|((fail_if_success (refine AL.guard (b := true) rfl rfl ?_ ?_)); (fail_if_success (refine AL.guard (b := false) rfl rfl ?_ ?_)); refine AL.guard rfl rfl (fun hg => ?_) (fun hg => ?_) <;> ((try simp only [DX] at hg) <;> (try first|(exfalso; omega)|exact absurd trivial hg|exact False.elim hg|exact absurd rfl hg)))|refine AW.condT rfl ?_|refine AW.condF rfl ?_|(refine AW.cond rfl (fun hg => ?_) (fun hg => ?_) <;> ((try simp only [DX] at hg) <;> (try first|(exfalso; omega)|exact absurd trivial hg|exact False.elim hg|exact absurd rfl hg))))
  refine AW.loop (ι := Nat × List C) (fun x => ⟨102, [(22, i64 x.1), (21, i64 ops.length), (20, rowOF ops), (0, rowC x.2)], [], [], 0⟩)
    (fun x => x.1 ≤ ops.length ∧ Inv x.2) (fun x => ops.length - x.1) (0, l) ⟨Nat.zero_le _, hinv2⟩ ?_ ?_
  · rw [← hlm]
    (refine Imp.weak id (fun _ _ _ _ h => h) (by first|assumption|(intro b hb; cases hb)) ?_ ?_ <;> (repeat' (first|exact trivial|exact Nat.lt_of_lt_of_le (Nat.lt_succ_self _) (Nat.le_of_ble_eq_true rfl)|exact rfl|exact Or.inl ⟨rfl, rfl⟩|exact Or.inr ⟨rfl, LF.fn _ _ ‹_›⟩|refine ⟨?_, ?_⟩)))
  rintro ⟨i, L⟩ ⟨hi, hI⟩ K1 hK1
  simp only at hi hI
  dsimp only
  have hLl : L.length ≤ 1000000 := by have := hI.1; omega
  by_cases hlt : i < ops.length
  · have ka := add_calls L ops[i].c hLl
    have ka2 := refAdd_calls L ops[i].c hLl
    have kr := remove_calls L ops[i].c.conn ops[i].c.tag hLl
    have kr2 := refRemove_calls L ops[i].c.conn ops[i].c.tag hLl
    have ku := count26_calls L ops[i].c.conn ops[i].c.tag ops[i].n hLl hI.2
    have ku2 := refCount_calls L ops[i].c.conn ops[i].c.tag ops[i].n hLl hI.2
    have ia : (addS L ops[i].c).2 = 0 → Inv (addS L ops[i].c).1 := add_inv hI
    have ir := remove_inv (a := ops[i].c.conn) (b := ops[i].c.tag) hI
    have iu := count_inv (a := ops[i].c.conn) (b := ops[i].c.tag) (n := ops[i].n) hI
    generalize addS L ops[i].c = ra at *
    generalize removeS L ops[i].c.conn ops[i].c.tag = rr at *
    generalize countS L ops[i].c.conn ops[i].c.tag ops[i].n = ru at *
    obtain ⟨ra1, ra2⟩ := ra
    obtain ⟨rr1, rr2⟩ := rr
    have ea := eq_t ra1
    have er := eq_t rr1
    have eu := eq_t ru
    simp only at ia ir iu
    by_cases k0 : ops[i].kind = 0
    · repeat' (first|refine AL.do tok rfl rfl ?_|refine AL.nil ?_|refine AW.seq fun K hK => ?_|refine AW.region ?_|refine AL.no rfl rfl ?_|(refine hK _ ?_; clear hK)|(clear hK; refine hK _ ?_; clear hK)|(clear hK; clear hK; refine hK _ ?_; clear hK)|refine qa7 qv1 ?_|refine qa7 qv2 ?_|refine qa7 qv3 ?_|refine qa7 (qv4 tok) ?_|refine qa7 (qv5 tok) ?_|refine qa7 qv6 ?_|refine qa7 qv7 ?_|refine qa7 (qv8 tok) ?_|refine qa7 (qv9 tok) ?_|refine qa7 (qv10 tok) ?_|refine qa7 (qv11 tok) ?_|refine qa7 (qv12 tok) ?_|refine qa7 (qv13 tok) ?_|refine qa7 (qv14 tok) ?_|refine qa7 (qv15 tok) ?_|refine qa7 (qv16 tok) ?_|refine qa7 qv17 ?_|refine qa7 (qv18 tok) ?_|refine qa7 qv19 ?_|refine qa7 (qv20 tok) ?_|refine qa7 (qv21 tok) ?_|refine qa7 (qv22 tok) ?_|refine qa7 (qv23 tok) ?_|refine qa1 tok ?_|refine qa2 tok ?_|refine qa3 tok ?_|refine AL.loadR tok rfl rfl rfl rfl rfl rfl ?_|refine qa4 tok ?_|refine qa5 tok ?_|refine AW.block ?_|refine AW.exit ?_|refine AW.skip ?_|refine qc1 (ka ..) ?_|refine qc2 (ka ..) ?_|refine qc1 (ka2 ..) ?_|refine qc2 (ka2 ..) ?_|refine qc1 (ea ..) ?_|refine qc2 (ea ..) ?_|((fail_if_success (refine AL.guard (b := true) rfl rfl ?_ ?_)); (fail_if_success (refine AL.guard (b := false) rfl rfl ?_ ?_)); refine AL.guard rfl rfl (fun hg => ?_) (fun hg => ?_) <;> ((try simp only [DX] at hg) <;> (try first|(exfalso; omega)|exact absurd trivial hg|exact False.elim hg|exact absurd rfl hg)))|refine AW.condT rfl ?_|refine AW.condF rfl ?_|(refine AW.cond rfl (fun hg => ?_) (fun hg => ?_) <;> ((try simp only [DX] at hg) <;> (try first|(exfalso; omega)|exact absurd trivial hg|exact False.elim hg|exact absurd rfl hg))))
      all_goals first
        | (refine hK1 _ (i + 1, ra1) ⟨by simp only; omega, ia ‹_›⟩ (by simp only; omega) ?_
           (refine Imp.weak id (fun _ _ _ _ h => h) (by first|assumption|(intro b hb; cases hb)) ?_ ?_ <;> (repeat' (first|exact trivial|exact Nat.lt_of_lt_of_le (Nat.lt_succ_self _) (Nat.le_of_ble_eq_true rfl)|exact rfl|exact Or.inl ⟨rfl, rfl⟩|exact Or.inr ⟨rfl, LF.fn _ _ ‹_›⟩|refine ⟨?_, ?_⟩)))
           done)
        | (refine hK1 _ (i + 1, L) ⟨by simp only; omega, hI⟩ (by simp only; omega) ?_
           (refine Imp.weak id (fun _ _ _ _ h => h) (by first|assumption|(intro b hb; cases hb)) ?_ ?_ <;> (repeat' (first|exact trivial|exact Nat.lt_of_lt_of_le (Nat.lt_succ_self _) (Nat.le_of_ble_eq_true rfl)|exact rfl|exact Or.inl ⟨rfl, rfl⟩|exact Or.inr ⟨rfl, LF.fn _ _ ‹_›⟩|refine ⟨?_, ?_⟩)))
           done)
    · by_cases k1 : ops[i].kind = 1
      · repeat' (first|refine AL.do tok rfl rfl ?_|refine AL.nil ?_|refine AW.seq fun K hK => ?_|refine AW.region ?_|refine AL.no rfl rfl ?_|(refine hK _ ?_; clear hK)|(clear hK; refine hK _ ?_; clear hK)|(clear hK; clear hK; refine hK _ ?_; clear hK)|refine qa7 qv1 ?_|refine qa7 qv2 ?_|refine qa7 qv3 ?_|refine qa7 (qv4 tok) ?_|refine qa7 (qv5 tok) ?_|refine qa7 qv6 ?_|refine qa7 qv7 ?_|refine qa7 (qv8 tok) ?_|refine qa7 (qv9 tok) ?_|refine qa7 (qv10 tok) ?_|refine qa7 (qv11 tok) ?_|refine qa7 (qv12 tok) ?_|refine qa7 (qv13 tok) ?_|refine qa7 (qv14 tok) ?_|refine qa7 (qv15 tok) ?_|refine qa7 (qv16 tok) ?_|refine qa7 qv17 ?_|refine qa7 (qv18 tok) ?_|refine qa7 qv19 ?_|refine qa7 (qv20 tok) ?_|refine qa7 (qv21 tok) ?_|refine qa7 (qv22 tok) ?_|refine qa7 (qv23 tok) ?_|refine qa1 tok ?_|refine qa2 tok ?_|refine qa3 tok ?_|refine AL.loadR tok rfl rfl rfl rfl rfl rfl ?_|refine qa4 tok ?_|refine qa5 tok ?_|refine AW.block ?_|refine AW.exit ?_|refine AW.skip ?_|refine qc1 (kr ..) ?_|refine qc2 (kr ..) ?_|refine qc1 (kr2 ..) ?_|refine qc2 (kr2 ..) ?_|refine qc1 (er ..) ?_|refine qc2 (er ..) ?_|((fail_if_success (refine AL.guard (b := true) rfl rfl ?_ ?_)); (fail_if_success (refine AL.guard (b := false) rfl rfl ?_ ?_)); refine AL.guard rfl rfl (fun hg => ?_) (fun hg => ?_) <;> ((try simp only [DX] at hg) <;> (try first|(exfalso; omega)|exact absurd trivial hg|exact False.elim hg|exact absurd rfl hg)))|refine AW.condT rfl ?_|refine AW.condF rfl ?_|(refine AW.cond rfl (fun hg => ?_) (fun hg => ?_) <;> ((try simp only [DX] at hg) <;> (try first|(exfalso; omega)|exact absurd trivial hg|exact False.elim hg|exact absurd rfl hg))))
        all_goals first
          | (refine hK1 _ (i + 1, rr1) ⟨by simp only; omega, ir⟩ (by simp only; omega) ?_
             (refine Imp.weak id (fun _ _ _ _ h => h) (by first|assumption|(intro b hb; cases hb)) ?_ ?_ <;> (repeat' (first|exact trivial|exact Nat.lt_of_lt_of_le (Nat.lt_succ_self _) (Nat.le_of_ble_eq_true rfl)|exact rfl|exact Or.inl ⟨rfl, rfl⟩|exact Or.inr ⟨rfl, LF.fn _ _ ‹_›⟩|refine ⟨?_, ?_⟩)))
             done)
          | (refine hK1 _ (i + 1, L) ⟨by simp only; omega, hI⟩ (by simp only; omega) ?_
             (refine Imp.weak id (fun _ _ _ _ h => h) (by first|assumption|(intro b hb; cases hb)) ?_ ?_ <;> (repeat' (first|exact trivial|exact Nat.lt_of_lt_of_le (Nat.lt_succ_self _) (Nat.le_of_ble_eq_true rfl)|exact rfl|exact Or.inl ⟨rfl, rfl⟩|exact Or.inr ⟨rfl, LF.fn _ _ ‹_›⟩|refine ⟨?_, ?_⟩)))
             done)
      · repeat' (first|refine AL.do tok rfl rfl ?_|refine AL.nil ?_|refine AW.seq fun K hK => ?_|refine AW.region ?_|refine AL.no rfl rfl ?_|(refine hK _ ?_; clear hK)|(clear hK; refine hK _ ?_; clear hK)|(clear hK; clear hK; refine hK _ ?_; clear hK)|refine qa7 qv1 ?_|refine qa7 qv2 ?_|refine qa7 qv3 ?_|refine qa7 (qv4 tok) ?_|refine qa7 (qv5 tok) ?_|refine qa7 qv6 ?_|refine qa7 qv7 ?_|refine qa7 (qv8 tok) ?_|refine qa7 (qv9 tok) ?_|refine qa7 (qv10 tok) ?_|refine qa7 (qv11 tok) ?_|refine qa7 (qv12 tok) ?_|refine qa7 (qv13 tok) ?_|refine qa7 (qv14 tok) ?_|refine qa7 (qv15 tok) ?_|refine qa7 (qv16 tok) ?_|refine qa7 qv17 ?_|refine qa7 (qv18 tok) ?_|refine qa7 qv19 ?_|refine qa7 (qv20 tok) ?_|refine qa7 (qv21 tok) ?_|refine qa7 (qv22 tok) ?_|refine qa7 (qv23 tok) ?_|refine qa1 tok ?_|refine qa2 tok ?_|refine qa3 tok ?_|refine AL.loadR tok rfl rfl rfl rfl rfl rfl ?_|refine qa4 tok ?_|refine qa5 tok ?_|refine AW.block ?_|refine AW.exit ?_|refine AW.skip ?_|refine qc1 (eu ..) ?_|refine qc2 (eu ..) ?_|((fail_if_success (refine AL.guard (b := true) rfl rfl ?_ ?_)); (fail_if_success (refine AL.guard (b := false) rfl rfl ?_ ?_)); refine AL.guard rfl rfl (fun hg => ?_) (fun hg => ?_) <;> ((try simp only [DX] at hg) <;> (try first|(exfalso; omega)|exact absurd trivial hg|exact False.elim hg|exact absurd rfl hg)))|refine AW.condT rfl ?_|refine AW.condF rfl ?_|(refine AW.cond rfl (fun hg => ?_) (fun hg => ?_) <;> ((try simp only [DX] at hg) <;> (try first|(exfalso; omega)|exact absurd trivial hg|exact False.elim hg|exact absurd rfl hg))))
        refine AW.any mix [[], [], [1], [1, 2], [], [4], [4, 5], [], [7], [0, 1, 2, 3, 4, 5, 6, 7, 8], [], [], [11], [11, 12], [], [14], [14, 15], [], [17], [0, 1, 2, 3, 4, 5, 6, 7, 8, 9, 10, 11, 12, 13, 14, 15, 16, 17, 18], [0, 1, 2, 3, 4, 5, 6, 7, 8, 9, 10, 11, 12, 13, 14, 15, 16, 17, 18, 19], [0, 1, 2, 3, 4, 5, 6, 7, 8, 9, 10, 11, 12, 13, 14, 15, 16, 17, 18, 19, 20]] [[29, 30, 31, 32, 33, 34, 35, 36, 38, 39, 40, 41, 42, 43, 44, 45, 46], [28, 32, 33, 34, 35, 36, 38, 39, 40, 41, 42, 43, 44, 45, 46], [28, 32, 33, 34, 35, 36, 38, 39, 40, 41, 42, 43, 44, 45, 46], [28, 32, 33, 34, 35, 36, 38, 39, 40, 41, 42, 43, 44, 45, 46], [28, 29, 30, 31, 35, 36, 38, 39, 40, 41, 42, 43, 44, 45, 46], [28, 29, 30, 31, 35, 36, 38, 39, 40, 41, 42, 43, 44, 45, 46], [28, 29, 30, 31, 35, 36, 38, 39, 40, 41, 42, 43, 44, 45, 46], [28, 29, 30, 31, 32, 33, 34, 38, 39, 40, 41, 42, 43, 44, 45, 46], [28, 29, 30, 31, 32, 33, 34, 38, 39, 40, 41, 42, 43, 44, 45, 46], [38, 39, 40, 41, 42, 43, 44, 45, 46], [28, 29, 30, 31, 32, 33, 34, 35, 36, 37, 39, 40, 41, 42, 43, 44, 45, 46], [28, 29, 30, 31, 32, 33, 34, 35, 36, 37, 38, 42, 43, 44, 45, 46], [28, 29, 30, 31, 32, 33, 34, 35, 36, 37, 38, 42, 43, 44, 45, 46], [28, 29, 30, 31, 32, 33, 34, 35, 36, 37, 38, 42, 43, 44, 45, 46], [28, 29, 30, 31, 32, 33, 34, 35, 36, 37, 38, 39, 40, 41, 45, 46], [28, 29, 30, 31, 32, 33, 34, 35, 36, 37, 38, 39, 40, 41, 45, 46], [28, 29, 30, 31, 32, 33, 34, 35, 36, 37, 38, 39, 40, 41, 45, 46], [28, 29, 30, 31, 32, 33, 34, 35, 36, 37, 38, 39, 40, 41, 42, 43, 44], [28, 29, 30, 31, 32, 33, 34, 35, 36, 37, 38, 39, 40, 41, 42, 43, 44], [], [], []] [[], [], [], [], [], [], [], [], [], [], [], [], [], [], [], [], [], [], [], [], [], []] [] (by decide +kernel) rfl (by first|assumption|(intro b hb; cases hb)) ?_ <;> repeat' (first|refine AR.step rfl rfl (by first|exact OSp.do tok rfl rfl rfl|exact OSp.no rfl rfl|exact OSp.noN rfl|exact OSp.v rfl rfl qv1|exact OSp.v rfl rfl qv2|exact OSp.v rfl rfl qv3|exact OSp.v rfl rfl (qv4 tok)|exact OSp.v rfl rfl (qv5 tok)|exact OSp.v rfl rfl qv6|exact OSp.v rfl rfl qv7|exact OSp.v rfl rfl (qv8 tok)|exact OSp.v rfl rfl (qv9 tok)|exact OSp.v rfl rfl (qv10 tok)|exact OSp.v rfl rfl (qv11 tok)|exact OSp.v rfl rfl (qv12 tok)|exact OSp.v rfl rfl (qv13 tok)|exact OSp.v rfl rfl (qv14 tok)|exact OSp.v rfl rfl (qv15 tok)|exact OSp.v rfl rfl (qv16 tok)|exact OSp.v rfl rfl qv17|exact OSp.v rfl rfl (qv18 tok)|exact OSp.v rfl rfl qv19|exact OSp.v rfl rfl (qv20 tok)|exact OSp.v rfl rfl (qv21 tok)|exact OSp.v rfl rfl (qv22 tok)|exact OSp.v rfl rfl (qv23 tok)|exact OSp.copy tok rfl rfl rfl rfl rfl rfl rfl (by (first | (intro x hx; obtain ⟨_, _, rfl⟩ := List.mem_map.1 hx; rfl) | (intro x hx; replace hx := List.mem_of_mem_take (List.mem_of_mem_drop hx); obtain ⟨_, _, rfl⟩ := List.mem_map.1 hx; rfl) | (simp; done))) rfl rfl rfl rfl|exact OSp.buildSlice tok rfl rfl rfl rfl rfl rfl rfl rfl|exact OSp.append tok rfl rfl rfl rfl rfl rfl rfl rfl rfl rfl rfl (by first|(intro x hx; obtain ⟨_, _, rfl⟩ := List.mem_map.1 hx; rfl)|(simp; done)) (by simp; omega) (by simp; omega)|exact OSp.alloc tok rfl rfl rfl rfl|exact OSp.box tok rfl rfl rfl rfl rfl|exact OSp.boxC tok rfl rfl rfl rfl rfl|exact OSp.store tok rfl rfl rfl rfl rfl rfl rfl rfl|exact OSp.appIn tok rfl rfl rfl rfl rfl (by first|assumption|(intro e; have := congrArg List.length e; simp at this; omega)) rfl rfl (by (first | (intro x hx; obtain ⟨_, _, rfl⟩ := List.mem_map.1 hx; rfl) | (intro x hx; replace hx := List.mem_of_mem_take (List.mem_of_mem_drop hx); obtain ⟨_, _, rfl⟩ := List.mem_map.1 hx; rfl) | (simp; done))) rfl rfl rfl rfl (by first|omega|(simp; omega))|exact OSp.callS rfl rfl rfl rfl rfl rfl (ku ..) rfl|exact OSp.callP rfl rfl rfl rfl rfl (ku ..)|exact OSp.callO rfl rfl rfl rfl rfl (ku ..)|exact OSp.callO rfl rfl rfl rfl rfl ku|exact OSp.callS rfl rfl rfl rfl rfl rfl (ku2 ..) rfl|exact OSp.callP rfl rfl rfl rfl rfl (ku2 ..)|exact OSp.callO rfl rfl rfl rfl rfl (ku2 ..)|exact OSp.callO rfl rfl rfl rfl rfl ku2) (by rfl) (by rfl) ?_|refine AR.done rfl rfl ?_|(refine AR.guard rfl rfl rfl rfl (fun hg => ?_) (fun hg => ?_) <;> ((try simp only [DX] at hg) <;> (try first|(exfalso; omega)|exact absurd trivial hg|exact False.elim hg|exact absurd rfl hg))))
        repeat' (first|refine AL.do tok rfl rfl ?_|refine AL.nil ?_|refine AW.seq fun K hK => ?_|refine AW.region ?_|refine AL.no rfl rfl ?_|(refine hK _ ?_; clear hK)|(clear hK; refine hK _ ?_; clear hK)|(clear hK; clear hK; refine hK _ ?_; clear hK)|refine qa7 qv1 ?_|refine qa7 qv2 ?_|refine qa7 qv3 ?_|refine qa7 (qv4 tok) ?_|refine qa7 (qv5 tok) ?_|refine qa7 qv6 ?_|refine qa7 qv7 ?_|refine qa7 (qv8 tok) ?_|refine qa7 (qv9 tok) ?_|refine qa7 (qv10 tok) ?_|refine qa7 (qv11 tok) ?_|refine qa7 (qv12 tok) ?_|refine qa7 (qv13 tok) ?_|refine qa7 (qv14 tok) ?_|refine qa7 (qv15 tok) ?_|refine qa7 (qv16 tok) ?_|refine qa7 qv17 ?_|refine qa7 (qv18 tok) ?_|refine qa7 qv19 ?_|refine qa7 (qv20 tok) ?_|refine qa7 (qv21 tok) ?_|refine qa7 (qv22 tok) ?_|refine qa7 (qv23 tok) ?_|refine qa1 tok ?_|refine qa2 tok ?_|refine qa3 tok ?_|refine AL.loadR tok rfl rfl rfl rfl rfl rfl ?_|refine qa4 tok ?_|refine qa5 tok ?_|refine AW.block ?_|refine AW.exit ?_|refine AW.skip ?_|refine qc1 (eu ..) ?_|refine qc2 (eu ..) ?_|((fail_if_success (refine AL.guard (b := true) rfl rfl ?_ ?_)); (fail_if_success (refine AL.guard (b := false) rfl rfl ?_ ?_)); refine AL.guard rfl rfl (fun hg => ?_) (fun hg => ?_) <;> ((try simp only [DX] at hg) <;> (try first|(exfalso; omega)|exact absurd trivial hg|exact False.elim hg|exact absurd rfl hg)))|refine AW.condT rfl ?_|refine AW.condF rfl ?_|(refine AW.cond rfl (fun hg => ?_) (fun hg => ?_) <;> ((try simp only [DX] at hg) <;> (try first|(exfalso; omega)|exact absurd trivial hg|exact False.elim hg|exact absurd rfl hg))))
        all_goals
          refine hK1 _ (i + 1, ru) ⟨by simp only; omega, iu⟩ (by simp only; omega) ?_
          (refine Imp.weak id (fun _ _ _ _ h => h) (by first|assumption|(intro b hb; cases hb)) ?_ ?_ <;> (repeat' (first|exact trivial|exact Nat.lt_of_lt_of_le (Nat.lt_succ_self _) (Nat.le_of_ble_eq_true rfl)|exact rfl|exact Or.inl ⟨rfl, rfl⟩|exact Or.inr ⟨rfl, LF.fn _ _ ‹_›⟩|refine ⟨?_, ?_⟩)))
  · repeat' (first|refine AL.do tok rfl rfl ?_|refine AL.nil ?_|refine AW.seq fun K hK => ?_|refine AW.region ?_|refine AL.no rfl rfl ?_|(refine hK _ ?_; clear hK)|(clear hK; refine hK _ ?_; clear hK)|(clear hK; clear hK; refine hK _ ?_; clear hK)|refine qa7 qv1 ?_|refine qa7 qv2 ?_|refine qa7 qv3 ?_|refine qa7 (qv4 tok) ?_|refine qa7 (qv5 tok) ?_|refine qa7 qv6 ?_|refine qa7 qv7 ?_|refine qa7 (qv8 tok) ?_|refine qa7 (qv9 tok) ?_|refine qa7 (qv10 tok) ?_|refine qa7 (qv11 tok) ?_|refine qa7 (qv12 tok) ?_|refine qa7 (qv13 tok) ?_|refine qa7 (qv14 tok) ?_|refine qa7 (qv15 tok) ?_|refine qa7 (qv16 tok) ?_|refine qa7 qv17 ?_|refine qa7 (qv18 tok) ?_|refine qa7 qv19 ?_|refine qa7 (qv20 tok) ?_|refine qa7 (qv21 tok) ?_|refine qa7 (qv22 tok) ?_|refine qa7 (qv23 tok) ?_|refine qa1 tok ?_|refine qa2 tok ?_|refine qa3 tok ?_|refine AL.loadR tok rfl rfl rfl rfl rfl rfl ?_|refine qa4 tok ?_|refine qa5 tok ?_|refine AW.block ?_|refine AW.exit ?_|refine AW.skip ?_|refine qc1 (example_calls ..) ?_|refine qc2 (example_calls ..) ?_|((fail_if_success (refine AL.guard (b := true) rfl rfl ?_ ?_)); (fail_if_success (refine AL.guard (b := false) rfl rfl ?_ ?_)); refine AL.guard rfl rfl (fun hg => ?_) (fun hg => ?_) <;> ((try simp only [DX] at hg) <;> (try first|(exfalso; omega)|exact absurd trivial hg|exact False.elim hg|exact absurd rfl hg)))|refine AW.condT rfl ?_|refine AW.condF rfl ?_|(refine AW.cond rfl (fun hg => ?_) (fun hg => ?_) <;> ((try simp only [DX] at hg) <;> (try first|(exfalso; omega)|exact absurd trivial hg|exact False.elim hg|exact absurd rfl hg)))|refine AW.ret ?_)
    all_goals (refine ⟨_, _, _, _, rfl, Out.pure rfl ⟨?_, rfl⟩ rfl⟩; rfl)
end Go.Proofs.Try
