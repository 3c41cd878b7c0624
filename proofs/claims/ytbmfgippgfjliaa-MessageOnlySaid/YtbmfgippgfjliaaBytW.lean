/- Messages: what arguments are; the laws of properties. -/
import Derived.Test.YtbmfgippgfjliaaBytV
import Derived.Test.YtbmfgippgfjliaaBytM
import Derived.Test.YtbmfgippgfjliaaBytQ
set_option linter.unusedSimpArgs false
set_option linter.unusedVariables false
namespace Go.Proofs.Try
open Go Go.AM

theorem dt_Pr {ds : List D} (h : DT ts 34 ds) : ∃ p, ds = encP p ∧ True := by
  obtain ⟨hl, hf⟩ := DT.strct_inv rfl h
  match ds, hl with
  | [a, b], _ =>
    obtain ⟨n0, e0, _⟩ := DT.str_inv rfl (hf 0 _ _ _ rfl rfl rfl)
    obtain ⟨n1, e1, _⟩ := DT.str_inv rfl (hf 1 _ _ _ rfl rfl rfl)
    simp at e0 e1
    exact ⟨⟨n0, n1⟩, by simp [encP, e0, e1], trivial⟩
structure OkI (m : Ms) : Prop where
  topic : m.topic.size ≤ 9223372036854775807
  level : -9223372036854775808 ≤ m.level ∧ m.level ≤ 9223372036854775807
  prio : -9223372036854775808 ≤ m.prio ∧ m.prio ≤ 9223372036854775807
  expires : -9223372036854775808 ≤ m.expires ∧ m.expires ≤ 9223372036854775807
  seq : -9223372036854775808 ≤ m.seq ∧ m.seq ≤ 9223372036854775807
theorem wf_i64 {n : Int} (h : (Lit.int .i64 n).wf = true) : -9223372036854775808 ≤ n ∧ n ≤ 9223372036854775807 := by
  simp only [Lit.wf, Bool.and_eq_true, decide_eq_true_eq] at h
  exact h
theorem dt_M {ds : List D} (h : DT ts 36 ds) : ∃ m, ds = encM m ∧ OkI m := by
  obtain ⟨hl, hf⟩ := DT.strct_inv rfl h
  match ds, hl with
  | [a, b, c, d, e, f, g, i, j], _ =>
    obtain ⟨n0, e0, h0⟩ := DT.str_inv rfl (hf 0 _ _ _ rfl rfl rfl)
    obtain ⟨n1, e1, _⟩ := DT.str_inv rfl (hf 1 _ _ _ rfl rfl rfl)
    obtain ⟨n2, e2, h2⟩ := DT.int_inv rfl (hf 2 _ _ _ rfl rfl rfl)
    obtain ⟨n3, e3⟩ := DT.bool_inv rfl (hf 3 _ _ _ rfl rfl rfl)
    obtain ⟨n4, e4, h4⟩ := DT.int_inv rfl (hf 4 _ _ _ rfl rfl rfl)
    obtain ⟨n5, e5, h5⟩ := DT.int_inv rfl (hf 5 _ _ _ rfl rfl rfl)
    obtain ⟨n6, e6, _⟩ := DT.str_inv rfl (hf 6 _ _ _ rfl rfl rfl)
    obtain ⟨n7, e7, h7⟩ := DT.int_inv rfl (hf 7 _ _ _ rfl rfl rfl)
    obtain ⟨xs, e8, hx, hd⟩ := DT.slice_inv rfl (hf 8 _ _ _ rfl rfl rfl)
    obtain ⟨l, rfl, _⟩ := list_decode xs (fun x hx' => dt_Pr (hd x hx'))
    simp at e0 e1 e2 e3 e4 e5 e6 e7 e8
    exact ⟨⟨n0, n1, n2, n3, n4, n5, n6, n7, l⟩, by simp [encM, e0, e1, e2, e3, e4, e5, e6, e7, e8], h0, wf_i64 h2, wf_i64 h4, wf_i64 h5, wf_i64 h7⟩
theorem at_M {x : AV} (h : AT ts 36 x) : ∃ m, x = aggM m ∧ OkI m := by
  obtain ⟨ds, rfl, hd⟩ := h
  obtain ⟨m, rfl, hm⟩ := dt_M hd
  exact ⟨m, rfl, hm⟩
theorem at_P {x : AV} (h : AT ts 22 x) : ∃ l : List Pr, x = rowP l ∧ l.length ≤ 9223372036854775807 := by
  obtain ⟨y, rfl, hd⟩ := h
  obtain ⟨xs, e, hl, hx⟩ := DT.slice_inv rfl hd
  cases e
  obtain ⟨l, rfl, _⟩ := list_decode xs (fun x hx' => dt_Pr (hx x hx'))
  exact ⟨l, rfl, by rw [List.length_map] at hl; exact hl⟩
theorem at_str {x : AV} (h : AT ts 9 x) : ∃ s, x = st s ∧ s.size ≤ 9223372036854775807 := by
  obtain ⟨y, rfl, hd⟩ := h
  obtain ⟨s, e, hs⟩ := DT.str_inv rfl hd
  cases e
  exact ⟨s, rfl, hs⟩
theorem at_int {x : AV} (h : AT ts 3 x) : ∃ n, x = i64 n ∧ -9223372036854775808 ≤ n ∧ n ≤ 9223372036854775807 := by
  obtain ⟨y, rfl, hd⟩ := h
  obtain ⟨n, e, hn⟩ := DT.int_inv rfl hd
  cases e
  exact ⟨n, rfl, wf_i64 hn⟩
theorem at_U {x : AV} (h : AT ts 41 x) : ∃ l : List Nat, x = rowU l ∧ OkU l ∧ l.length ≤ 9223372036854775807 := by
  obtain ⟨y, rfl, hd⟩ := h
  obtain ⟨xs, e, hl, hx⟩ := DT.slice_inv rfl hd
  cases e
  obtain ⟨l, rfl, hp⟩ := list_decode (e := encU) (p := fun n : Nat => n < 256) xs (fun x hx' => by
    obtain ⟨n, e, hn⟩ := DT.int_inv rfl (hx x hx')
    simp only [Lit.wf, Bool.and_eq_true, decide_eq_true_eq] at hn
    have h2 : (0 : Int) ≤ n ∧ n ≤ 255 := hn
    exact ⟨n.toNat, by rw [e, encU, show ((n.toNat : Nat) : Int) = n by omega], by omega⟩)
  exact ⟨l, rfl, fun x hx => hp x hx, by rw [List.length_map] at hl; exact hl⟩
theorem small_ok {m : Ms} (h : smallS m = true) (hi : OkI m) : PutOk m := by
  simp only [smallS, fewS, Bool.and_eq_true, decide_eq_true_eq, List.all_eq_true] at h
  obtain ⟨⟨⟨h1, h2⟩, h3⟩, h4, h5⟩ := h
  exact ⟨h1, h2, h3, hi.level, hi.prio, hi.expires, hi.seq, h4, fun p hp => by have := h5 p hp; simpa [okP] using this⟩
theorem sameP_t (l : List Pr) : ACallP Try.prog 20 [rowP l, rowP l] (bo true) := by
  have := sameProps_calls l l
  rw [eqPs_iff.2 rfl] at this
  exact this
set_option maxHeartbeats 8000000 in
set_option maxRecDepth 10000 in
theorem messageProps_law (x0 : AV) (h0 : AT ts 22 x0) : ACallP Try.prog 3 [x0] (bo true) := by
  obtain ⟨l, rfl, hl⟩ := at_P h0
  have k1 := few_calls l
  have k2 := props_calls l
  have k3 := refProps_calls l
  generalize fewS l = f at *
  refine ACalls.body tok Try.func3 rfl (by kernel_rfl) (by rw [Try.ntmps3]; simp) ?_
  simp only [Try.ntmps3, Try.results3, argT]
  cases f
  all_goals
    repeat' (first|refine AL.do tok rfl rfl ?_|refine AL.nil ?_|refine AW.seq fun K hK => ?_|refine AW.region ?_|refine AL.no rfl rfl ?_|(refine hK _ ?_; clear hK)|(clear hK; refine hK _ ?_; clear hK)|(clear hK; clear hK; refine hK _ ?_; clear hK)|refine qa7 qv1 ?_|refine qa7 qv2 ?_|refine qa7 qv3 ?_|refine qa7 (qv4 tok) ?_|refine qa7 (qv5 tok) ?_|refine qa7 qv6 ?_|refine qa7 qv7 ?_|refine qa7 (qv8 tok) ?_|refine qa7 (qv9 tok) ?_|refine qa7 (qv10 tok) ?_|refine qa7 (qv11 tok) ?_|refine qa7 (qv12 tok) ?_|refine qa7 (qv13 tok) ?_|refine qa7 (qv14 tok) ?_|refine qa7 (qv15 tok) ?_|refine qa7 (qv16 tok) ?_|refine qa7 qv17 ?_|refine qa7 (qv18 tok) ?_|refine qa7 qv19 ?_|refine qa7 (qv20 tok) ?_|refine qa7 (qv21 tok) ?_|refine qa7 (qv22 tok) ?_|refine qa1 tok ?_|refine qa2 tok ?_|refine qa3 tok ?_|refine AL.loadR tok rfl rfl rfl rfl rfl rfl ?_|refine qa4 tok ?_|refine qa5 tok ?_|refine AW.block ?_|refine AW.exit ?_|refine AW.skip ?_|refine qc1 (awake_calls ..) ?_|refine qc2 (awake_calls ..) ?_|refine qc1 (k1 ..) ?_|refine qc2 (k1 ..) ?_|refine qc1 (k2 ..) ?_|refine qc2 (k2 ..) ?_|refine qc1 (k3 ..) ?_|refine qc2 (k3 ..) ?_|((fail_if_success (refine AL.guard (b := true) rfl rfl ?_ ?_)); (fail_if_success (refine AL.guard (b := false) rfl rfl ?_ ?_)); refine AL.guard rfl rfl (fun hg => ?_) (fun hg => ?_) <;> ((try simp only [DX] at hg) <;> (try first|(exfalso; omega)|exact absurd trivial hg|exact False.elim hg|exact absurd rfl hg)))|refine AW.condT rfl ?_|refine AW.condF rfl ?_|(refine AW.cond rfl (fun hg => ?_) (fun hg => ?_) <;> ((try simp only [DX] at hg) <;> (try first|(exfalso; omega)|exact absurd trivial hg|exact False.elim hg|exact absurd rfl hg)))|refine AW.ret ?_)
    all_goals first
      | (refine ⟨_, _, _, _, rfl, Out.pure rfl ⟨?_, rfl⟩ rfl⟩; rfl)
      | (refine ⟨_, _, _, _, rfl, Out.pure rfl ⟨?_, rfl⟩ rfl⟩; simp; done)
      | ((try simp only [DX] at *); simp_all; done)
set_option maxHeartbeats 8000000 in
set_option maxRecDepth 10000 in
theorem messageGets_law (x0 x1 x2 : AV) (h0 : AT ts 22 x0) (h1 : AT ts 9 x1) (h2 : AT ts 9 x2) : ACallP Try.prog 4 [x0, x1, x2] (bo true) := by
  obtain ⟨l, rfl, hl⟩ := at_P h0
  obtain ⟨k, rfl, _⟩ := at_str h1
  obtain ⟨v, rfl, _⟩ := at_str h2
  have hlm : (l.map encP).length = l.length := List.length_map ..
  have hfl : fewS l = true → l.length ≤ 20 := fun h => by simp only [fewS, Bool.and_eq_true, decide_eq_true_eq] at h; exact h.1
  have k1 := few_calls l
  have k2 := get_calls l k
  have k3 := refGet_calls l k
  have k4 := set_calls l k v
  have k5 := refSet_calls l k v
  have k6 := sameP_t l
  have k7 := sameP_t (setS l k v).1
  generalize fewS l = f at *
  generalize getS l k = g at *
  generalize setS l k v = z at *
  refine ACalls.body tok Try.func4 rfl (by kernel_rfl) (by rw [Try.ntmps4]; simp) ?_
  simp only [Try.ntmps4, Try.results4, argT]
  cases f
  · repeat' (first|refine AL.do tok rfl rfl ?_|refine AL.nil ?_|refine AW.seq fun K hK => ?_|refine AW.region ?_|refine AL.no rfl rfl ?_|(refine hK _ ?_; clear hK)|(clear hK; refine hK _ ?_; clear hK)|(clear hK; clear hK; refine hK _ ?_; clear hK)|refine qa7 qv1 ?_|refine qa7 qv2 ?_|refine qa7 qv3 ?_|refine qa7 (qv4 tok) ?_|refine qa7 (qv5 tok) ?_|refine qa7 qv6 ?_|refine qa7 qv7 ?_|refine qa7 (qv8 tok) ?_|refine qa7 (qv9 tok) ?_|refine qa7 (qv10 tok) ?_|refine qa7 (qv11 tok) ?_|refine qa7 (qv12 tok) ?_|refine qa7 (qv13 tok) ?_|refine qa7 (qv14 tok) ?_|refine qa7 (qv15 tok) ?_|refine qa7 (qv16 tok) ?_|refine qa7 qv17 ?_|refine qa7 (qv18 tok) ?_|refine qa7 qv19 ?_|refine qa7 (qv20 tok) ?_|refine qa7 (qv21 tok) ?_|refine qa7 (qv22 tok) ?_|refine qa1 tok ?_|refine qa2 tok ?_|refine qa3 tok ?_|refine AL.loadR tok rfl rfl rfl rfl rfl rfl ?_|refine qa4 tok ?_|refine qa5 tok ?_|refine AW.block ?_|refine AW.exit ?_|refine AW.skip ?_|refine qc1 (awake_calls ..) ?_|refine qc2 (awake_calls ..) ?_|refine qc1 (k1 ..) ?_|refine qc2 (k1 ..) ?_|((fail_if_success (refine AL.guard (b := true) rfl rfl ?_ ?_)); (fail_if_success (refine AL.guard (b := false) rfl rfl ?_ ?_)); refine AL.guard rfl rfl (fun hg => ?_) (fun hg => ?_) <;> ((try simp only [DX] at hg) <;> (try first|(exfalso; omega)|exact absurd trivial hg|exact False.elim hg|exact absurd rfl hg)))|refine AW.condT rfl ?_|refine AW.condF rfl ?_|(refine AW.cond rfl (fun hg => ?_) (fun hg => ?_) <;> ((try simp only [DX] at hg) <;> (try first|(exfalso; omega)|exact absurd trivial hg|exact False.elim hg|exact absurd rfl hg)))|refine AW.ret ?_)
    all_goals (refine ⟨_, _, _, _, rfl, Out.pure rfl ⟨?_, rfl⟩ rfl⟩; rfl)
  · have h20 := hfl rfl
    repeat' (first|refine AL.do tok rfl rfl ?_|refine AL.nil ?_|refine AW.seq fun K hK => ?_|refine AW.region ?_|refine AL.no rfl rfl ?_|(refine hK _ ?_; clear hK)|(clear hK; refine hK _ ?_; clear hK)|(clear hK; clear hK; refine hK _ ?_; clear hK)|refine qa7 qv1 ?_|refine qa7 qv2 ?_|refine qa7 qv3 ?_|refine qa7 (qv4 tok) ?_|refine qa7 (qv5 tok) ?_|refine qa7 qv6 ?_|refine qa7 qv7 ?_|refine qa7 (qv8 tok) ?_|refine qa7 (qv9 tok) ?_|refine qa7 (qv10 tok) ?_|refine qa7 (qv11 tok) ?_|refine qa7 (qv12 tok) ?_|refine qa7 (qv13 tok) ?_|refine qa7 (qv14 tok) ?_|refine qa7 (qv15 tok) ?_|refine qa7 (qv16 tok) ?_|refine qa7 qv17 ?_|refine qa7 (qv18 tok) ?_|refine qa7 qv19 ?_|refine qa7 (qv20 tok) ?_|refine qa7 (qv21 tok) ?_|refine qa7 (qv22 tok) ?_|refine qa1 tok ?_|refine qa2 tok ?_|refine qa3 tok ?_|refine AL.loadR tok rfl rfl rfl rfl rfl rfl ?_|refine qa4 tok ?_|refine qa5 tok ?_|refine AW.block ?_|refine AW.exit ?_|refine AW.skip ?_|refine qc1 (awake_calls ..) ?_|refine qc2 (awake_calls ..) ?_|refine qc1 (k1 ..) ?_|refine qc2 (k1 ..) ?_|refine qc1 (k2 ..) ?_|refine qc2 (k2 ..) ?_|refine qc1 (k3 ..) ?_|refine qc2 (k3 ..) ?_|refine qa6 tok ?_|((fail_if_success (refine AL.guard (b := true) rfl rfl ?_ ?_)); (fail_if_success (refine AL.guard (b := false) rfl rfl ?_ ?_)); refine AL.guard rfl rfl (fun hg => ?_) (fun hg => ?_) <;> ((try simp only [DX] at hg) <;> (try first|(exfalso; omega)|exact absurd trivial hg|exact False.elim hg|exact absurd rfl hg)))|refine AW.condT rfl ?_|refine AW.condF rfl ?_|(refine AW.cond rfl (fun hg => ?_) (fun hg => ?_) <;> ((try simp only [DX] at hg) <;> (try first|(exfalso; omega)|exact absurd trivial hg|exact False.elim hg|exact absurd rfl hg))))
    all_goals first
      | (refine AW.ret ?_; refine ⟨_, _, _, _, rfl, Out.pure rfl ⟨?_, rfl⟩ rfl⟩; rfl)
      | skip
    all_goals
      refine AL.frz 1 rfl rfl rfl ?_
      simp only [List.nil_append]
      repeat' (first|refine AL.do tok rfl rfl ?_|refine AL.nil ?_|refine AW.seq fun K hK => ?_|refine AW.region ?_|refine AL.no rfl rfl ?_|(refine hK _ ?_; clear hK)|(clear hK; refine hK _ ?_; clear hK)|(clear hK; clear hK; refine hK _ ?_; clear hK)|refine qa7 qv1 ?_|refine qa7 qv2 ?_|refine qa7 qv3 ?_|refine qa7 (qv4 tok) ?_|refine qa7 (qv5 tok) ?_|refine qa7 qv6 ?_|refine qa7 qv7 ?_|refine qa7 (qv8 tok) ?_|refine qa7 (qv9 tok) ?_|refine qa7 (qv10 tok) ?_|refine qa7 (qv11 tok) ?_|refine qa7 (qv12 tok) ?_|refine qa7 (qv13 tok) ?_|refine qa7 (qv14 tok) ?_|refine qa7 (qv15 tok) ?_|refine qa7 (qv16 tok) ?_|refine qa7 qv17 ?_|refine qa7 (qv18 tok) ?_|refine qa7 qv19 ?_|refine qa7 (qv20 tok) ?_|refine qa7 (qv21 tok) ?_|refine qa7 (qv22 tok) ?_|refine qa1 tok ?_|refine qa2 tok ?_|refine qa3 tok ?_|refine AL.loadR tok rfl rfl rfl rfl rfl rfl ?_|refine qa4 tok ?_|refine qa5 tok ?_|refine AW.block ?_|refine AW.exit ?_|refine AW.skip ?_|refine qc1 (awake_calls ..) ?_|refine qc2 (awake_calls ..) ?_|refine qc1 (k1 ..) ?_|refine qc2 (k1 ..) ?_|refine qc1 (k2 ..) ?_|refine qc2 (k2 ..) ?_|refine qc1 (k3 ..) ?_|refine qc2 (k3 ..) ?_|refine qc1 (k4 ..) ?_|refine qc2 (k4 ..) ?_|refine qc1 (k5 ..) ?_|refine qc2 (k5 ..) ?_|refine qc1 (k6 ..) ?_|refine qc2 (k6 ..) ?_|refine qc1 (k7 ..) ?_|refine qc2 (k7 ..) ?_|((fail_if_success (refine AL.guard (b := true) rfl rfl ?_ ?_)); (fail_if_success (refine AL.guard (b := false) rfl rfl ?_ ?_)); refine AL.guard rfl rfl (fun hg => ?_) (fun hg => ?_) <;> ((try simp only [DX] at hg) <;> (try first|(exfalso; omega)|exact absurd trivial hg|exact False.elim hg|exact absurd rfl hg)))|refine AW.condT rfl ?_|refine AW.condF rfl ?_|(refine AW.cond rfl (fun hg => ?_) (fun hg => ?_) <;> ((try simp only [DX] at hg) <;> (try first|(exfalso; omega)|exact absurd trivial hg|exact False.elim hg|exact absurd rfl hg)))|refine AW.ret ?_)
      all_goals first
        | (refine ⟨_, _, _, _, rfl, Out.pure rfl ⟨?_, rfl⟩ rfl⟩; rfl)
        | (refine ⟨_, _, _, _, rfl, Out.pure rfl ⟨?_, rfl⟩ rfl⟩; simp; done)
        | ((try simp only [DX] at *); simp_all; done)
end Go.Proofs.Try
