/- inflight: the law InflightOnce. -/
import Derived.Test.YtkpodhdjifnigaaInflS
import Derived.Test.YtkpodhdjifnigaaAM49
set_option linter.unusedSimpArgs false
set_option linter.unusedVariables false
namespace Go.Proofs.Try
open Go Go.AM

theorem left_out {w : Wi} (hw : GoodW w) {i : Nat} (hi : i < w.items.length) : ∀ f ∈ (removeS w i w.items[i].id).items, ¬ f.id = w.items[i].id := fun f hf => erase_ids hw.nodup hi hf
theorem at_out {l : List Fl} {q : Int} (h : ∀ f ∈ l, ¬ f.id = q) : atS l q = -1 := by
  rcases at_cases l q with h1 | ⟨i, hi, h1, _⟩
  · exact h1
  · have := at_neg.2 h
    omega
theorem handle_gone {w : Wi} {k q : Int} (hw : GoodW w) (ho : OkW w) {i : Nat} (hi : i < w.items.length) (ha : atS w.items q = (i : Nat)) (hid : w.items[i].id = q) (hk : k = 4 ∧ w.items[i].msg.level = 1 ∨ k = 7 ∧ w.items[i].state = 2) :
    ∃ v, handleS w k q = (v, [], 0) ∧ JW v ∧ ∀ f ∈ v.items, ¬ f.id = q := by
  refine ⟨removeS w i w.items[i].id, ?_, ⟨hw.remove hi, remove_ok ho⟩, fun f hf => hid ▸ left_out hw hi f hf⟩
  rcases hk with ⟨h1, h2⟩ | ⟨h1, h2⟩
  · rw [handle_in (.inl h1) hi ha, if_pos h1, if_pos h2]
  · rw [handle_in (.inr (.inr h1)) hi ha, if_neg (by omega), if_neg (by omega), if_pos h2]
set_option maxHeartbeats 64000000 in
set_option maxRecDepth 10000 in
theorem inflightOnce_law (x0 x1 x2 x3 : AV) (h0 : AT ts 27 x0) (h1 : AT ts 30 x1) (h2 : AT ts 56 x2) (h3 : AT ts 56 x3) : ACallP Try.prog 6 [x0, x1, x2, x3] (bo true) := by
  obtain ⟨w, rfl, ho⟩ := at_W h0
  obtain ⟨m, rfl, hm⟩ := at_M h1
  obtain ⟨oa, rfl, hoa, _⟩ := at_O h2
  obtain ⟨ob, rfl, hob, _⟩ := at_O h3
  have k1 := refCheckW_calls w (okT ho)
  have hgw := goodW_iff (w := w)
  generalize checkW w = c at *
  by_cases hc : c = 0
  rotate_left
  · refine ACalls.body tok Try.func6 rfl (by kernel_rfl) (by rw [Try.ntmps6]; simp) ?_
    simp only [Try.ntmps6, Try.results6, argT]
    repeat' (first|refine AL.do tok rfl rfl ?_|refine AL.nil ?_|refine AW.seq fun K hK => ?_|refine AW.region ?_|refine AL.no rfl rfl ?_|(refine hK _ ?_; clear hK)|(clear hK; refine hK _ ?_; clear hK)|(clear hK; clear hK; refine hK _ ?_; clear hK)|refine qa7 qv1 ?_|refine qa7 qv2 ?_|refine qa7 qv3 ?_|refine qa7 (qv4 tok) ?_|refine qa7 (qv5 tok) ?_|refine qa7 qv6 ?_|refine qa7 qv7 ?_|refine qa7 (qv8 tok) ?_|refine qa7 (qv9 tok) ?_|refine qa7 (qv10 tok) ?_|refine qa7 (qv11 tok) ?_|refine qa7 (qv12 tok) ?_|refine qa7 (qv13 tok) ?_|refine qa7 (qv14 tok) ?_|refine qa7 (qv15 tok) ?_|refine qa7 (qv16 tok) ?_|refine qa7 qv17 ?_|refine qa7 (qv18 tok) ?_|refine qa7 qv19 ?_|refine qa7 (qv20 tok) ?_|refine qa7 (qv21 tok) ?_|refine qa7 (qv22 tok) ?_|refine qa7 (qv23 tok) ?_|refine qa7 (qv24 tok) ?_|refine qa7 qv26 ?_|refine qa7 qv27 ?_|refine qa7 (qv28 tok) ?_|refine qa1 tok ?_|refine qa2 tok ?_|refine qa3 tok ?_|refine AL.loadR tok rfl rfl rfl rfl rfl rfl ?_|refine qa4 tok ?_|refine qa5 tok ?_|refine AW.block ?_|refine AW.exit ?_|refine AW.skip ?_|refine qc1 (k1 ..) ?_|refine qc2 (k1 ..) ?_|refine qc1 (awake_calls ..) ?_|refine qc2 (awake_calls ..) ?_|((fail_if_success (refine AL.guard (b := true) rfl rfl ?_ ?_)); (fail_if_success (refine AL.guard (b := false) rfl rfl ?_ ?_)); refine AL.guard rfl rfl (fun hg => ?_) (fun hg => ?_) <;> ((try simp only [DX] at hg) <;> (try first|(exfalso; omega)|exact absurd trivial hg|exact False.elim hg|exact absurd rfl hg)))|refine AW.condT rfl ?_|refine AW.condF rfl ?_|(refine AW.cond rfl (fun hg => ?_) (fun hg => ?_) <;> ((try simp only [DX] at hg) <;> (try first|(exfalso; omega)|exact absurd trivial hg|exact False.elim hg|exact absurd rfl hg))))
    refine AW.ret ?_
    refine ⟨_, _, _, _, rfl, Out.pure rfl ⟨?_, rfl⟩ rfl⟩
    rfl
  have hw : GoodW w := hgw.1 hc
  have s1 := start_calls w m hw ho hm
  have s2 := refStart_calls w m hw hm
  by_cases he : (startS w m).2.2 = 0
  rotate_left
  · generalize startS w m = r at *
    obtain ⟨v, p, e⟩ := r
    replace s2 : ACallP Try.prog 13 [aggW w, aggM m] (.tup [aggW v, aggK p, i64 e]) := s2
    replace he : ¬ e = 0 := he
    refine ACalls.body tok Try.func6 rfl (by kernel_rfl) (by rw [Try.ntmps6]; simp) ?_
    simp only [Try.ntmps6, Try.results6, argT]
    repeat' (first|refine AL.do tok rfl rfl ?_|refine AL.nil ?_|refine AW.seq fun K hK => ?_|refine AW.region ?_|refine AL.no rfl rfl ?_|(refine hK _ ?_; clear hK)|(clear hK; refine hK _ ?_; clear hK)|(clear hK; clear hK; refine hK _ ?_; clear hK)|refine qa7 qv1 ?_|refine qa7 qv2 ?_|refine qa7 qv3 ?_|refine qa7 (qv4 tok) ?_|refine qa7 (qv5 tok) ?_|refine qa7 qv6 ?_|refine qa7 qv7 ?_|refine qa7 (qv8 tok) ?_|refine qa7 (qv9 tok) ?_|refine qa7 (qv10 tok) ?_|refine qa7 (qv11 tok) ?_|refine qa7 (qv12 tok) ?_|refine qa7 (qv13 tok) ?_|refine qa7 (qv14 tok) ?_|refine qa7 (qv15 tok) ?_|refine qa7 (qv16 tok) ?_|refine qa7 qv17 ?_|refine qa7 (qv18 tok) ?_|refine qa7 qv19 ?_|refine qa7 (qv20 tok) ?_|refine qa7 (qv21 tok) ?_|refine qa7 (qv22 tok) ?_|refine qa7 (qv23 tok) ?_|refine qa7 (qv24 tok) ?_|refine qa7 qv26 ?_|refine qa7 qv27 ?_|refine qa7 (qv28 tok) ?_|refine qa1 tok ?_|refine qa2 tok ?_|refine qa3 tok ?_|refine AL.loadR tok rfl rfl rfl rfl rfl rfl ?_|refine qa4 tok ?_|refine qa5 tok ?_|refine AW.block ?_|refine AW.exit ?_|refine AW.skip ?_|refine qc1 (k1 ..) ?_|refine qc2 (k1 ..) ?_|refine qc1 (s2 ..) ?_|refine qc2 (s2 ..) ?_|refine qc1 (awake_calls ..) ?_|refine qc2 (awake_calls ..) ?_|((fail_if_success (refine AL.guard (b := true) rfl rfl ?_ ?_)); (fail_if_success (refine AL.guard (b := false) rfl rfl ?_ ?_)); refine AL.guard rfl rfl (fun hg => ?_) (fun hg => ?_) <;> ((try simp only [DX] at hg) <;> (try first|(exfalso; omega)|exact absurd trivial hg|exact False.elim hg|exact absurd rfl hg)))|refine AW.condT rfl ?_|refine AW.condF rfl ?_|(refine AW.cond rfl (fun hg => ?_) (fun hg => ?_) <;> ((try simp only [DX] at hg) <;> (try first|(exfalso; omega)|exact absurd trivial hg|exact False.elim hg|exact absurd rfl hg))))
    refine AW.ret ?_
    refine ⟨_, _, _, _, rfl, Out.pure rfl ⟨?_, rfl⟩ rfl⟩
    rfl
  -- the message was started: its flight
  have hst : ∃ y v, startS w m = (v, publishS ⟨y, 1, m⟩ false, 0) ∧ JW v ∧ (⟨y, 1, m⟩ : Fl) ∈ v.items ∧ (m.level = 1 ∨ m.level = 2) := by
    have hg := start_good hw he
    have hok := start_ok (w := w) ho hm
    have hss : startS w m = if m.level = 0 then (zeroW, zeroK, 14) else if w.limit ≤ w.items.length then (zeroW, zeroK, 6) else if checkM m = 0 then (startedS w m, publishS ⟨(takeS w.pool).1, 1, m⟩ false, 0) else (zeroW, zeroK, checkM m) := rfl
    split at hss
    · rw [hss] at he; exact absurd he (by decide)
    rename_i g1
    split at hss
    · rw [hss] at he; exact absurd he (by decide)
    rename_i g2
    split at hss
    · rename_i g3
      refine ⟨(takeS w.pool).1, startedS w m, hss, ?_, ?_, (rest_ok (rest_sent (y := 0) g3 g1)).2.1⟩
      · rw [hss] at hg hok
        exact ⟨hg, hok⟩
      · exact List.mem_append_right _ (List.mem_singleton.2 rfl)
    · rename_i g3
      rw [hss] at he; exact absurd he g3
  obtain ⟨y, v0, hss, hJ0, hm0, hlv⟩ := hst
  rw [hss] at s1 s2
  replace s1 : ACallP Try.prog 12 [aggW w, aggM m] (.tup [aggW v0, aggK (publishS ⟨y, 1, m⟩ false), i64 0]) := s1
  replace s2 : ACallP Try.prog 13 [aggW w, aggM m] (.tup [aggW v0, aggK (publishS ⟨y, 1, m⟩ false), i64 0]) := s2
  have o1 := others_calls v0 y oa hJ0 hoa
  have hJ1 := others_j (q := y) hJ0 (fun o ho => (hoa o ho).1) 30
  have hm1 := others_mem (q := y) hJ0 (fun o ho => (hoa o ho).1) rfl hm0 30
  generalize othersS v0 y oa 30 = v1 at *
  obtain ⟨i, hi, hat, hif⟩ := at_mem hJ1.1 hm1
  simp only at hat
  have hlen1 := hJ1.1.len
  have r1 := resend_calls v1 (by omega) hJ1.2
  have a1 := refAt_calls v1.items y (by omega)
  rw [hat] at a1
  have c1 := sent_calls (v1.items.map resK) 3 y (by simp; omega)
  have c2 := sent_calls (v1.items.map resK) 6 y (by simp; omega)
  have hres : resK (⟨y, 1, m⟩ : Fl) = publishS ⟨y, 1, m⟩ true := by rw [resK, if_neg (by show ¬ ((1 : Int) = 2); decide)]
  rw [cnt_at hJ1.1.nodup hi (by rw [hif]), hif, hres, if_pos (show (publishS ⟨y, 1, m⟩ true).kind = 3 from rfl)] at c1
  rw [cnt_at hJ1.1.nodup hi (by rw [hif]), hif, hres, if_neg (by show ¬ ((3 : Int) = 6); decide)] at c2
  have hKl : (v1.items.map resK).length = v1.items.length := List.length_map ..
  have hKi : ∀ h : i < (v1.items.map resK).length, (v1.items.map resK)[i] = publishS ⟨y, 1, m⟩ true := fun h => by rw [List.getElem_map, hif, hres]
  generalize v1.items.map resK = K1 at *
  have hKm : (K1.map encK).length = K1.length := List.length_map ..
  have hiK : i < K1.length := by omega
  have hKd : K1[i].dup = true := by rw [hKi hiK]; rfl
  have hKs : ACallP Try.prog 21 [aggM K1[i].msg, aggM m] (bo true) := by
    rw [hKi hiK]
    exact sameM_t m
  clear hKi
  rcases hlv with hlv | hlv
  · obtain ⟨v2, hh2, hJ2, hn2⟩ := handle_gone (k := 4) (q := y) hJ1.1 hJ1.2 hi hat (by rw [hif]) (.inl ⟨rfl, by rw [hif]; exact hlv⟩)
    have b1 := handle0_calls v1 4 y hJ1.1 hJ1.2
    rw [hh2] at b1
    replace b1 : ACallP Try.prog 16 [aggW v1, aggQ0 4 y] (.tup [aggW v2, rowK [], i64 0]) := b1
    have hlen2 := hJ2.1.len
    have b2 := resend_calls v2 (by omega) hJ2.2
    have b3 := sent_calls (v2.items.map resK) 3 y (by simp; omega)
    have b4 := sent_calls (v2.items.map resK) 6 y (by simp; omega)
    rw [cnt_none hn2] at b3 b4
    have b5 := refAt_calls v2.items y (by omega)
    rw [at_out hn2] at b5
    generalize v2.items.map resK = K2 at *
    refine ACalls.body tok Try.func6 rfl (by kernel_rfl) (by rw [Try.ntmps6]; simp) ?_
    simp only [Try.ntmps6, Try.results6, argT]
    repeat' (first|refine AL.do tok rfl rfl ?_|refine AL.nil ?_|refine AW.seq fun K hK => ?_|refine AW.region ?_|refine AL.no rfl rfl ?_|(refine hK _ ?_; clear hK)|(clear hK; refine hK _ ?_; clear hK)|(clear hK; clear hK; refine hK _ ?_; clear hK)|refine qa7 qv1 ?_|refine qa7 qv2 ?_|refine qa7 qv3 ?_|refine qa7 (qv4 tok) ?_|refine qa7 (qv5 tok) ?_|refine qa7 qv6 ?_|refine qa7 qv7 ?_|refine qa7 (qv8 tok) ?_|refine qa7 (qv9 tok) ?_|refine qa7 (qv10 tok) ?_|refine qa7 (qv11 tok) ?_|refine qa7 (qv12 tok) ?_|refine qa7 (qv13 tok) ?_|refine qa7 (qv14 tok) ?_|refine qa7 (qv15 tok) ?_|refine qa7 (qv16 tok) ?_|refine qa7 qv17 ?_|refine qa7 (qv18 tok) ?_|refine qa7 qv19 ?_|refine qa7 (qv20 tok) ?_|refine qa7 (qv21 tok) ?_|refine qa7 (qv22 tok) ?_|refine qa7 (qv23 tok) ?_|refine qa7 (qv24 tok) ?_|refine qa7 qv26 ?_|refine qa7 qv27 ?_|refine qa7 (qv28 tok) ?_|refine qa1 tok ?_|refine qa2 tok ?_|refine qa3 tok ?_|refine AL.loadR tok rfl rfl rfl rfl rfl rfl ?_|refine qa4 tok ?_|refine qa5 tok ?_|refine AW.block ?_|refine AW.exit ?_|refine AW.skip ?_|refine qc1 (k1 ..) ?_|refine qc2 (k1 ..) ?_|refine qc1 (s1 ..) ?_|refine qc2 (s1 ..) ?_|refine qc1 (s2 ..) ?_|refine qc2 (s2 ..) ?_|refine qc1 (o1 ..) ?_|refine qc2 (o1 ..) ?_|refine qc1 (r1 ..) ?_|refine qc2 (r1 ..) ?_|refine qc1 (a1 ..) ?_|refine qc2 (a1 ..) ?_|((fail_if_success (refine AL.guard (b := true) rfl rfl ?_ ?_)); (fail_if_success (refine AL.guard (b := false) rfl rfl ?_ ?_)); refine AL.guard rfl rfl (fun hg => ?_) (fun hg => ?_) <;> ((try simp only [DX] at hg) <;> (try first|(exfalso; omega)|exact absurd trivial hg|exact False.elim hg|exact absurd rfl hg)))|refine AW.condT rfl ?_|refine AW.condF rfl ?_|(refine AW.cond rfl (fun hg => ?_) (fun hg => ?_) <;> ((try simp only [DX] at hg) <;> (try first|(exfalso; omega)|exact absurd trivial hg|exact False.elim hg|exact absurd rfl hg))))
    refine AW.drawn mix (by kernel_rfl) ?_
    repeat' (first|refine AQ.do tok rfl rfl rfl ?_|refine AQ.no rfl rfl ?_|refine AQ.v rfl qv1 rfl ?_|refine AQ.v rfl qv2 rfl ?_|refine AQ.v rfl qv3 rfl ?_|refine AQ.v rfl (qv4 tok) rfl ?_|refine AQ.v rfl (qv5 tok) rfl ?_|refine AQ.v rfl qv6 rfl ?_|refine AQ.v rfl qv7 rfl ?_|refine AQ.v rfl (qv8 tok) rfl ?_|refine AQ.v rfl (qv9 tok) rfl ?_|refine AQ.v rfl (qv10 tok) rfl ?_|refine AQ.v rfl (qv11 tok) rfl ?_|refine AQ.v rfl (qv12 tok) rfl ?_|refine AQ.v rfl (qv13 tok) rfl ?_|refine AQ.v rfl (qv14 tok) rfl ?_|refine AQ.v rfl (qv15 tok) rfl ?_|refine AQ.v rfl (qv16 tok) rfl ?_|refine AQ.v rfl qv17 rfl ?_|refine AQ.v rfl (qv18 tok) rfl ?_|refine AQ.v rfl qv19 rfl ?_|refine AQ.v rfl (qv20 tok) rfl ?_|refine AQ.v rfl (qv21 tok) rfl ?_|refine AQ.v rfl (qv22 tok) rfl ?_|refine AQ.v rfl (qv23 tok) rfl ?_|refine AQ.v rfl (qv24 tok) rfl ?_|refine AQ.v rfl qv26 rfl ?_|refine AQ.v rfl qv27 rfl ?_|refine AQ.v rfl (qv28 tok) rfl ?_|refine AQ.nil ?_|refine AQ.callB rfl rfl rfl rfl rfl rfl (c1 ..) rfl ?_|refine AQ.callB rfl rfl rfl rfl rfl rfl (c2 ..) rfl ?_|refine AQ.callB rfl rfl rfl rfl rfl rfl (hKs ..) rfl ?_|(refine AQ.guard rfl rfl (fun hg => ?_) (fun hg => ?_) <;> ((try simp only [DX] at hg) <;> (try first|(exfalso; omega)|exact absurd trivial hg|exact False.elim hg|exact absurd rfl hg))))
    all_goals (try simp only [DX] at *)
    all_goals try (exfalso; first | exact hg | exact hg rfl | omega | (simp_all; done))
    repeat' (first|refine AL.do tok rfl rfl ?_|refine AL.nil ?_|refine AW.seq fun K hK => ?_|refine AW.region ?_|refine AL.no rfl rfl ?_|(refine hK _ ?_; clear hK)|(clear hK; refine hK _ ?_; clear hK)|(clear hK; clear hK; refine hK _ ?_; clear hK)|refine qa7 qv1 ?_|refine qa7 qv2 ?_|refine qa7 qv3 ?_|refine qa7 (qv4 tok) ?_|refine qa7 (qv5 tok) ?_|refine qa7 qv6 ?_|refine qa7 qv7 ?_|refine qa7 (qv8 tok) ?_|refine qa7 (qv9 tok) ?_|refine qa7 (qv10 tok) ?_|refine qa7 (qv11 tok) ?_|refine qa7 (qv12 tok) ?_|refine qa7 (qv13 tok) ?_|refine qa7 (qv14 tok) ?_|refine qa7 (qv15 tok) ?_|refine qa7 (qv16 tok) ?_|refine qa7 qv17 ?_|refine qa7 (qv18 tok) ?_|refine qa7 qv19 ?_|refine qa7 (qv20 tok) ?_|refine qa7 (qv21 tok) ?_|refine qa7 (qv22 tok) ?_|refine qa7 (qv23 tok) ?_|refine qa7 (qv24 tok) ?_|refine qa7 qv26 ?_|refine qa7 qv27 ?_|refine qa7 (qv28 tok) ?_|refine qa1 tok ?_|refine qa2 tok ?_|refine qa3 tok ?_|refine AL.loadR tok rfl rfl rfl rfl rfl rfl ?_|refine qa4 tok ?_|refine qa5 tok ?_|refine AW.block ?_|refine AW.exit ?_|refine AW.skip ?_|refine qc1 (awake_calls ..) ?_|refine qc2 (awake_calls ..) ?_|refine qc1 (b1 ..) ?_|refine qc2 (b1 ..) ?_|refine qc1 (b2 ..) ?_|refine qc2 (b2 ..) ?_|refine qc1 (b3 ..) ?_|refine qc2 (b3 ..) ?_|refine qc1 (b4 ..) ?_|refine qc2 (b4 ..) ?_|refine qc1 (b5 ..) ?_|refine qc2 (b5 ..) ?_|((fail_if_success (refine AL.guard (b := true) rfl rfl ?_ ?_)); (fail_if_success (refine AL.guard (b := false) rfl rfl ?_ ?_)); refine AL.guard rfl rfl (fun hg => ?_) (fun hg => ?_) <;> ((try simp only [DX] at hg) <;> (try first|(exfalso; omega)|exact absurd trivial hg|exact False.elim hg|exact absurd rfl hg)))|refine AW.condT rfl ?_|refine AW.condF rfl ?_|(refine AW.cond rfl (fun hg => ?_) (fun hg => ?_) <;> ((try simp only [DX] at hg) <;> (try first|(exfalso; omega)|exact absurd trivial hg|exact False.elim hg|exact absurd rfl hg))))
    all_goals (try simp only [DX] at *)
    all_goals try (exfalso; first | exact hg | exact hg rfl | omega)
    all_goals
      refine AW.ret ?_
      refine ⟨_, _, _, _, rfl, Out.pure rfl ⟨?_, rfl⟩ rfl⟩
      rfl
  · have hh2 := handle_in (k := 5) (q := y) (.inr (.inl rfl)) hi hat
    rw [if_neg (by decide), if_pos rfl, if_pos (by rw [hif]; exact hlv)] at hh2
    have hJ2 : JW (releaseS v1 i v1.items[i]) := ⟨hJ1.1.release hi (by rw [hif]; exact hlv), release_ok hJ1.2 hi⟩
    have hm2 : (⟨y, 2, m⟩ : Fl) ∈ (releaseS v1 i v1.items[i]).items := by
      rw [release_items hi, hif]
      exact List.mem_iff_getElem.2 ⟨i, by simp; omega, by rw [List.getElem_set_self]; rfl⟩
    generalize releaseS v1 i v1.items[i] = v2 at *
    have b1 := handle0_calls v1 5 y hJ1.1 hJ1.2
    rw [hh2] at b1
    replace b1 : ACallP Try.prog 16 [aggW v1, aggQ0 5 y] (.tup [aggW v2, rowK [pubrelS y], i64 0]) := b1
    have o2 := others_calls v2 y ob hJ2 hob
    have hJ3 := others_j (q := y) hJ2 (fun o ho => (hob o ho).1) 30
    have hm3 := others_mem (q := y) hJ2 (fun o ho => (hob o ho).1) rfl hm2 30
    generalize othersS v2 y ob 30 = v3 at *
    obtain ⟨j, hj, hat3, hjf⟩ := at_mem hJ3.1 hm3
    simp only at hat3
    have hlen3 := hJ3.1.len
    have r3 := resend_calls v3 (by omega) hJ3.2
    have d1 := sent_calls (v3.items.map resK) 3 y (by simp; omega)
    have d2 := sent_calls (v3.items.map resK) 6 y (by simp; omega)
    have hres3 : resK (⟨y, 2, m⟩ : Fl) = pubrelS y := by rw [resK, if_pos rfl]
    rw [cnt_at hJ3.1.nodup hj (by rw [hjf]), hjf, hres3, if_neg (by show ¬ ((6 : Int) = 3); decide)] at d1
    rw [cnt_at hJ3.1.nodup hj (by rw [hjf]), hjf, hres3, if_pos (show (pubrelS y).kind = 6 from rfl)] at d2
    obtain ⟨v4, hh4, hJ4, hn4⟩ := handle_gone (k := 7) (q := y) hJ3.1 hJ3.2 hj hat3 (by rw [hjf]) (.inr ⟨rfl, by rw [hjf]⟩)
    have e1 := handle0_calls v3 7 y hJ3.1 hJ3.2
    rw [hh4] at e1
    replace e1 : ACallP Try.prog 16 [aggW v3, aggQ0 7 y] (.tup [aggW v4, rowK [], i64 0]) := e1
    have hlen4 := hJ4.1.len
    have e2 := resend_calls v4 (by omega) hJ4.2
    have e3 := sent_calls (v4.items.map resK) 3 y (by simp; omega)
    have e4 := sent_calls (v4.items.map resK) 6 y (by simp; omega)
    rw [cnt_none hn4] at e3 e4
    have e5 := refAt_calls v4.items y (by omega)
    rw [at_out hn4] at e5
    generalize v4.items.map resK = K4 at *
    generalize v3.items.map resK = K3 at *
    refine ACalls.body tok Try.func6 rfl (by kernel_rfl) (by rw [Try.ntmps6]; simp) ?_
    simp only [Try.ntmps6, Try.results6, argT]
    repeat' (first|refine AL.do tok rfl rfl ?_|refine AL.nil ?_|refine AW.seq fun K hK => ?_|refine AW.region ?_|refine AL.no rfl rfl ?_|(refine hK _ ?_; clear hK)|(clear hK; refine hK _ ?_; clear hK)|(clear hK; clear hK; refine hK _ ?_; clear hK)|refine qa7 qv1 ?_|refine qa7 qv2 ?_|refine qa7 qv3 ?_|refine qa7 (qv4 tok) ?_|refine qa7 (qv5 tok) ?_|refine qa7 qv6 ?_|refine qa7 qv7 ?_|refine qa7 (qv8 tok) ?_|refine qa7 (qv9 tok) ?_|refine qa7 (qv10 tok) ?_|refine qa7 (qv11 tok) ?_|refine qa7 (qv12 tok) ?_|refine qa7 (qv13 tok) ?_|refine qa7 (qv14 tok) ?_|refine qa7 (qv15 tok) ?_|refine qa7 (qv16 tok) ?_|refine qa7 qv17 ?_|refine qa7 (qv18 tok) ?_|refine qa7 qv19 ?_|refine qa7 (qv20 tok) ?_|refine qa7 (qv21 tok) ?_|refine qa7 (qv22 tok) ?_|refine qa7 (qv23 tok) ?_|refine qa7 (qv24 tok) ?_|refine qa7 qv26 ?_|refine qa7 qv27 ?_|refine qa7 (qv28 tok) ?_|refine qa1 tok ?_|refine qa2 tok ?_|refine qa3 tok ?_|refine AL.loadR tok rfl rfl rfl rfl rfl rfl ?_|refine qa4 tok ?_|refine qa5 tok ?_|refine AW.block ?_|refine AW.exit ?_|refine AW.skip ?_|refine qc1 (k1 ..) ?_|refine qc2 (k1 ..) ?_|refine qc1 (s1 ..) ?_|refine qc2 (s1 ..) ?_|refine qc1 (s2 ..) ?_|refine qc2 (s2 ..) ?_|refine qc1 (o1 ..) ?_|refine qc2 (o1 ..) ?_|refine qc1 (r1 ..) ?_|refine qc2 (r1 ..) ?_|refine qc1 (a1 ..) ?_|refine qc2 (a1 ..) ?_|((fail_if_success (refine AL.guard (b := true) rfl rfl ?_ ?_)); (fail_if_success (refine AL.guard (b := false) rfl rfl ?_ ?_)); refine AL.guard rfl rfl (fun hg => ?_) (fun hg => ?_) <;> ((try simp only [DX] at hg) <;> (try first|(exfalso; omega)|exact absurd trivial hg|exact False.elim hg|exact absurd rfl hg)))|refine AW.condT rfl ?_|refine AW.condF rfl ?_|(refine AW.cond rfl (fun hg => ?_) (fun hg => ?_) <;> ((try simp only [DX] at hg) <;> (try first|(exfalso; omega)|exact absurd trivial hg|exact False.elim hg|exact absurd rfl hg))))
    refine AW.drawn mix (by kernel_rfl) ?_
    repeat' (first|refine AQ.do tok rfl rfl rfl ?_|refine AQ.no rfl rfl ?_|refine AQ.v rfl qv1 rfl ?_|refine AQ.v rfl qv2 rfl ?_|refine AQ.v rfl qv3 rfl ?_|refine AQ.v rfl (qv4 tok) rfl ?_|refine AQ.v rfl (qv5 tok) rfl ?_|refine AQ.v rfl qv6 rfl ?_|refine AQ.v rfl qv7 rfl ?_|refine AQ.v rfl (qv8 tok) rfl ?_|refine AQ.v rfl (qv9 tok) rfl ?_|refine AQ.v rfl (qv10 tok) rfl ?_|refine AQ.v rfl (qv11 tok) rfl ?_|refine AQ.v rfl (qv12 tok) rfl ?_|refine AQ.v rfl (qv13 tok) rfl ?_|refine AQ.v rfl (qv14 tok) rfl ?_|refine AQ.v rfl (qv15 tok) rfl ?_|refine AQ.v rfl (qv16 tok) rfl ?_|refine AQ.v rfl qv17 rfl ?_|refine AQ.v rfl (qv18 tok) rfl ?_|refine AQ.v rfl qv19 rfl ?_|refine AQ.v rfl (qv20 tok) rfl ?_|refine AQ.v rfl (qv21 tok) rfl ?_|refine AQ.v rfl (qv22 tok) rfl ?_|refine AQ.v rfl (qv23 tok) rfl ?_|refine AQ.v rfl (qv24 tok) rfl ?_|refine AQ.v rfl qv26 rfl ?_|refine AQ.v rfl qv27 rfl ?_|refine AQ.v rfl (qv28 tok) rfl ?_|refine AQ.nil ?_|refine AQ.callB rfl rfl rfl rfl rfl rfl (c1 ..) rfl ?_|refine AQ.callB rfl rfl rfl rfl rfl rfl (c2 ..) rfl ?_|refine AQ.callB rfl rfl rfl rfl rfl rfl (hKs ..) rfl ?_|(refine AQ.guard rfl rfl (fun hg => ?_) (fun hg => ?_) <;> ((try simp only [DX] at hg) <;> (try first|(exfalso; omega)|exact absurd trivial hg|exact False.elim hg|exact absurd rfl hg))))
    all_goals (try simp only [DX] at *)
    all_goals try (exfalso; first | exact hg | exact hg rfl | omega | (simp_all; done))
    repeat' (first|refine AL.do tok rfl rfl ?_|refine AL.nil ?_|refine AW.seq fun K hK => ?_|refine AW.region ?_|refine AL.no rfl rfl ?_|(refine hK _ ?_; clear hK)|(clear hK; refine hK _ ?_; clear hK)|(clear hK; clear hK; refine hK _ ?_; clear hK)|refine qa7 qv1 ?_|refine qa7 qv2 ?_|refine qa7 qv3 ?_|refine qa7 (qv4 tok) ?_|refine qa7 (qv5 tok) ?_|refine qa7 qv6 ?_|refine qa7 qv7 ?_|refine qa7 (qv8 tok) ?_|refine qa7 (qv9 tok) ?_|refine qa7 (qv10 tok) ?_|refine qa7 (qv11 tok) ?_|refine qa7 (qv12 tok) ?_|refine qa7 (qv13 tok) ?_|refine qa7 (qv14 tok) ?_|refine qa7 (qv15 tok) ?_|refine qa7 (qv16 tok) ?_|refine qa7 qv17 ?_|refine qa7 (qv18 tok) ?_|refine qa7 qv19 ?_|refine qa7 (qv20 tok) ?_|refine qa7 (qv21 tok) ?_|refine qa7 (qv22 tok) ?_|refine qa7 (qv23 tok) ?_|refine qa7 (qv24 tok) ?_|refine qa7 qv26 ?_|refine qa7 qv27 ?_|refine qa7 (qv28 tok) ?_|refine qa1 tok ?_|refine qa2 tok ?_|refine qa3 tok ?_|refine AL.loadR tok rfl rfl rfl rfl rfl rfl ?_|refine qa4 tok ?_|refine qa5 tok ?_|refine AW.block ?_|refine AW.exit ?_|refine AW.skip ?_|refine qc1 (awake_calls ..) ?_|refine qc2 (awake_calls ..) ?_|refine qc1 (b1 ..) ?_|refine qc2 (b1 ..) ?_|refine qc1 (o2 ..) ?_|refine qc2 (o2 ..) ?_|refine qc1 (r3 ..) ?_|refine qc2 (r3 ..) ?_|refine qc1 (d1 ..) ?_|refine qc2 (d1 ..) ?_|refine qc1 (d2 ..) ?_|refine qc2 (d2 ..) ?_|refine qc1 (e1 ..) ?_|refine qc2 (e1 ..) ?_|refine qc1 (e2 ..) ?_|refine qc2 (e2 ..) ?_|refine qc1 (e3 ..) ?_|refine qc2 (e3 ..) ?_|refine qc1 (e4 ..) ?_|refine qc2 (e4 ..) ?_|refine qc1 (e5 ..) ?_|refine qc2 (e5 ..) ?_|((fail_if_success (refine AL.guard (b := true) rfl rfl ?_ ?_)); (fail_if_success (refine AL.guard (b := false) rfl rfl ?_ ?_)); refine AL.guard rfl rfl (fun hg => ?_) (fun hg => ?_) <;> ((try simp only [DX] at hg) <;> (try first|(exfalso; omega)|exact absurd trivial hg|exact False.elim hg|exact absurd rfl hg)))|refine AW.condT rfl ?_|refine AW.condF rfl ?_|(refine AW.cond rfl (fun hg => ?_) (fun hg => ?_) <;> ((try simp only [DX] at hg) <;> (try first|(exfalso; omega)|exact absurd trivial hg|exact False.elim hg|exact absurd rfl hg))))
    all_goals (try simp only [DX] at *)
    all_goals try (exfalso; first | exact hg | exact hg rfl | omega)
    all_goals
      refine AW.ret ?_
      refine ⟨_, _, _, _, rfl, Out.pure rfl ⟨?_, rfl⟩ rfl⟩
      rfl
end Go.Proofs.Try
