/- Texts in bytes: where reading ends; the layer reads them. -/
import Derived.Test.YtbmfgippgfjliaaBytH
import Derived.Test.YtbmfgippgfjliaaAMD
set_option linter.unusedSimpArgs false
set_option linter.unusedVariables false
namespace Go.Proofs.Try
open Go Go.AM

theorem rdS_in (b : List Nat) (a : Nat) : ∀ (f i c : Nat), a + i ≤ b.length → 0 ≤ (rdS b a f i c).2.1 ∧ (rdS b a f i c).2.1 ≤ b.length ∧ ((rdS b a f i c).2.2 = 0 → (a + i : Nat) < (rdS b a f i c).2.1) ∧ ((rdS b a f i c).2.2 ≠ 0 → (rdS b a f i c).1 = 0 ∧ (rdS b a f i c).2.1 = 0)
  | 0, i, c, h => by simp [rdS]
  | f + 1, i, c, h => by
    unfold rdS
    split
    · simp
    · split
      · simp
      · split
        · simp only
          refine ⟨by omega, by omega, fun _ => by omega, fun h => absurd rfl h⟩
        · obtain ⟨h1, h2, h3, h4⟩ := rdS_in b a f (i + 1) (c + b.getD (a + i) 0 % 128 * 2 ^ (7 * i)) (by omega)
          exact ⟨h1, h2, fun h0 => by have := h3 h0; omega, h4⟩
theorem numR_in (b : List Nat) (p : Int) : 0 ≤ (numR b p).2.1 ∧ (numR b p).2.1 ≤ b.length ∧ ((numR b p).2.2 = 0 → 0 ≤ p ∧ p < (numR b p).2.1) ∧ ((numR b p).2.2 ≠ 0 → (numR b p).1 = 0 ∧ (numR b p).2.1 = 0) := by
  unfold numR
  split
  · simp
  · rename_i h
    obtain ⟨h1, h2, h3, h4⟩ := rdS_in b p.toNat 10 0 0 (by omega)
    exact ⟨h1, h2, fun h0 => by have := h3 h0; omega, h4⟩
theorem cntR_in (b : List Nat) (p limit : Int) : 0 ≤ (cntR b p limit).2.1 ∧ (cntR b p limit).2.1 ≤ b.length ∧ 0 ≤ (cntR b p limit).1 := by
  obtain ⟨h1, h2, h3, h4⟩ := numR_in b p
  unfold cntR
  repeat' split
  all_goals simp only
  all_goals omega
theorem refText2_calls (b : List Nat) (p limit : Int) (hb : OkU b) (hl : b.length ≤ 1000000) : ACallP Try.prog 67 [rowU b, i64 p, i64 limit] (txtAV (txtR b p limit)) := refText_calls b p limit hb hl (cntR_in b p limit)
set_option maxHeartbeats 16000000 in
set_option maxRecDepth 10000 in
theorem text_calls (b : List Nat) (p limit : Int) (hb : OkU b) (hl : b.length ≤ 1000000) : ACallP Try.prog 58 [rowU b, i64 p, i64 limit] (txtAV (txtR b p limit)) := by
  have k := num_calls b p hb hl
  have h0 := numR_in b p
  have hlm : (b.map encU).length = b.length := List.length_map ..
  have c1 : (numR b p).2.2 ≠ 0 → txtR b p limit = (⟨#[]⟩, 0, (numR b p).2.2) := fun h => by simp [txtR, cntR, h]
  have c2 : (numR b p).2.2 = 0 → (numR b p).1 < 0 → txtR b p limit = (⟨#[]⟩, 0, 2) := fun h h2 => by simp [txtR, cntR, h, h2]
  have c3 : (numR b p).2.2 = 0 → ¬ (numR b p).1 < 0 → limit < (numR b p).1 → txtR b p limit = (⟨#[]⟩, 0, 5) := fun h h2 h3 => by simp [txtR, cntR, h, h2, h3]
  have c4 : (numR b p).2.2 = 0 → ¬ (numR b p).1 < 0 → ¬ limit < (numR b p).1 → (b.length : Int) - (numR b p).2.1 < (numR b p).1 → txtR b p limit = (⟨#[]⟩, 0, 3) := fun h h2 h3 h4 => by simp [txtR, cntR, h, h2, h3, h4]
  have c5 : (numR b p).2.2 = 0 → ¬ (numR b p).1 < 0 → ¬ limit < (numR b p).1 → ¬ (b.length : Int) - (numR b p).2.1 < (numR b p).1 → txtR b p limit = (strN ((b.drop (numR b p).2.1.toNat).take (numR b p).1.toNat), (numR b p).2.1 + (numR b p).1, 0) := fun h h2 h3 h4 => by simp [txtR, cntR, h, h2, h3, h4]
  generalize numR b p = r at *
  generalize txtR b p limit = z at *
  obtain ⟨n, nx, e⟩ := r
  simp only at h0 c1 c2 c3 c4 c5
  have k' : ACallP Try.prog 59 [rowU b, i64 p] (.tup [i64 n, i64 nx, i64 e]) := k
  clear k
  refine ACalls.body tok Try.func58 rfl (by kernel_rfl) (by rw [Try.ntmps58]; simp) ?_
  simp only [Try.ntmps58, Try.results58, argT]
  repeat' (first|refine AL.do tok rfl rfl ?_|refine AL.nil ?_|refine AW.seq fun K hK => ?_|refine AW.region ?_|refine AL.no rfl rfl ?_|(refine hK _ ?_; clear hK)|(clear hK; refine hK _ ?_; clear hK)|(clear hK; clear hK; refine hK _ ?_; clear hK)|refine qa7 qv1 ?_|refine qa7 qv2 ?_|refine qa7 qv3 ?_|refine qa7 (qv4 tok) ?_|refine qa7 (qv5 tok) ?_|refine qa7 qv6 ?_|refine qa7 qv7 ?_|refine qa7 (qv8 tok) ?_|refine qa7 (qv9 tok) ?_|refine qa7 (qv10 tok) ?_|refine qa7 (qv11 tok) ?_|refine qa7 (qv12 tok) ?_|refine qa7 (qv13 tok) ?_|refine qa7 (qv14 tok) ?_|refine qa7 (qv15 tok) ?_|refine qa7 (qv16 tok) ?_|refine qa7 qv17 ?_|refine qa7 (qv18 tok) ?_|refine qa7 qv19 ?_|refine qa7 (qv20 tok) ?_|refine qa7 (qv21 tok) ?_|refine qa7 (qv22 tok) ?_|refine qa7 (qv23 tok) ?_|refine qa7 (qv24 tok) ?_|refine qa7 qv26 ?_|refine qa7 qv27 ?_|refine qa7 (qv28 tok) ?_|refine qa7 (qv29 tok) ?_|refine qa1 tok ?_|refine qa2 tok ?_|refine qa3 tok ?_|refine AL.loadR tok rfl rfl rfl rfl rfl rfl ?_|refine qa4 tok ?_|refine qa5 tok ?_|refine AW.block ?_|refine AW.exit ?_|refine AW.skip ?_|refine qc1 (k' ..) ?_|refine qc2 (k' ..) ?_|((fail_if_success (refine AL.guard (b := true) rfl rfl ?_ ?_)); (fail_if_success (refine AL.guard (b := false) rfl rfl ?_ ?_)); refine AL.guard rfl rfl (fun hg => ?_) (fun hg => ?_) <;> ((try simp only [DX] at hg) <;> (try first|(exfalso; omega)|exact absurd trivial hg|exact False.elim hg|exact absurd rfl hg)))|refine AW.condT rfl ?_|refine AW.condF rfl ?_|(refine AW.cond rfl (fun hg => ?_) (fun hg => ?_) <;> ((try simp only [DX] at hg) <;> (try first|(exfalso; omega)|exact absurd trivial hg|exact False.elim hg|exact absurd rfl hg))))
  all_goals (try (try simp only [DX] at *))
  all_goals (try simp only [hlm] at *)
  all_goals try (refine AW.ret ?_)
  all_goals try (refine ⟨_, _, _, _, rfl, Out.pure rfl ⟨?_, rfl⟩ rfl⟩; first | (rw [c1 (by omega)]; done) | (rw [c2 (by omega) (by omega)]; done) | (rw [c3 (by omega) (by omega) (by omega)]; done) | (rw [c4 (by omega) (by omega) (by omega) (by omega)]; done))
  all_goals
    repeat (first|refine AL.do tok rfl rfl ?_|refine AL.nil ?_|refine AW.seq fun K hK => ?_|refine AW.region ?_|refine AL.no rfl rfl ?_|(refine hK _ ?_; clear hK)|(clear hK; refine hK _ ?_; clear hK)|(clear hK; clear hK; refine hK _ ?_; clear hK)|refine qa7 qv1 ?_|refine qa7 qv2 ?_|refine qa7 qv3 ?_|refine qa7 (qv4 tok) ?_|refine qa7 (qv5 tok) ?_|refine qa7 qv6 ?_|refine qa7 qv7 ?_|refine qa7 (qv8 tok) ?_|refine qa7 (qv9 tok) ?_|refine qa7 (qv10 tok) ?_|refine qa7 (qv11 tok) ?_|refine qa7 (qv12 tok) ?_|refine qa7 (qv13 tok) ?_|refine qa7 (qv14 tok) ?_|refine qa7 (qv15 tok) ?_|refine qa7 (qv16 tok) ?_|refine qa7 qv17 ?_|refine qa7 (qv18 tok) ?_|refine qa7 qv19 ?_|refine qa7 (qv20 tok) ?_|refine qa7 (qv21 tok) ?_|refine qa7 (qv22 tok) ?_|refine qa7 (qv23 tok) ?_|refine qa7 (qv24 tok) ?_|refine qa7 qv26 ?_|refine qa7 qv27 ?_|refine qa7 (qv28 tok) ?_|refine qa7 (qv29 tok) ?_|refine qa1 tok ?_|refine qa2 tok ?_|refine qa3 tok ?_|refine AL.loadR tok rfl rfl rfl rfl rfl rfl ?_|refine qa4 tok ?_|refine qa5 tok ?_|refine AW.block ?_|refine AW.exit ?_|refine AW.skip ?_)
    refine qa7 (VOp.cutMI3 tok rfl rfl rfl (fun _ => rfl) rfl rfl rfl (by omega) (by omega) (by omega) (by omega)) ?_
    repeat (first|refine AL.do tok rfl rfl ?_|refine AL.nil ?_|refine AW.seq fun K hK => ?_|refine AW.region ?_|refine AL.no rfl rfl ?_|(refine hK _ ?_; clear hK)|(clear hK; refine hK _ ?_; clear hK)|(clear hK; clear hK; refine hK _ ?_; clear hK)|refine qa7 qv1 ?_|refine qa7 qv2 ?_|refine qa7 qv3 ?_|refine qa7 (qv4 tok) ?_|refine qa7 (qv5 tok) ?_|refine qa7 qv6 ?_|refine qa7 qv7 ?_|refine qa7 (qv8 tok) ?_|refine qa7 (qv9 tok) ?_|refine qa7 (qv10 tok) ?_|refine qa7 (qv11 tok) ?_|refine qa7 (qv12 tok) ?_|refine qa7 (qv13 tok) ?_|refine qa7 (qv14 tok) ?_|refine qa7 (qv15 tok) ?_|refine qa7 (qv16 tok) ?_|refine qa7 qv17 ?_|refine qa7 (qv18 tok) ?_|refine qa7 qv19 ?_|refine qa7 (qv20 tok) ?_|refine qa7 (qv21 tok) ?_|refine qa7 (qv22 tok) ?_|refine qa7 (qv23 tok) ?_|refine qa7 (qv24 tok) ?_|refine qa7 qv26 ?_|refine qa7 qv27 ?_|refine qa7 (qv28 tok) ?_|refine qa7 (qv29 tok) ?_|refine qa1 tok ?_|refine qa2 tok ?_|refine qa3 tok ?_|refine AL.loadR tok rfl rfl rfl rfl rfl rfl ?_|refine qa4 tok ?_|refine qa5 tok ?_|refine AW.block ?_|refine AW.exit ?_|refine AW.skip ?_)
    refine qa7 (VOp.bytesStr (bs := ((b.drop nx.toNat).take n.toNat).map fun b : Nat => (b : Int)) tok rfl rfl (by
      have e1 : (nx + n).toNat - nx.toNat = n.toNat := by omega
      simp only [List.drop_take, e1, List.map_map, List.map_take, List.map_drop]
      rfl) rfl rfl rfl) ?_
    repeat' (first|refine AL.do tok rfl rfl ?_|refine AL.nil ?_|refine AW.seq fun K hK => ?_|refine AW.region ?_|refine AL.no rfl rfl ?_|(refine hK _ ?_; clear hK)|(clear hK; refine hK _ ?_; clear hK)|(clear hK; clear hK; refine hK _ ?_; clear hK)|refine qa7 qv1 ?_|refine qa7 qv2 ?_|refine qa7 qv3 ?_|refine qa7 (qv4 tok) ?_|refine qa7 (qv5 tok) ?_|refine qa7 qv6 ?_|refine qa7 qv7 ?_|refine qa7 (qv8 tok) ?_|refine qa7 (qv9 tok) ?_|refine qa7 (qv10 tok) ?_|refine qa7 (qv11 tok) ?_|refine qa7 (qv12 tok) ?_|refine qa7 (qv13 tok) ?_|refine qa7 (qv14 tok) ?_|refine qa7 (qv15 tok) ?_|refine qa7 (qv16 tok) ?_|refine qa7 qv17 ?_|refine qa7 (qv18 tok) ?_|refine qa7 qv19 ?_|refine qa7 (qv20 tok) ?_|refine qa7 (qv21 tok) ?_|refine qa7 (qv22 tok) ?_|refine qa7 (qv23 tok) ?_|refine qa7 (qv24 tok) ?_|refine qa7 qv26 ?_|refine qa7 qv27 ?_|refine qa7 (qv28 tok) ?_|refine qa7 (qv29 tok) ?_|refine qa1 tok ?_|refine qa2 tok ?_|refine qa3 tok ?_|refine AL.loadR tok rfl rfl rfl rfl rfl rfl ?_|refine qa4 tok ?_|refine qa5 tok ?_|refine AW.block ?_|refine AW.exit ?_|refine AW.skip ?_|((fail_if_success (refine AL.guard (b := true) rfl rfl ?_ ?_)); (fail_if_success (refine AL.guard (b := false) rfl rfl ?_ ?_)); refine AL.guard rfl rfl (fun hg => ?_) (fun hg => ?_) <;> ((try simp only [DX] at hg) <;> (try first|(exfalso; omega)|exact absurd trivial hg|exact False.elim hg|exact absurd rfl hg)))|refine AW.condT rfl ?_|refine AW.condF rfl ?_|(refine AW.cond rfl (fun hg => ?_) (fun hg => ?_) <;> ((try simp only [DX] at hg) <;> (try first|(exfalso; omega)|exact absurd trivial hg|exact False.elim hg|exact absurd rfl hg)))|refine AW.ret ?_)
    all_goals
      refine ⟨_, _, _, _, rfl, Out.pure rfl ⟨?_, rfl⟩ rfl⟩
      rw [c5 (by omega) (by omega) (by omega) (by omega)]
      rfl
end Go.Proofs.Try
