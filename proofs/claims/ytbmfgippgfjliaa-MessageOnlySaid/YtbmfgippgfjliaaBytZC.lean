/- Messages in bytes: what is read was written: plain laws; the law that nothing else is read. -/
import Derived.Test.YtbmfgippgfjliaaBytZ
import Derived.Test.YtbmfgippgfjliaaBytZA
import Derived.Test.YtbmfgippgfjliaaBytW
set_option linter.unusedSimpArgs false
set_option linter.unusedVariables false
namespace Go.Proofs.Try
open Go Go.AM

theorem rdS_inv {b : List Nat} (hb : OkU b) (a : Nat) : ∀ (f i c : Nat) (n nx : Int), f + i = 10 → c < 2 ^ (7 * i) → a + i ≤ b.length → rdS b a f i c = (n, nx, 0) →
    ∃ v, n = numS (c + v * 2 ^ (7 * i)) ∧ v * 2 ^ (7 * i) + c < 18446744073709551616 ∧ (0 < i → 0 < v) ∧ (b.drop (a + i)).take (varS v).length = varS v ∧ nx = ((a + i + (varS v).length : Nat) : Int) ∧ a + i + (varS v).length ≤ b.length
  | 0, i, c, n, nx, hi, hc, hl, h => by simp [rdS] at h
  | f + 1, i, c, n, nx, hi, hc, hl, h => by
    rw [rdS] at h
    split at h
    · simp at h
    · rename_i hne
      have hlt : a + i < b.length := by omega
      have hx : b.getD (a + i) 0 = b[a + i] := by rw [List.getD_eq_getElem?_getD, List.getElem?_eq_getElem hlt]; rfl
      have hd := List.drop_eq_getElem_cons hlt
      have h256 := hb _ (List.getElem_mem hlt)
      rw [hx] at h
      generalize b[a + i] = x at *
      split at h
      · simp at h
      · rename_i hbad
        split at h
        · rename_i h128
          simp only [Prod.mk.injEq, and_true] at h
          obtain ⟨rfl, rfl⟩ := h
          have hm : x % 128 = x := Nat.mod_eq_of_lt h128
          have hsb := sh_bound (v := x) (i := i) (by omega) h128 (fun h => by omega)
          refine ⟨x, by rw [hm], by omega, fun h => by omega, ?_, ?_, ?_⟩
          · rw [varS_lt h128, hd]; rfl
          · rw [varS_lt h128]; rfl
          · rw [varS_lt h128]; simp; omega
        · rename_i h128
          have h9 : i ≠ 9 := fun h => hbad (.inl ⟨h, by omega⟩)
          obtain ⟨v', e1, e2, e3, e4, e5, e6⟩ := rdS_inv hb a f (i + 1) _ n nx (by omega) (sh_next (Nat.mod_lt _ (by decide)) hc) (by omega) h
          have hv' := e3 (by omega)
          have hp := pow7 i
          have hge : ¬ (x % 128 + 128 * v') < 128 := by omega
          have hdiv : (x % 128 + 128 * v') / 128 = v' := by omega
          have hmod : (x % 128 + 128 * v') % 128 + 128 = x := by omega
          have hs : varS (x % 128 + 128 * v') = x :: varS v' := by rw [varS_ge hge, hdiv, hmod]
          have hsum : c + (x % 128 + 128 * v') * 2 ^ (7 * i) = c + x % 128 * 2 ^ (7 * i) + v' * 2 ^ (7 * (i + 1)) := by
            rw [hp, Nat.add_mul, show v' * (128 * 2 ^ (7 * i)) = 128 * v' * 2 ^ (7 * i) by rw [← Nat.mul_assoc, Nat.mul_comm v']]
            omega
          refine ⟨x % 128 + 128 * v', by rw [hsum]; exact e1, by omega, fun _ => by omega, ?_, ?_, ?_⟩
          · rw [hs, hd, List.length_cons, List.take_succ_cons]
            congr 1
          · rw [hs, List.length_cons, e5]
            congr 1
            omega
          · rw [hs, List.length_cons]
            omega
/-- From p to q the bytes w stand. -/
def Rd (b : List Nat) (p q : Int) (w : List Nat) : Prop := ∃ k c : Nat, p = k ∧ q = c ∧ c ≤ b.length ∧ k ≤ c ∧ b.take c = b.take k ++ w
theorem Rd.app {b : List Nat} {p q r : Int} {w w' : List Nat} (h : Rd b p q w) (h' : Rd b q r w') : Rd b p r (w ++ w') := by
  obtain ⟨k, c, e1, e2, e3, e4, e5⟩ := h
  obtain ⟨k', c', f1, f2, f3, f4, f5⟩ := h'
  have : k' = c := by omega
  subst this
  exact ⟨k, c', e1, f2, f3, by omega, by rw [f5, e5, List.append_assoc]⟩
theorem numR_rd {b : List Nat} (hb : OkU b) {p n nx : Int} (h : numR b p = (n, nx, 0)) : Rd b p nx (nE n) ∧ (-9223372036854775808 ≤ n ∧ n ≤ 9223372036854775807) := by
  unfold numR at h
  split at h
  · simp at h
  · rename_i hp
    obtain ⟨v, e1, e2, e3, e4, e5, e6⟩ := rdS_inv hb p.toNat 10 0 0 n nx rfl (by decide) (by omega) h
    simp only [Nat.mul_zero, Nat.pow_zero, Nat.mul_one, Nat.zero_add, Nat.add_zero] at e1 e2 e4 e5 e6
    have hne : nE n = varS v := by rw [e1, nE, codeS_numS]
    refine ⟨⟨p.toNat, p.toNat + (varS v).length, by omega, e5, e6, by omega, ?_⟩, ?_⟩
    · rw [List.take_add, e4, hne]
    · rw [e1]
      unfold numS
      split <;> omega
theorem rNum_rd {b : List Nat} (hb : OkU b) (s : Int × Int) (h : (rNum b s).2.2 = 0) : s.2 = 0 ∧ Rd b s.1 (rNum b s).2.1 (nE (rNum b s).1) := by
  by_cases hs : s.2 = 0
  · refine ⟨hs, ?_⟩
    unfold rNum at *
    rw [if_pos hs] at *
    generalize hr : numR b s.1 = r at *
    obtain ⟨n, nx, e⟩ := r
    simp only at h
    subst h
    exact (numR_rd hb hr).1
  · rw [rNum_err b s hs] at h
    exact absurd h hs
theorem rTxt_rd {b : List Nat} (hb : OkU b) (l : Int) (s : Int × Int) (h : (rTxt b l s).2.2 = 0) : s.2 = 0 ∧ Rd b s.1 (rTxt b l s).2.1 (tE (rTxt b l s).1) := by
  by_cases hs : s.2 = 0
  · refine ⟨hs, ?_⟩
    have he : rTxt b l s = ((txtR b s.1 l).1, (if (txtR b s.1 l).2.2 = 0 then (txtR b s.1 l).2.1 else s.1), (txtR b s.1 l).2.2) := by unfold rTxt; rw [if_pos hs]
    rw [he] at h ⊢
    simp only at h ⊢
    rw [if_pos h]
    unfold txtR cntR at h ⊢
    generalize hr : numR b s.1 = r at *
    obtain ⟨n, nx, e⟩ := r
    simp only at h ⊢
    by_cases he0 : e = 0
    · subst he0
      obtain ⟨⟨k, c, e1, e2, e3, e4, e5⟩, _⟩ := numR_rd hb hr
      subst e2
      by_cases h1 : n < 0
      · simp [h1] at h
      · by_cases h2 : l < n
        · simp [h1, h2] at h
        · by_cases h3 : (b.length : Int) - c < n
          · simp [h1, h2, h3] at h
          · simp only [h1, h2, h3, if_true, if_false, Int.toNat_natCast]
            have hlen : ((b.drop c).take n.toNat).length = n.toNat := by rw [List.length_take, List.length_drop]; omega
            have hok : OkU ((b.drop c).take n.toNat) := fun x hx => hb x (List.mem_of_mem_drop (List.mem_of_mem_take hx))
            refine ⟨k, c + n.toNat, e1, by omega, by omega, by omega, ?_⟩
            unfold tE
            rw [bytesOf_strN hok, strN_size, hlen, List.take_add, e5, nE, List.append_assoc, show ((n.toNat : Nat) : Int) = n by omega]
    · simp [he0] at h
  · rw [rTxt_err b l s hs] at h
    exact absurd h hs
theorem rdPs_rd {b : List Nat} (hb : OkU b) : ∀ (f : Nat) (s : Int × Int), (∃ k : Nat, s.1 = k ∧ k ≤ b.length) → (rdPs b f s).2.2 = 0 → s.2 = 0 ∧ Rd b s.1 (rdPs b f s).2.1 (propsE (rdPs b f s).1) ∧ (rdPs b f s).1.length = f
  | 0, s, ⟨k, hk, hl⟩, h => ⟨h, ⟨k, k, hk, hk, hl, Nat.le_refl _, by simp [rdPs, propsE]⟩, rfl⟩
  | f + 1, s, hs, h => by
    by_cases h0 : s.2 = 0
    · have e : rdPs b (f + 1) s = (⟨(rTxt b 16 s).1, (rTxt b 160 (rTxt b 16 s).2).1⟩ :: (rdPs b f (rTxt b 160 (rTxt b 16 s).2).2).1, (rdPs b f (rTxt b 160 (rTxt b 16 s).2).2).2) := by rw [rdPs, if_pos h0]
      rw [e] at h ⊢
      simp only at h ⊢
      have hv : (rTxt b 160 (rTxt b 16 s).2).2.2 = 0 := by
        by_cases hv : (rTxt b 160 (rTxt b 16 s).2).2.2 = 0
        · exact hv
        · rw [rdPs_err b f _ hv] at h
          exact h
      obtain ⟨a1, a2⟩ := rTxt_rd hb 160 _ hv
      obtain ⟨_, b2⟩ := rTxt_rd hb 16 s a1
      obtain ⟨k, c, e1, e2, e3, e4, e5⟩ := a2
      obtain ⟨_, c2, c3⟩ := rdPs_rd hb f _ ⟨c, e2, e3⟩ h
      refine ⟨h0, ?_, by simp [c3]⟩
      have := Rd.app b2 (Rd.app ⟨k, c, e1, e2, e3, e4, e5⟩ c2)
      rw [propsE]
      exact this
    · rw [rdPs_err b _ s h0] at h
      exact absurd h h0
theorem must_rd {ok : Bool} {e : Int} (he : e ≠ 0) {s : Int × Int} (h : (mustR ok e s).2 = 0) : s.2 = 0 ∧ ok = true ∧ mustR ok e s = s := by
  unfold mustR at *
  split at h
  · exact absurd h he
  · rename_i h1
    refine ⟨h, ?_, by rw [if_neg h1]⟩
    cases ok with
    | true => rfl
    | false => exact absurd ⟨h, rfl⟩ h1
theorem take_inv {b : List Nat} (hb : OkU b) (p : Int) : ((takeS b p).2.2 ≠ 0 → (takeS b p).1 = ms0 ∧ (takeS b p).2.1 = 0) ∧ ((takeS b p).2.2 = 0 → checkM (takeS b p).1 = 0 ∧ Rd b p (takeS b p).2.1 (putE (takeS b p).1)) := by
  unfold takeS
  simp only
  have c1 := rTxt_rd hb 64 (p, 0)
  generalize rTxt b 64 (p, 0) = t at *
  have c2 := rTxt_rd hb 256 t.2
  generalize rTxt b 256 t.2 = pl at *
  have c3 := rNum_rd hb pl.2
  generalize rNum b pl.2 = lv at *
  have c4 := rNum_rd hb lv.2
  generalize rNum b lv.2 = rt at *
  have c5 : (mustR (is01 rt.1 1) 2 rt.2).2 = 0 → _ := must_rd (by decide)
  generalize mustR (is01 rt.1 1) 2 rt.2 = s5 at *
  have c6 := rNum_rd hb s5
  generalize rNum b s5 = pr at *
  have c7 := rNum_rd hb pr.2
  generalize rNum b pr.2 = ex at *
  have c8 := rTxt_rd hb 16 ex.2
  generalize rTxt b 16 ex.2 = fr at *
  have c9 := rNum_rd hb fr.2
  generalize rNum b fr.2 = sq at *
  have c10 := rNum_rd hb sq.2
  generalize rNum b sq.2 = n at *
  have c11 : (mustR (decide (0 ≤ n.1)) 2 n.2).2 = 0 → _ := must_rd (by decide)
  have c12 : (mustR (decide (n.1 ≤ 8)) 5 (mustR (decide (0 ≤ n.1)) 2 n.2)).2 = 0 → _ := must_rd (by decide)
  generalize mustR (decide (n.1 ≤ 8)) 5 (mustR (decide (0 ≤ n.1)) 2 n.2) = s12 at *
  generalize mustR (decide (0 ≤ n.1)) 2 n.2 = s11 at *
  have hps : (rdPs b n.1.toNat s12).2.2 = 0 → s12.2 = 0 := by
    intro h
    by_cases h0 : s12.2 = 0
    · exact h0
    · rw [rdPs_err b _ _ h0] at h
      exact h
  have c13 := rdPs_rd hb n.1.toNat s12
  generalize rdPs b n.1.toNat s12 = ps at *
  generalize hm : (⟨t.1, pl.1, lv.1, decide (rt.1 = 1), pr.1, ex.1, fr.1, sq.1, ps.1⟩ : Ms) = m at *
  constructor
  · intro h
    unfold finR at *
    by_cases h1 : (if ps.2.2 = 0 then checkM m else ps.2.2) = 0
    · rw [if_pos h1] at h
      exact absurd rfl h
    · rw [if_neg h1]
      exact ⟨rfl, rfl⟩
  intro h
  unfold finR at *
  by_cases h1 : (if ps.2.2 = 0 then checkM m else ps.2.2) = 0
  case neg =>
    rw [if_neg h1] at h
    exact absurd h h1
  rw [if_pos h1]
  simp only
  by_cases h2 : ps.2.2 = 0
  case neg =>
    rw [if_neg h2] at h1
    exact absurd h1 h2
  rw [if_pos h2] at h1
  refine ⟨h1, ?_⟩
  obtain ⟨d1, d2, d3⟩ := c12 (hps h2)
  obtain ⟨f1, f2, f3⟩ := c11 d1
  rw [f3] at d3
  subst d3
  obtain ⟨g1, g2⟩ := c10 f1
  obtain ⟨i1, i2⟩ := c9 g1
  obtain ⟨j1, j2⟩ := c8 i1
  obtain ⟨k1, k2⟩ := c7 j1
  obtain ⟨l1, l2⟩ := c6 k1
  obtain ⟨n1, n2, n3⟩ := c5 l1
  subst n3
  obtain ⟨o1, o2⟩ := c4 n1
  obtain ⟨q1, q2⟩ := c3 o1
  obtain ⟨r1, r2⟩ := c2 q1
  obtain ⟨_, s2⟩ := c1 r1
  have hin : ∃ k : Nat, n.2.1 = k ∧ k ≤ b.length := by
    obtain ⟨k, c, e1, e2, e3, _⟩ := g2
    exact ⟨c, e2, e3⟩
  obtain ⟨_, u2, u3⟩ := c13 hin h2
  have hr : rt.1 = (if decide (rt.1 = 1) = true then 1 else 0) := by
    simp only [is01, Bool.and_eq_true, decide_eq_true_eq] at n2
    by_cases h : rt.1 = 1
    · simp [h]
    · simp [h]; omega
  have hn : n.1 = (ps.1.length : Int) := by
    simp only [decide_eq_true_eq] at f2
    omega
  rw [hr] at o2
  rw [hn] at g2
  have all := s2.app (r2.app (q2.app (o2.app (l2.app (k2.app (j2.app (i2.app (g2.app u2))))))))
  rw [← hm, putE, headE]
  simp only [List.append_assoc] at all ⊢
  exact all
theorem putE_ge (m : Ms) (h : PutOk m) : 9 ≤ (putE m).length := by
  have n1 := tE_len m.topic (by have := h.topic; omega)
  have n2 := tE_len m.payload (by have := h.payload; omega)
  have n3 := nE_len m.level h.level
  have n4 := nE_len (if m.retain then 1 else 0) (by split <;> decide)
  have n5 := nE_len m.prio h.prio
  have n6 := nE_len m.expires h.expires
  have n7 := tE_len m.sender (by have := h.sender; omega)
  have n8 := nE_len m.seq h.seq
  have n9 := nE_len (m.props.length : Int) (by have := h.few; omega)
  unfold putE headE
  simp only [List.length_append]
  omega
set_option maxHeartbeats 8000000 in
set_option maxRecDepth 10000 in
theorem messageOnly_law (x0 : AV) (h0 : AT ts 41 x0) : ACallP Try.prog 11 [x0] (bo true) := by
  obtain ⟨b, rfl, hb, _⟩ := at_U h0
  have hlb : (b.map encU).length = b.length := List.length_map ..
  by_cases hbl : 2400 < b.length
  · refine ACalls.body tok Try.func11 rfl (by kernel_rfl) (by rw [Try.ntmps11]; simp) ?_
    simp only [Try.ntmps11, Try.results11, argT]
    repeat (first|refine AL.do tok rfl rfl ?_|refine AL.nil ?_|refine AW.seq fun K hK => ?_|refine AW.region ?_|refine AL.no rfl rfl ?_|(refine hK _ ?_; clear hK)|(clear hK; refine hK _ ?_; clear hK)|(clear hK; clear hK; refine hK _ ?_; clear hK)|refine qa7 qv1 ?_|refine qa7 qv2 ?_|refine qa7 qv3 ?_|refine qa7 (qv4 tok) ?_|refine qa7 (qv5 tok) ?_|refine qa7 qv6 ?_|refine qa7 qv7 ?_|refine qa7 (qv8 tok) ?_|refine qa7 (qv9 tok) ?_|refine qa7 (qv10 tok) ?_|refine qa7 (qv11 tok) ?_|refine qa7 (qv12 tok) ?_|refine qa7 (qv13 tok) ?_|refine qa7 (qv14 tok) ?_|refine qa7 (qv15 tok) ?_|refine qa7 (qv16 tok) ?_|refine qa7 qv17 ?_|refine qa7 (qv18 tok) ?_|refine qa7 qv19 ?_|refine qa7 (qv20 tok) ?_|refine qa7 (qv21 tok) ?_|refine qa7 (qv22 tok) ?_|refine qa1 tok ?_|refine qa2 tok ?_|refine qa3 tok ?_|refine AL.loadR tok rfl rfl rfl rfl rfl rfl ?_|refine qa4 tok ?_|refine qa5 tok ?_|refine AW.block ?_|refine AW.exit ?_|refine AW.skip ?_)
    simp only [hlb]
    repeat' (first|refine AL.do tok rfl rfl ?_|refine AL.nil ?_|refine AW.seq fun K hK => ?_|refine AW.region ?_|refine AL.no rfl rfl ?_|(refine hK _ ?_; clear hK)|(clear hK; refine hK _ ?_; clear hK)|(clear hK; clear hK; refine hK _ ?_; clear hK)|refine qa7 qv1 ?_|refine qa7 qv2 ?_|refine qa7 qv3 ?_|refine qa7 (qv4 tok) ?_|refine qa7 (qv5 tok) ?_|refine qa7 qv6 ?_|refine qa7 qv7 ?_|refine qa7 (qv8 tok) ?_|refine qa7 (qv9 tok) ?_|refine qa7 (qv10 tok) ?_|refine qa7 (qv11 tok) ?_|refine qa7 (qv12 tok) ?_|refine qa7 (qv13 tok) ?_|refine qa7 (qv14 tok) ?_|refine qa7 (qv15 tok) ?_|refine qa7 (qv16 tok) ?_|refine qa7 qv17 ?_|refine qa7 (qv18 tok) ?_|refine qa7 qv19 ?_|refine qa7 (qv20 tok) ?_|refine qa7 (qv21 tok) ?_|refine qa7 (qv22 tok) ?_|refine qa1 tok ?_|refine qa2 tok ?_|refine qa3 tok ?_|refine AL.loadR tok rfl rfl rfl rfl rfl rfl ?_|refine qa4 tok ?_|refine qa5 tok ?_|refine AW.block ?_|refine AW.exit ?_|refine AW.skip ?_|refine qc1 (awake_calls ..) ?_|refine qc2 (awake_calls ..) ?_|((fail_if_success (refine AL.guard (b := true) rfl rfl ?_ ?_)); (fail_if_success (refine AL.guard (b := false) rfl rfl ?_ ?_)); refine AL.guard rfl rfl (fun hg => ?_) (fun hg => ?_) <;> ((try simp only [DX] at hg) <;> (try first|(exfalso; omega)|exact absurd trivial hg|exact False.elim hg|exact absurd rfl hg)))|refine AW.condT rfl ?_|refine AW.condF rfl ?_|(refine AW.cond rfl (fun hg => ?_) (fun hg => ?_) <;> ((try simp only [DX] at hg) <;> (try first|(exfalso; omega)|exact absurd trivial hg|exact False.elim hg|exact absurd rfl hg)))|refine AW.ret ?_)
    all_goals first
      | (refine ⟨_, _, _, _, rfl, Out.pure rfl ⟨?_, rfl⟩ rfl⟩; rfl)
      | (exfalso; (try simp only [DX] at *); omega)
  have k1 := take_calls b 0 hb (by omega)
  obtain ⟨hi1, hi2⟩ := take_inv hb 0
  generalize takeS b 0 = r at *
  obtain ⟨m, nx, e⟩ := r
  simp only at k1 hi1 hi2
  by_cases he : e = 0
  case neg =>
    obtain ⟨rfl, rfl⟩ := hi1 he
    have k2 : ACallP Try.prog 26 [aggM ms0, .agg [st ⟨#[]⟩, st ⟨#[]⟩, i64 0, bo false, i64 0, i64 0, st ⟨#[]⟩, i64 0, .nilrow]] (bo true) := by
      have := sameM_calls ms0 ms0
      rw [eqM_iff.2 rfl] at this
      exact this.nilA rfl
    refine ACalls.body tok Try.func11 rfl (by kernel_rfl) (by rw [Try.ntmps11]; simp) ?_
    simp only [Try.ntmps11, Try.results11, argT]
    repeat (first|refine AL.do tok rfl rfl ?_|refine AL.nil ?_|refine AW.seq fun K hK => ?_|refine AW.region ?_|refine AL.no rfl rfl ?_|(refine hK _ ?_; clear hK)|(clear hK; refine hK _ ?_; clear hK)|(clear hK; clear hK; refine hK _ ?_; clear hK)|refine qa7 qv1 ?_|refine qa7 qv2 ?_|refine qa7 qv3 ?_|refine qa7 (qv4 tok) ?_|refine qa7 (qv5 tok) ?_|refine qa7 qv6 ?_|refine qa7 qv7 ?_|refine qa7 (qv8 tok) ?_|refine qa7 (qv9 tok) ?_|refine qa7 (qv10 tok) ?_|refine qa7 (qv11 tok) ?_|refine qa7 (qv12 tok) ?_|refine qa7 (qv13 tok) ?_|refine qa7 (qv14 tok) ?_|refine qa7 (qv15 tok) ?_|refine qa7 (qv16 tok) ?_|refine qa7 qv17 ?_|refine qa7 (qv18 tok) ?_|refine qa7 qv19 ?_|refine qa7 (qv20 tok) ?_|refine qa7 (qv21 tok) ?_|refine qa7 (qv22 tok) ?_|refine qa1 tok ?_|refine qa2 tok ?_|refine qa3 tok ?_|refine AL.loadR tok rfl rfl rfl rfl rfl rfl ?_|refine qa4 tok ?_|refine qa5 tok ?_|refine AW.block ?_|refine AW.exit ?_|refine AW.skip ?_)
    simp only [hlb]
    repeat' (first|refine AL.do tok rfl rfl ?_|refine AL.nil ?_|refine AW.seq fun K hK => ?_|refine AW.region ?_|refine AL.no rfl rfl ?_|(refine hK _ ?_; clear hK)|(clear hK; refine hK _ ?_; clear hK)|(clear hK; clear hK; refine hK _ ?_; clear hK)|refine qa7 qv1 ?_|refine qa7 qv2 ?_|refine qa7 qv3 ?_|refine qa7 (qv4 tok) ?_|refine qa7 (qv5 tok) ?_|refine qa7 qv6 ?_|refine qa7 qv7 ?_|refine qa7 (qv8 tok) ?_|refine qa7 (qv9 tok) ?_|refine qa7 (qv10 tok) ?_|refine qa7 (qv11 tok) ?_|refine qa7 (qv12 tok) ?_|refine qa7 (qv13 tok) ?_|refine qa7 (qv14 tok) ?_|refine qa7 (qv15 tok) ?_|refine qa7 (qv16 tok) ?_|refine qa7 qv17 ?_|refine qa7 (qv18 tok) ?_|refine qa7 qv19 ?_|refine qa7 (qv20 tok) ?_|refine qa7 (qv21 tok) ?_|refine qa7 (qv22 tok) ?_|refine qa1 tok ?_|refine qa2 tok ?_|refine qa3 tok ?_|refine AL.loadR tok rfl rfl rfl rfl rfl rfl ?_|refine qa4 tok ?_|refine qa5 tok ?_|refine AW.block ?_|refine AW.exit ?_|refine AW.skip ?_|refine qc1 (awake_calls ..) ?_|refine qc2 (awake_calls ..) ?_|refine qc1 (k1 ..) ?_|refine qc2 (k1 ..) ?_|refine qc1 (k2 ..) ?_|refine qc2 (k2 ..) ?_|((fail_if_success (refine AL.guard (b := true) rfl rfl ?_ ?_)); (fail_if_success (refine AL.guard (b := false) rfl rfl ?_ ?_)); refine AL.guard rfl rfl (fun hg => ?_) (fun hg => ?_) <;> ((try simp only [DX] at hg) <;> (try first|(exfalso; omega)|exact absurd trivial hg|exact False.elim hg|exact absurd rfl hg)))|refine AW.condT rfl ?_|refine AW.condF rfl ?_|(refine AW.cond rfl (fun hg => ?_) (fun hg => ?_) <;> ((try simp only [DX] at hg) <;> (try first|(exfalso; omega)|exact absurd trivial hg|exact False.elim hg|exact absurd rfl hg)))|refine AW.ret ?_)
    all_goals first
      | (refine ⟨_, _, _, _, rfl, Out.pure rfl ⟨?_, rfl⟩ rfl⟩; rfl)
      | (exfalso; (try simp only [DX] at *); omega)
      | trace_state
  subst he
  obtain ⟨hc, k0, c, e1, rfl, e3, e4, e5⟩ := hi2 rfl
  obtain rfl : k0 = 0 := by omega
  rw [List.take_zero, List.nil_append] at e5
  have hv := valM_ok (valM hc)
  have h9 := putE_ge m hv
  have hlen : (putE m).length = c := by rw [← e5, List.length_take]; omega
  have k2 := checkM_calls m (by have := hv.topic; omega)
  rw [hc] at k2
  have k3 : ACallP Try.prog 29 [.nilrow, aggM m] (rowU (putE m)) := by
    have := put_calls [] m (by decide) hv
    rw [List.nil_append] at this
    exact this.nilA rfl
  have k4 := same03_calls (putE m) (b.take c) (okU_putE m) (fun x hx => hb x (List.mem_of_mem_take hx))
  rw [decide_eq_true e5.symm] at k4
  generalize putE m = pm at *
  refine ACalls.body tok Try.func11 rfl (by kernel_rfl) (by rw [Try.ntmps11]; simp) ?_
  simp only [Try.ntmps11, Try.results11, argT]
  repeat (first|refine AL.do tok rfl rfl ?_|refine AL.nil ?_|refine AW.seq fun K hK => ?_|refine AW.region ?_|refine AL.no rfl rfl ?_|(refine hK _ ?_; clear hK)|(clear hK; refine hK _ ?_; clear hK)|(clear hK; clear hK; refine hK _ ?_; clear hK)|refine qa7 qv1 ?_|refine qa7 qv2 ?_|refine qa7 qv3 ?_|refine qa7 (qv4 tok) ?_|refine qa7 (qv5 tok) ?_|refine qa7 qv6 ?_|refine qa7 qv7 ?_|refine qa7 (qv8 tok) ?_|refine qa7 (qv9 tok) ?_|refine qa7 (qv10 tok) ?_|refine qa7 (qv11 tok) ?_|refine qa7 (qv12 tok) ?_|refine qa7 (qv13 tok) ?_|refine qa7 (qv14 tok) ?_|refine qa7 (qv15 tok) ?_|refine qa7 (qv16 tok) ?_|refine qa7 qv17 ?_|refine qa7 (qv18 tok) ?_|refine qa7 qv19 ?_|refine qa7 (qv20 tok) ?_|refine qa7 (qv21 tok) ?_|refine qa7 (qv22 tok) ?_|refine qa1 tok ?_|refine qa2 tok ?_|refine qa3 tok ?_|refine AL.loadR tok rfl rfl rfl rfl rfl rfl ?_|refine qa4 tok ?_|refine qa5 tok ?_|refine AW.block ?_|refine AW.exit ?_|refine AW.skip ?_)
  simp only [hlb]
  repeat' (first|refine AL.do tok rfl rfl ?_|refine AL.nil ?_|refine AW.seq fun K hK => ?_|refine AW.region ?_|refine AL.no rfl rfl ?_|(refine hK _ ?_; clear hK)|(clear hK; refine hK _ ?_; clear hK)|(clear hK; clear hK; refine hK _ ?_; clear hK)|refine qa7 qv1 ?_|refine qa7 qv2 ?_|refine qa7 qv3 ?_|refine qa7 (qv4 tok) ?_|refine qa7 (qv5 tok) ?_|refine qa7 qv6 ?_|refine qa7 qv7 ?_|refine qa7 (qv8 tok) ?_|refine qa7 (qv9 tok) ?_|refine qa7 (qv10 tok) ?_|refine qa7 (qv11 tok) ?_|refine qa7 (qv12 tok) ?_|refine qa7 (qv13 tok) ?_|refine qa7 (qv14 tok) ?_|refine qa7 (qv15 tok) ?_|refine qa7 (qv16 tok) ?_|refine qa7 qv17 ?_|refine qa7 (qv18 tok) ?_|refine qa7 qv19 ?_|refine qa7 (qv20 tok) ?_|refine qa7 (qv21 tok) ?_|refine qa7 (qv22 tok) ?_|refine qa1 tok ?_|refine qa2 tok ?_|refine qa3 tok ?_|refine AL.loadR tok rfl rfl rfl rfl rfl rfl ?_|refine qa4 tok ?_|refine qa5 tok ?_|refine AW.block ?_|refine AW.exit ?_|refine AW.skip ?_|refine qc1 (k1 ..) ?_|refine qc2 (k1 ..) ?_|((fail_if_success (refine AL.guard (b := true) rfl rfl ?_ ?_)); (fail_if_success (refine AL.guard (b := false) rfl rfl ?_ ?_)); refine AL.guard rfl rfl (fun hg => ?_) (fun hg => ?_) <;> ((try simp only [DX] at hg) <;> (try first|(exfalso; omega)|exact absurd trivial hg|exact False.elim hg|exact absurd rfl hg)))|refine AW.condT rfl ?_|refine AW.condF rfl ?_|(refine AW.cond rfl (fun hg => ?_) (fun hg => ?_) <;> ((try simp only [DX] at hg) <;> (try first|(exfalso; omega)|exact absurd trivial hg|exact False.elim hg|exact absurd rfl hg))))
  all_goals try (exfalso; (try simp only [DX] at *); omega)
  refine AW.any mix [[], [], [1], [0, 1, 2], [0, 1, 2, 3], [0, 1, 2, 3, 4], [0, 1, 2, 3, 4, 5], [0, 1, 2, 3, 4, 5, 6], [0, 1, 2, 3, 4, 5, 6, 7], [0, 1, 2, 3, 4, 5, 6, 7, 8], [0, 1, 2, 3, 4, 5, 6, 7, 8, 9], [0, 1, 2, 3, 4, 5, 6, 7, 8, 9, 10], [0, 1, 2, 3, 4, 5, 6, 7, 8, 9, 10, 11], [0, 1, 2, 3, 4, 5, 6, 7, 8, 9, 10, 11, 12], [0, 1, 2, 3, 4, 5, 6, 7, 8, 9, 10, 11, 12, 13], [0, 1, 2, 3, 4, 5, 6, 7, 8, 9, 10, 11, 12, 13, 14], [0, 1, 2, 3, 4, 5, 6, 7, 8, 9, 10, 11, 12, 13], [0, 1, 2, 3, 4, 5, 6, 7, 8, 9, 10, 11, 12, 13], [0, 1, 2, 3, 4, 5, 6, 7, 8, 9, 10, 11, 12, 13, 16, 17], [0, 1, 2, 3, 4, 5, 6, 7, 8, 9, 10, 11, 12, 13, 14, 15, 16, 17, 18], [0, 1, 2, 3, 4, 5, 6, 7, 8, 9, 10, 11, 12, 13, 14, 15, 16, 17, 18, 19], [0, 1, 2, 3, 4, 5, 6, 7, 8, 9, 10, 11, 12, 13, 14, 15, 16, 17, 18, 19, 20], [0, 1, 2, 3, 4, 5, 6, 7, 8, 9, 10, 11, 12, 13, 14, 15, 16, 17, 18, 19, 20, 21], [0, 1, 2, 3, 4, 5, 6, 7, 8, 9, 10, 11, 12, 13, 14, 15, 16, 17, 18, 19, 20, 21, 22], [0, 1, 2, 3, 4, 5, 6, 7, 8, 9, 10, 11, 12, 13, 14, 15, 16, 17, 18, 19, 20, 21, 22, 23]] [[29, 30], [28], [28], [], [], [], [], [], [], [], [], [], [], [], [44, 45, 46], [44, 45, 46], [42, 43, 45], [42, 43, 44], [42, 43], [], [], [], [], [], []] [[], [], [], [], [], [], [], [], [], [], [], [], [], [], [], [], [], [], [], [], [], [], [], [], []] [] (by decide +kernel) rfl (by first|assumption|(intro b hb; cases hb)) ?_ <;> repeat' (first|refine AR.step rfl rfl (by first|exact OSp.do tok rfl rfl rfl|exact OSp.no rfl rfl|exact OSp.noN rfl|exact OSp.v rfl rfl qv1|exact OSp.v rfl rfl qv2|exact OSp.v rfl rfl qv3|exact OSp.v rfl rfl (qv4 tok)|exact OSp.v rfl rfl (qv5 tok)|exact OSp.v rfl rfl qv6|exact OSp.v rfl rfl qv7|exact OSp.v rfl rfl (qv8 tok)|exact OSp.v rfl rfl (qv9 tok)|exact OSp.v rfl rfl (qv10 tok)|exact OSp.v rfl rfl (qv11 tok)|exact OSp.v rfl rfl (qv12 tok)|exact OSp.v rfl rfl (qv13 tok)|exact OSp.v rfl rfl (qv14 tok)|exact OSp.v rfl rfl (qv15 tok)|exact OSp.v rfl rfl (qv16 tok)|exact OSp.v rfl rfl qv17|exact OSp.v rfl rfl (qv18 tok)|exact OSp.v rfl rfl qv19|exact OSp.v rfl rfl (qv20 tok)|exact OSp.v rfl rfl (qv21 tok)|exact OSp.v rfl rfl (qv22 tok)|exact OSp.copy tok rfl rfl rfl rfl rfl rfl rfl (by (first | (intro x hx; obtain ⟨_, _, rfl⟩ := List.mem_map.1 hx; rfl) | (intro x hx; replace hx := List.mem_of_mem_take (List.mem_of_mem_drop hx); obtain ⟨_, _, rfl⟩ := List.mem_map.1 hx; rfl) | (simp; done))) rfl rfl rfl rfl|exact OSp.buildSlice tok rfl rfl rfl rfl rfl rfl rfl rfl|exact OSp.append tok rfl rfl rfl rfl rfl rfl rfl rfl rfl rfl rfl (by first|(intro x hx; obtain ⟨_, _, rfl⟩ := List.mem_map.1 hx; rfl)|(simp; done)) (by simp; omega) (by simp; omega)|exact OSp.alloc tok rfl rfl rfl rfl|exact OSp.box tok rfl rfl rfl rfl rfl|exact OSp.boxC tok rfl rfl rfl rfl rfl|exact OSp.store tok rfl rfl rfl rfl rfl rfl rfl rfl|exact OSp.callS rfl rfl rfl rfl rfl rfl (awake_calls ..) rfl|exact OSp.callP rfl rfl rfl rfl rfl (awake_calls ..)|exact OSp.callO rfl rfl rfl rfl rfl (awake_calls ..)|exact OSp.callO rfl rfl rfl rfl rfl awake_calls|exact OSp.callS rfl rfl rfl rfl rfl rfl (k2 ..) rfl|exact OSp.callP rfl rfl rfl rfl rfl (k2 ..)|exact OSp.callO rfl rfl rfl rfl rfl (k2 ..)|exact OSp.callO rfl rfl rfl rfl rfl k2|exact OSp.callS rfl rfl rfl rfl rfl rfl (k3 ..) rfl|exact OSp.callP rfl rfl rfl rfl rfl (k3 ..)|exact OSp.callO rfl rfl rfl rfl rfl (k3 ..)|exact OSp.callO rfl rfl rfl rfl rfl k3|exact OSp.callS rfl rfl rfl rfl rfl rfl (k4 ..) rfl|exact OSp.callP rfl rfl rfl rfl rfl (k4 ..)|exact OSp.callO rfl rfl rfl rfl rfl (k4 ..)|exact OSp.callO rfl rfl rfl rfl rfl k4) (by rfl) (by rfl) ?_|refine AR.done rfl rfl ?_|(refine AR.guard rfl rfl rfl rfl (fun hg => ?_) (fun hg => ?_) <;> ((try simp only [DX] at hg) <;> (try first|(exfalso; omega)|exact absurd trivial hg|exact False.elim hg|exact absurd rfl hg))))
  all_goals
    refine hK _ ?_
    refine AW.ret ?_
    refine ⟨_, _, _, _, rfl, Out.pure rfl ⟨?_, rfl⟩ rfl⟩
    rfl
end Go.Proofs.Try
