/- A machine over pure data: part 69: regions that draw their order, whose last operation comes behind all others. -/
import Derived.Test.YtagdffkagpeomaaAM68
set_option linter.unusedVariables false
set_option linter.unusedSimpArgs false
namespace Go.AM
open Go Go.RowKit

section
variable {P : Program} {l : List Oper} {Q : Exit → St → Prop} {n clk top : Nat} {T0 : List (Nat × AV)} {H0 : List (Nat × Option Blk)} {Hp : List Blk} {D HT HH : List (List Nat)} {M : List (Nat × Nat)}

/-- What may be forgotten, and renumbered; what the call was handed names blocks of its own. -/
theorem Imp.weakP (m : Nat → Nat) {n c clk : Nat} {T T' : List (Nat × AV)} {H H' : List (Nat × Option Blk)} {Hp Hp' : List Blk} (hm : ∀ j k, j < c → k < c → m j = m k → j = k) (hpe : Hp = Hp'.map (rnB m)) (hpl : Hp'.all (ltB c) = true) (hT : subT m c T T') (hH : subH m c ⟨n, T, H, Hp, clk⟩ H') : Imp ⟨n, T, H, Hp, clk⟩ ⟨n, T', H', Hp', c⟩ := by
  rintro cx a w ⟨ρ, O, hs⟩
  have hl : ∀ k, k < c → renum ρ m c (.loc k) = ρ (.loc (m k)) := fun k hk => by simp [renum, hk]
  have hp : ∀ k, renum ρ m c (.par k) = ρ (.par k) := fun _ => rfl
  have view : ∀ i b, hk ⟨n, T', H', Hp', c⟩ i = some b → (∃ k, i = .par k ∧ hk ⟨n, T, H, Hp, clk⟩ i = some (rnB m b) ∧ ltB c b = true) ∨ ∃ k, i = .loc k ∧ k < c ∧ hk ⟨n, T, H, Hp, clk⟩ (.loc (m k)) = some (rnB m b) ∧ ltB c b = true := by
    intro i b hb
    cases i with
    | par k =>
      have hb : Hp'[k]? = some b := hb
      refine .inl ⟨k, rfl, ?_, List.all_eq_true.1 hpl b (List.mem_of_getElem? hb)⟩
      show Hp[k]? = _
      rw [hpe, List.getElem?_map, hb]
      rfl
    | loc k =>
      simp only [hk] at hb
      split at hb
      · rename_i b' hb'
        cases hb
        exact .inr ⟨k, rfl, subH_lk hH hb'⟩
      · cases hb
  refine ⟨renum ρ m c, O, hs.defers, hs.n, hs.par, fun k hk' => ?_, fun t x ht => ?_, ⟨fun i b hb' => ?_, fun i b g hb' hg => ?_, fun i j bi bj g hbi hbj hgi hgj => ?_⟩, hs.F⟩
  · have : ¬ k < c := by simp only at hk'; omega
    simp [renum, this]
  · rcases subT_lk hT ht with ⟨h1, h2⟩ | ⟨h1, h2⟩
    · obtain ⟨v, e1, e2⟩ := hs.T t _ h1
      exact ⟨v, e1, rn2_vr hl hp h2 e2⟩
    · obtain ⟨v, e1, e2⟩ := hs.T t _ h1
      exact ⟨v, e1, LF.vr (ρ := ρ) (ρ' := renum ρ m c) (fun _ => rfl) h2 e2⟩
  · rcases view i b hb' with ⟨k, rfl, h1, h3⟩ | ⟨k, rfl, h1, h2, h3⟩
    · exact rnB_bok hl hp h3 (i := .par k) (i' := .par k) rfl (hs.H.ok _ _ h1)
    · exact rnB_bok hl hp h3 (hl k h1).symm (hs.H.ok _ _ h2)
  · rcases view i b hb' with ⟨k, rfl, h1, h3⟩ | ⟨k, rfl, h1, h2, h3⟩
    · exact hs.H.own (.par k) _ g h1 hg
    · rw [hl k h1] at hg
      obtain ⟨e1, e2, e3⟩ := hs.H.own (.loc (m k)) _ g h2 hg
      exact ⟨e1, e2, e3⟩
  · rcases view i bi hbi with ⟨k, rfl, h1, _⟩ | ⟨k, rfl, h1, h2, h3⟩ <;> rcases view j bj hbj with ⟨k', rfl, h1', _⟩ | ⟨k', rfl, h1', h2', h3'⟩
    · exact hs.H.inj (.par k) (.par k') _ _ g h1 h1' hgi hgj
    · rw [hl k' h1'] at hgj
      have := hs.H.inj (.par k) (.loc (m k')) _ _ g h1 h2' hgi hgj
      cases this
    · rw [hl k h1] at hgi
      have := hs.H.inj (.loc (m k)) (.par k') _ _ g h2 h1' hgi hgj
      cases this
    · rw [hl k h1] at hgi
      rw [hl k' h1'] at hgj
      have := hs.H.inj (.loc (m k)) (.loc (m k')) _ _ g h2 h2' hgi hgj
      injection this with this
      rw [hm k k' h1 h1' this]
inductive ARL (P : Program) (l : List Oper) (Q : Exit → St → Prop) (n : Nat) (T0 : List (Nat × AV)) (H0 : List (Nat × Option Blk)) (Hp : List Blk) (clk top : Nat) (D HT HH : List (List Nat)) (M : List (Nat × Nat)) : Nat → List Oper → List (Nat × Ef) → Prop
  | last {j R o} (h : AL P l Q [o] (stR n T0 H0 Hp top (fun _ => true) R)) : ARL P l Q n T0 H0 Hp clk top D HT HH M j [o] R
  | cons {j R o rest e} (hs : OSp P l (clk + j) o (pre n T0 H0 Hp top D HT HH j R) e) (hk : keyE clk M j o e = true) (ho : okE clk D j e = true)
      (h : ARL P l Q n T0 H0 Hp clk top D HT HH M (j + 1) rest ((j, e) :: R)) : ARL P l Q n T0 H0 Hp clk top D HT HH M j (o :: rest) R

theorem ARL.good (hc : ∀ j, j < l.length → chkA l D j = true) : ∀ {j : Nat} {rest : List Oper} {R : List (Nat × Ef)}, ARL P l Q n T0 H0 Hp clk top D HT HH M j rest R → l.drop j = rest → j + rest.length = l.length → Good P l n T0 H0 Hp clk top D HT HH M j R →
    ∃ N Rf o, N + 1 = l.length ∧ l[N]? = some o ∧ Good P l n T0 H0 Hp clk top D HT HH M N Rf ∧ AL P l Q [o] (stR n T0 H0 Hp top (fun _ => true) Rf) := by
  intro j rest R h
  induction h with
  | last h =>
    intro hd hlen hg
    rename_i j R o
    have hlj : l[j]? = some o := by
      have h1 := congrArg (fun x => x[0]?) hd
      simp only [List.getElem?_drop, Nat.add_zero, List.getElem?_cons_zero] at h1
      exact h1
    exact ⟨j, R, o, by simpa using hlen, hlj, hg, h⟩
  | cons hs hk ho h ih =>
    intro hd hlen hg
    rename_i j R o rest e
    simp only [List.length_cons] at hlen
    have hjl : j < l.length := by omega
    have hlj : l[j]? = some o := by
      have h1 := congrArg (fun x => x[0]?) hd
      simp only [List.getElem?_drop, Nat.add_zero, List.getElem?_cons_zero] at h1
      exact h1
    have hpre : ∀ k, k ≤ j → k < l.length → pre n T0 H0 Hp top D HT HH k ((j, e) :: R) = pre n T0 H0 Hp top D HT HH k R := by
      intro k hk' hkl
      have : mD D k j = false := by
        cases hm : mD D k j with
        | false => rfl
        | true => have := mD_lt hc hkl hm; omega
      simp only [pre, sel, this, cond_false, List.nil_append]
    refine ih ?_ (by omega) ⟨fun k e' he => ?_, fun k e' he => ?_, fun k hk' => ?_, ?_, ?_⟩
    · rw [← List.drop_drop, hd]
      rfl
    · rcases List.mem_cons.1 he with he | he
      · cases he
        exact ⟨o, hlj, by rw [hpre j (Nat.le_refl _) hjl]; exact hs, hk, ho⟩
      · obtain ⟨o', h1, h2, h3, h4⟩ := hg.all k e' he
        have := hg.lt k e' he
        exact ⟨o', h1, by rw [hpre k (by omega) (by omega)]; exact h2, h3, h4⟩
    · rcases List.mem_cons.1 he with he | he
      · cases he; omega
      · have := hg.lt k e' he; omega
    · by_cases hkj : k = j
      · subst hkj; exact ⟨e, List.mem_cons_self⟩
      · obtain ⟨e', he'⟩ := hg.has k (by omega)
        exact ⟨e', List.mem_cons_of_mem _ he'⟩
    · simp only [List.map_cons, List.nodup_cons]
      refine ⟨fun hm => ?_, hg.nodup⟩
      obtain ⟨⟨k, e'⟩, h1, h2⟩ := List.mem_map.1 hm
      simp only at h2
      subst h2
      have := hg.lt k e' h1
      omega
    · simp only [List.map_cons, List.pairwise_cons]
      refine ⟨fun k hm => ?_, hg.pw⟩
      obtain ⟨⟨k', e'⟩, h1, h2⟩ := List.mem_map.1 hm
      simp only at h2
      subst h2
      exact hg.lt k' e' h1

theorem all_done {listed : Array Bool} (hall : ∀ j, j < l.length → lst listed j = true) (hsz : listed.size = l.length) : Region.ready .any l.toArray listed = [] := by
  refine List.eq_nil_iff_forall_not_mem.2 fun i hi => ?_
  obtain ⟨h1, h2, _⟩ := dirs_ready hi
  rw [hall i (by omega)] at h1
  cases h1
theorem any_goL (hc : Chk l clk D HT HH M) (hb : base clk T0 H0 = true) (hp : ∀ b ∈ Hp, LFB b ∨ idB (fun k => Nat.blt k clk) b = true) {N : Nat} {o : Oper} (hN : N + 1 = l.length) (hoN : l[N]? = some o) (hall : ∀ k, k < N → mD D N k = true) {R : List (Nat × Ef)} (hR : Good P l n T0 H0 Hp clk (clk + l.length) D HT HH M N R)
    (hQ : AL P l Q [o] (stR n T0 H0 Hp (clk + l.length) (fun _ => true) R)) (c : Ctx) :
    ∀ (fuel : Nat) (listed : Array Bool), listed.size = l.length → Down l (lst listed) → listed.toList.count false ≤ fuel → lst listed N = false → ∀ a w, Sat c (stR n T0 H0 Hp (clk + l.length) (lst listed) R) a w → wpAny P .any l.toArray (post c Q) fuel listed a w := by
  have hNl : N ≤ l.length := by omega
  have hNf : ∀ listed : Array Bool, listed.size = l.length → lst listed N = false → listed.toList[N]? = some false := by
    intro listed hsz hl
    have hlt : N < listed.size := by omega
    unfold lst at hl
    rw [Array.getD_eq_getD_getElem?, Array.getElem?_eq_getElem hlt] at hl
    simp at hl
    simp [hlt, hl]
  intro fuel
  induction fuel with
  | zero =>
    intro listed hsz hd hcnt hlN a w hs
    exfalso
    have := List.count_pos_iff.2 (List.mem_of_getElem? (hNf listed hsz hlN))
    omega
  | succ fuel ih =>
    intro listed hsz hd hcnt hlN a w hs
    refine ⟨fun hr => ?_, fun i hi => ?_⟩
    · have := all_listed hc hsz hr N (by omega)
      rw [hlN] at this
      cases this
    obtain ⟨h1, h2, oi, ho, h3⟩ := dirs_ready hi
    have hil : i < l.length := by omega
    have hset : ∀ k, k ≠ i → lst (listed.setIfInBounds i true) k = lst listed k := fun k hk => by
      unfold lst
      rw [Array.getD_eq_getD_getElem?, Array.getD_eq_getD_getElem?, Array.getElem?_setIfInBounds_ne (Ne.symm hk)]
    have hseti : lst (listed.setIfInBounds i true) i = true := by
      unfold lst
      rw [Array.getD_eq_getD_getElem?, Array.getElem?_setIfInBounds]
      simp [h2]
    by_cases hiN : i = N
    · subst hiN
      rw [hoN] at ho
      cases ho
      have hdone : ∀ k, k < i → lst listed k = true := fun k hk => down_mD hc hd i o hoN h3 k (hall k hk)
      have hs2 : Sat c (stR n T0 H0 Hp (clk + l.length) (fun _ => true) R) a w := by
        have e1 : sel (lst listed) slL R T0 = sel (fun _ => true) slL R T0 := sel_congr fun k e he => hdone k (hR.lt k e he)
        have e2 : sel (lst listed) Ef.bl R H0 = sel (fun _ => true) Ef.bl R H0 := sel_congr fun k e he => hdone k (hR.lt k e he)
        unfold stR at hs ⊢
        rw [← e1, ← e2]
        exact hs
      have hfull : ∀ j, j < l.length → lst (listed.setIfInBounds i true) j = true := fun j hj => by
        by_cases e : j = i
        · subst e; exact hseti
        · rw [hset j e]; exact hdone j (by omega)
      have hend : ∀ a' w', post c Q .normal a' w' → wpAny P .any l.toArray (post c Q) fuel (listed.setIfInBounds i true) a' w' := by
        intro a' w' hq
        have hr := all_done hfull (by simpa using hsz)
        cases fuel with
        | zero => exact ⟨hr, hq⟩
        | succ f => exact ⟨fun _ => hq, fun k hk => by rw [hr] at hk; cases hk⟩
      have hl := hQ c a w hs2
      unfold wpOp
      rw [List.getElem?_toArray, hoN]
      simp only [wpList] at hl
      split at hl
      · rename_i hw
        simp only [hw, if_true]
        rcases hl with hl | hl
        · exact .inl (wp_both hend (fun e a' w' _ h => h) hl)
        · exact .inr hl
      · rename_i hw
        simp only [hw]
        exact hend _ _ hl
    · obtain ⟨e, he⟩ := hR.has i (by omega)
      obtain ⟨o', ho', hsp, _, _⟩ := hR.all i e he
      rw [ho] at ho'
      cases ho'
      have hle := pre_le (HT := HT) (HH := HH) hc hb hNl hR hd hil h1 (down_mD hc hd i oi ho h3)
      have hfit := fit_st hc rfl hb hp hNl hR hd hil h1
      have hal := hsp _ hle hfit
      refine AOp.sound (AOp.some ho hal) hs _ (fun σ' a' w' hK hs' => ?_)
      refine ih _ (by simp [hsz]) (fun k ok hok hk d hdd => ?_) ?_ (by rw [hset N (fun e => hiN e.symm)]; exact hlN) a' w' (push_imp hc hNl hR hd hil h1 hseti hset he c a' w' (hK c a' w' hs'))
      · by_cases hdi : d = i
        · rw [hdi]; exact hseti
        · rw [hset d hdi]
          by_cases hki : k = i
          · subst hki
            rw [ho] at hok
            cases hok
            exact h3 d hdd
          · rw [hset k hki] at hk
            exact hd k ok hok hk d hdd
      · have hf : listed.toList[i]? = some false := by
          unfold lst at h1
          rw [Array.getD_eq_getD_getElem?, Array.getElem?_eq_getElem h2] at h1
          simp at h1
          simp [h2, h1]
        have := count_set hf
        rw [Array.toList_setIfInBounds]
        omega

theorem AW.anyL {id : Nat} (hm : P.follows .mixedOrders = true) (D HT HH : List (List Nat)) (M : List (Nat × Nat)) (c0 top : Nat) (h0 : clk = c0) (ht : c0 + l.length = top) (hc : chk l c0 D HT HH M = true) (hl : (List.range (l.length - 1)).all (mD D (l.length - 1)) = true) (hb : base c0 T0 H0 = true) (hp : ∀ b ∈ Hp, LFB b ∨ idB (fun k => Nat.blt k c0) b = true)
    (h : ARL P l Q n T0 H0 Hp c0 top D HT HH M 0 l []) : AW P (.region id l.toArray true) Q ⟨n, T0, H0, Hp, clk⟩ := by
  subst h0; subst ht
  have hc := chk_spec hc
  have hg0 : Good P l n T0 H0 Hp clk (clk + l.length) D HT HH M 0 [] := ⟨(fun k e he => by cases he), (fun k e he => by cases he), (fun k hk => by omega), List.nodup_nil, List.Pairwise.nil⟩
  obtain ⟨N, R, o, hN, hoN, hR, hQ⟩ := ARL.good hc.a h (by simp) (by simp) hg0
  have hNe : l.length - 1 = N := by omega
  rw [hNe] at hl
  rintro c a w ⟨ρ, O, hs⟩
  refine wp_region_any hm ?_
  have hempty : ∀ k, lst (Array.replicate l.length false) k = false := fun k => by
    unfold lst
    rw [Array.getD_eq_getD_getElem?, Array.getElem?_replicate]
    split <;> rfl
  have e1 : sel (lst (Array.replicate l.length false)) slL R T0 = T0 := by
    rw [sel_congr (S' := fun _ => false) (fun k e _ => hempty k)]
    clear hR hQ
    induction R with
    | nil => rfl
    | cons p R ih => obtain ⟨k, e⟩ := p; simpa [sel] using ih
  have e2 : sel (lst (Array.replicate l.length false)) Ef.bl R H0 = H0 := by
    rw [sel_congr (S' := fun _ => false) (fun k e _ => hempty k)]
    clear hR hQ e1
    induction R with
    | nil => rfl
    | cons p R ih => obtain ⟨k, e⟩ := p; simpa [sel] using ih
  have hs' : SatAt c ⟨n, T0, H0, Hp, clk + l.length⟩ a w ρ O := ⟨hs.defers, hs.n, hs.par, fun k hk => hs.fresh k (by simp only at hk ⊢; omega), hs.T, ⟨fun i b hb => hs.H.ok i b (by cases i <;> exact hb), fun i b g hb => hs.H.own i b g (by cases i <;> exact hb), fun i j bi bj g hi hj => hs.H.inj i j bi bj g (by cases i <;> exact hi) (by cases j <;> exact hj)⟩, hs.F⟩
  have := any_goL hc hb hp hN hoN (fun k hk => List.all_eq_true.1 hl k (by simpa using hk)) hR hQ c l.length (Array.replicate l.length false) (by simp) (fun k o ho hk => by rw [hempty] at hk; cases hk) (by simp) (hempty N) a { w with drawn := w.drawn + 1 } (by
    unfold stR
    rw [e1, e2]
    exact ⟨ρ, O, sat_below hs' ⟨rfl, rfl, rfl, Nat.le_refl _, fun _ _ => rfl⟩⟩)
  simpa using this

variable {j : Nat} {o : Oper} {rest : List Oper} {R : List (Nat × Ef)}
theorem ARL.step {Tm : List (Nat × AV)} {Hm : List (Nat × Option Blk)} (hT : selK (mD D j) slL (HT.getD j []) R T0 some = some Tm) (hH : selK (mD D j) Ef.bl (HH.getD j []) R H0 some = some Hm) {e : Ef} (hs : OSp P l (clk + j) o ⟨n, Tm, Hm, Hp, top⟩ e)
    (hk : keyE clk M j o e = true) (ho : okE clk D j e = true) (h : ARL P l Q n T0 H0 Hp clk top D HT HH M (j + 1) rest ((j, e) :: R)) : ARL P l Q n T0 H0 Hp clk top D HT HH M j (o :: rest) R := by
  refine .cons (e := e) ?_ hk ho h
  have h1 := selK_spec hT
  have h2 := selK_spec hH
  cases h1; cases h2
  exact hs
theorem ARL.done {Tf : List (Nat × AV)} {Hf : List (Nat × Option Blk)} (hT : selK (fun _ => true) slL [] R T0 some = some Tf) (hH : selK (fun _ => true) Ef.bl [] R H0 some = some Hf) (h : AL P l Q [o] ⟨n, Tf, Hf, Hp, top⟩) : ARL P l Q n T0 H0 Hp clk top D HT HH M j [o] R := by
  refine .last ?_
  have h1 := selK_spec hT
  have h2 := selK_spec hH
  cases h1; cases h2
  unfold stR
  rw [fil_nil, fil_nil] at h
  exact h
end
end Go.AM
