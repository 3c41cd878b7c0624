/- A machine over pure data: part 28: regions that draw their order: soundness. -/
import Derived.Test.YtpohebmofcdeiaaAM27
set_option linter.unusedVariables false
namespace Go.AM
open Go Go.RowKit

section
variable {P : Program} {l : List Oper} {Q : Exit → St → Prop} {n clk top : Nat} {T0 : List (Nat × AV)} {H0 : List (Nat × Option Blk)} {Hp : List Blk} {D HT HH : List (List Nat)} {M : List (Nat × Nat)}

structure Chk (l : List Oper) (clk : Nat) (D HT HH : List (List Nat)) (M : List (Nat × Nat)) : Prop where
  a : ∀ j, j < l.length → chkA l D j = true
  d : ∀ j m k, j < l.length → mD D j m = true → mD D m k = true → mD D j k = true
  t : ∀ j k, j < l.length → k < l.length → chkT l D HT j k = true
  m : ∀ j p, j < l.length → p ∈ M → p.1 < l.length ∧ chkM clk D HH M j p = true
theorem chk_spec (h : chk l clk D HT HH M = true) : Chk l clk D HT HH M := by
  unfold chk at h
  simp only [List.all_eq_true, List.mem_range, Bool.and_eq_true] at h
  refine ⟨fun j hj => (h j hj).1.1.1, fun j m k hj hm hk => ?_, fun j k hj hk => (h j hj).1.2 k hk, fun j p hj hp => ?_⟩
  · have := (h j hj).1.1.2
    unfold chkD at this
    simp only [List.all_eq_true] at this
    exact this m (hasN_iff.1 hm) k (hasN_iff.1 hk)
  · have := (h j hj).2 p hp
    exact ⟨by simpa using this.1, this.2⟩

/-- What has been done is whole: whatever one leans on has been done, too. -/
def Down (l : List Oper) (S : Nat → Bool) : Prop := ∀ k o, l[k]? = some o → S k = true → ∀ d ∈ dirs o, S d = true
theorem down_mD (hc : Chk l clk D HT HH M) {S : Nat → Bool} (hS : Down l S) : ∀ (j : Nat), ∀ o, l[j]? = some o → (∀ d ∈ dirs o, S d = true) → ∀ k, mD D j k = true → S k = true := by
  intro j
  induction j using Nat.strongRecOn with
  | ind j ih =>
    intro o ho hd k hk
    have hj : j < l.length := (List.getElem?_eq_some_iff.1 ho).1
    have h2 := hc.a j hj
    unfold chkA at h2
    rw [ho] at h2
    simp only [Bool.and_eq_true, List.all_eq_true] at h2
    have h3 := h2.2 k (hasN_iff.1 hk)
    simp only [Bool.or_eq_true, List.any_eq_true] at h3
    rcases h3 with h3 | ⟨m, h4, h5⟩
    · exact hd k (hasN_iff.1 h3)
    · have hm : m < j := by simpa using h2.1 m h4
      have hSm := hd m h4
      obtain ⟨om, hom⟩ : ∃ om, l[m]? = some om := ⟨_, List.getElem?_eq_getElem (by omega)⟩
      exact ih m hm om hom (fun d hd' => hS m om hom hSm d hd') k h5
theorem down_done (hc : Chk l clk D HT HH M) {S : Nat → Bool} (hS : Down l S) {j : Nat} (hj : j < l.length) (hSj : S j = true) {k : Nat} (hk : mD D j k = true) : S k = true := by
  obtain ⟨o, ho⟩ : ∃ o, l[j]? = some o := ⟨_, List.getElem?_eq_getElem hj⟩
  exact down_mD hc hS j o ho (fun d hd => hS j o ho hSj d hd) k hk

theorem key_sl {k : Nat} {o : Oper} {e : Ef} (h : keyE clk M k o e = true) (ho : l[k]? = some o) {t : Nat} {x : AV} (hx : lk (slL e) t = some x) : dstOf l k = some t ∧ e.sl = some (t, x) := by
  unfold keyE at h
  simp only [Bool.and_eq_true] at h
  cases hs : e.sl with
  | none => simp [slL, hs, lk] at hx
  | some p =>
    obtain ⟨d, v⟩ := p
    rw [hs] at h
    simp only [slL, hs, Option.toList_some] at hx
    rcases lk_shadow hx with ⟨rfl, rfl⟩ | ⟨_, hx⟩
    · simp only at h
      cases hd : o.dst with
      | none => simp [hd] at h
      | some d' =>
        simp only [hd] at h
        have := Nat.eq_of_beq_eq_true h.1
        subst this
        exact ⟨by simp [dstOf, ho, hd], rfl⟩
    · simp [lk] at hx
theorem key_bl {k : Nat} {o : Oper} {e : Ef} (h : keyE clk M k o e = true) {t : Nat} {x : Option Blk} (hx : lk e.bl t = some x) : t = clk + k ∨ (k, t) ∈ M := by
  unfold keyE at h
  simp only [Bool.and_eq_true, List.all_eq_true] at h
  have := h.2 _ (lk_mem' hx)
  simp only [Bool.or_eq_true] at this
  rcases this with h | h
  · exact .inl (Nat.eq_of_beq_eq_true h)
  · exact .inr (hasP_iff.1 h)

theorem some_ne_none {α : Type} {o : Option α} (h : o ≠ none) : ∃ x, o = some x := by
  cases o with
  | none => exact absurd rfl h
  | some x => exact ⟨x, rfl⟩

theorem base_H (hb : base clk T0 H0 = true) {k : Nat} {b : Blk} (h : lk H0 k = some (some b)) : k < clk ∧ idB (fun k => Nat.blt k clk) b = true := by
  unfold base at hb
  simp only [Bool.and_eq_true, List.all_eq_true] at hb
  have := hb.2 _ (lk_mem' h)
  simp only [Bool.and_eq_true] at this
  exact ⟨by simpa using this.1, this.2⟩
theorem base_T (hb : base clk T0 H0 = true) {t : Nat} {x : AV} (h : lk T0 t = some x) : id2 (fun k => Nat.blt k clk) x = true := by
  unfold base at hb
  simp only [Bool.and_eq_true, List.all_eq_true] at hb
  exact hb.1 _ (lk_mem' h)

theorem pre_le (hc : Chk l clk D HT HH M) (hb : base clk T0 H0 = true) {R : List (Nat × Ef)} (hR : Good P l n T0 H0 Hp clk top D HT HH M l.length R) {S : Nat → Bool} (hS : Down l S) {j : Nat} (hj : j < l.length) (hSj : S j = false)
    (hD : ∀ k, mD D j k = true → S k = true) : Le (pre n T0 H0 Hp top D HT HH j R) (stR n T0 H0 Hp top S R) := by
  refine ⟨rfl, rfl, rfl, fun t x ht => ?_, fun t b ht => ?_⟩
  · obtain ⟨h1, h2⟩ := lk_fil ht
    simp only [stR]
    rw [← h2]
    refine sel_same fun k e he hne => ?_
    obtain ⟨o, ho, _, hk, _⟩ := hR.all k e he
    have hkl := hR.lt k e he
    refine Classical.byContradiction fun hn => ?_
    obtain ⟨y, hy⟩ := some_ne_none hn
    obtain ⟨hd, _⟩ := key_sl hk ho hy
    have hSk : S k = true ∧ mD D j k = false := by
      cases hm : mD D j k with
      | true => rw [hD k hm, hm] at hne; exact absurd rfl hne
      | false => cases hs : S k with
        | true => exact ⟨rfl, rfl⟩
        | false => rw [hs, hm] at hne; exact absurd rfl hne
    have hkj : k ≠ j := fun e => by subst e; rw [hSk.1] at hSj; cases hSj
    have hch := hc.t j k hj hkl
    unfold chkT at hch
    rw [hd] at hch
    simp only [Bool.or_eq_true, Bool.and_eq_true] at hch
    rcases hch with h | ⟨h, _⟩
    · exact hkj (Nat.eq_of_beq_eq_true h).symm
    · rcases h with (h | h) | h
      · rw [h] at hSk; exact absurd hSk.2 (by simp)
      · have := down_done hc hS hkl hSk.1 h
        rw [this] at hSj; cases hSj
      · exact h1 (hasN_iff.1 h)
  · obtain ⟨h1, h2⟩ := lk_fil ht
    simp only [stR]
    rw [← h2]
    refine sel_same fun k e he hne => ?_
    obtain ⟨o, ho, _, hk, _⟩ := hR.all k e he
    have hkl := hR.lt k e he
    refine Classical.byContradiction fun hn => ?_
    obtain ⟨y, hy⟩ := some_ne_none hn
    have hSk : S k = true ∧ mD D j k = false := by
      cases hm : mD D j k with
      | true => rw [hD k hm, hm] at hne; exact absurd rfl hne
      | false => cases hs : S k with
        | true => exact ⟨rfl, rfl⟩
        | false => rw [hs, hm] at hne; exact absurd rfl hne
    have hkj : k ≠ j := fun e => by subst e; rw [hSk.1] at hSj; cases hSj
    rcases key_bl hk hy with rfl | hM
    · -- a new block of an operation that this one doesn't wait for
      rcases sel_mem h2 with ⟨m, em, g1, g2, g3⟩ | h0
      · obtain ⟨om, hom, _, hkm, _⟩ := hR.all m em g1
        rcases key_bl hkm g3 with h | h
        · have : m = k := by omega
          subst this
          rw [hSk.2] at g2; cases g2
        · have hml := hR.lt m em g1
          have hch := (hc.m j _ hj h).2
          unfold chkM at hch
          simp only [Bool.and_eq_true, Bool.or_eq_true] at hch
          have := hch.1.2
          rcases this with h3 | h3
          · have : clk + k < clk := by simpa using h3
            omega
          · rw [show clk + k - clk = k by omega] at h3
            have := hc.d j m k hj g2 h3
            rw [hSk.2] at this; cases this
      · have := (base_H hb h0).1
        omega
    · have hch := (hc.m j _ hj hM).2
      unfold chkM at hch
      simp only [Bool.and_eq_true, Bool.or_eq_true] at hch
      rcases hch.1.1 with ((h | h) | h) | h
      · exact hkj (Nat.eq_of_beq_eq_true h).symm
      · rw [h] at hSk; exact absurd hSk.2 (by simp)
      · have := down_done hc hS hkl hSk.1 h
        rw [this] at hSj; cases hSj
      · exact h1 (hasN_iff.1 h)

theorem okP_spec (hc : Chk l clk D HT HH M) (htop : top = clk + l.length) {S : Nat → Bool} (hS : Down l S) {i k : Nat} (hSi : S i = false) (hk : k < l.length) (hSk : S k = true) {k' : Nat} (h : okP clk D k k' = true) : k' ≠ clk + i ∧ k' < top := by
  unfold okP at h
  simp only [Bool.or_eq_true, Bool.and_eq_true] at h
  rcases h with h | ⟨h0, h⟩
  · have : k' < clk := by simpa using h
    omega
  · have h0 : clk ≤ k' := by simpa using h0
    rcases h with h | h
    · have := Nat.eq_of_beq_eq_true h
      refine ⟨fun e => ?_, by omega⟩
      have : k = i := by omega
      subst this
      rw [hSk] at hSi; cases hSi
    · have h1 := down_done hc hS hk hSk h
      have h2 := mD_lt hc.a hk h
      refine ⟨fun e => ?_, by omega⟩
      have : k' - clk = i := by omega
      rw [this] at h1
      rw [h1] at hSi; cases hSi

theorem fit_st (hc : Chk l clk D HT HH M) (htop : top = clk + l.length) (hb : base clk T0 H0 = true) (hp : ∀ b ∈ Hp, LFB b) {R : List (Nat × Ef)} (hR : Good P l n T0 H0 Hp clk top D HT HH M l.length R) {S : Nat → Bool} (hS : Down l S) {i : Nat} (hi : i < l.length) (hSi : S i = false) :
    Fit (clk + i) (stR n T0 H0 Hp top S R) := by
  have h0 : ∀ k', (fun k => Nat.blt k clk) k' = true → k' ≠ clk + i ∧ k' < top := fun k' h => by
    have : k' < clk := by simpa using h
    omega
  refine ⟨by simp only [stR]; omega, fun t x ht => ?_, fun t b ht => ?_, hp⟩
  · rcases sel_mem ht with ⟨k, e, h1, h2, h3⟩ | h
    · obtain ⟨o, ho, _, hk, hok⟩ := hR.all k e h1
      have hkl := hR.lt k e h1
      obtain ⟨_, hs⟩ := key_sl hk ho h3
      unfold okE at hok
      rw [hs] at hok
      simp only [Bool.and_eq_true] at hok
      exact ⟨okP clk D k, fun k' h => okP_spec hc htop hS hSi hkl h2 h, hok.1⟩
    · exact ⟨_, h0, base_T hb h⟩
  · rcases sel_mem ht with ⟨k, e, h1, h2, h3⟩ | h
    · obtain ⟨o, ho, _, hk, hok⟩ := hR.all k e h1
      have hkl := hR.lt k e h1
      have hkey : t ≠ clk + i ∧ t < top := by
        rcases key_bl hk h3 with rfl | hM
        · refine ⟨fun e => ?_, by omega⟩
          have : k = i := by omega
          subst this
          rw [h2] at hSi; cases hSi
        · have hch := (hc.m k _ hkl hM).2
          unfold chkM at hch
          simp only [Bool.and_eq_true, Bool.or_eq_true] at hch
          rcases hch.1.2 with h | h
          · have : t < clk := by simpa using h
            omega
          · by_cases ht : t < clk
            · omega
            · have g1 := down_done hc hS hkl h2 h
              have g2 := mD_lt hc.a hkl h
              refine ⟨fun e => ?_, by omega⟩
              have : t - clk = i := by omega
              rw [this] at g1
              rw [g1] at hSi; cases hSi
      refine ⟨hkey, okP clk D k, fun k' h => okP_spec hc htop hS hSi hkl h2 h, ?_⟩
      unfold okE at hok
      simp only [Bool.and_eq_true, List.all_eq_true] at hok
      exact hok.2 _ (lk_mem' h3)
    · obtain ⟨g1, g2⟩ := base_H hb h
      exact ⟨by simp only [stR]; omega, _, h0, g2⟩

theorem push_imp (hc : Chk l clk D HT HH M) {R : List (Nat × Ef)} (hR : Good P l n T0 H0 Hp clk top D HT HH M l.length R) {S S' : Nat → Bool} (hS : Down l S) {i : Nat} (hi : i < l.length) (hSi : S i = false) (hSi' : S' i = true) (hSS : ∀ k, k ≠ i → S' k = S k) {e : Ef} (he : (i, e) ∈ R) :
    Imp (push e (stR n T0 H0 Hp top S R)) (stR n T0 H0 Hp top S' R) := by
  obtain ⟨o, ho, _, hke, _⟩ := hR.all i e he
  refine Le.imp ⟨rfl, rfl, rfl, fun t x ht => ?_, fun t b ht => ?_⟩
  · simp only [stR, push] at ht ⊢
    rw [← ht]
    refine (sel_one (g := slL) (acc := T0) (t := t) (ej := e) hSi hSi' hSS hR.nodup he (fun k e' he' hlt hSk => ?_) hR.pw).symm
    refine Classical.byContradiction fun hn => ?_
    rw [not_or] at hn
    obtain ⟨y, hy⟩ := some_ne_none hn.1
    obtain ⟨z, hz⟩ := some_ne_none hn.2
    obtain ⟨ok, hok, _, hkk, _⟩ := hR.all k e' he'
    have hkl := hR.lt k e' he'
    obtain ⟨d1, _⟩ := key_sl hkk hok hy
    obtain ⟨d2, _⟩ := key_sl hke ho hz
    have hch := hc.t k i hkl hi
    unfold chkT at hch
    rw [d2] at hch
    simp only [d1, Bool.or_eq_true, Bool.and_eq_true] at hch
    have hch2 := hc.t i k hi hkl
    unfold chkT at hch2
    rw [d1] at hch2
    simp only [d2, Bool.or_eq_true, Bool.and_eq_true, Bool.not_eq_true'] at hch2
    rcases hch2 with h | ⟨_, h⟩
    · have := Nat.eq_of_beq_eq_true h; omega
    · rcases h with (h | h) | h
      · simp at h
      · have : Nat.blt i k = true := by simpa using hlt
        rw [this] at h; cases h
      · have h3 := down_done hc hS hkl hSk h
        rw [h3] at hSi; cases hSi
  · simp only [stR, push] at ht ⊢
    rw [← ht]
    refine (sel_one (g := Ef.bl) (acc := H0) (t := t) (ej := e) hSi hSi' hSS hR.nodup he (fun k e' he' hlt hSk => ?_) hR.pw).symm
    refine Classical.byContradiction fun hn => ?_
    rw [not_or] at hn
    obtain ⟨y, hy⟩ := some_ne_none hn.1
    obtain ⟨z, hz⟩ := some_ne_none hn.2
    obtain ⟨ok, hok, _, hkk, _⟩ := hR.all k e' he'
    have hkl := hR.lt k e' he'
    rcases key_bl hkk hy with h1 | h1 <;> rcases key_bl hke hz with h2 | h2
    · omega
    · subst h1
      have hch := (hc.m i _ hi h2).2
      unfold chkM at hch
      simp only [Bool.and_eq_true, Bool.or_eq_true] at hch
      rcases hch.1.2 with h | h
      · have : clk + k < clk := by simpa using h
        omega
      · rw [show clk + k - clk = k by omega] at h
        have := mD_lt hc.a hi h
        omega
    · subst h2
      have hch := (hc.m k _ hkl h1).2
      unfold chkM at hch
      simp only [Bool.and_eq_true, Bool.or_eq_true] at hch
      rcases hch.1.2 with h | h
      · have : clk + i < clk := by simpa using h
        omega
      · rw [show clk + i - clk = i by omega] at h
        have := down_done hc hS hkl hSk h
        rw [this] at hSi; cases hSi
    · have hch := (hc.m i _ hi h1).2
      unfold chkM at hch
      simp only [Bool.and_eq_true, Bool.or_eq_true, Bool.not_eq_true'] at hch
      rcases hch.2 with (h | h) | h
      · have : hasP M i t = true := hasP_iff.2 h2
        rw [this] at h; cases h
      · have : Nat.blt i k = true := by simpa using hlt
        rw [this] at h; cases h
      · have := down_done hc hS hkl hSk h
        rw [this] at hSi; cases hSi
end
end Go.AM
