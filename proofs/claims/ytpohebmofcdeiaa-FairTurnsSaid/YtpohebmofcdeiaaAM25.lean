/- A machine over pure data: part 25: regions that draw their order: the rule. -/
import Derived.Test.YtpohebmofcdeiaaAM24
set_option linter.unusedVariables false
namespace Go.AM
open Go Go.RowKit

/-! ### what may be forgotten, and renumbered -/
theorem Imp.weakF (m : Nat → Nat) {n c clk : Nat} {T T' : List (Nat × AV)} {H H' : List (Nat × Option Blk)} {Hp : List Blk} (hm : ∀ j k, j < c → k < c → m j = m k → j = k) (hb : ∀ b ∈ Hp, LFB b)
    (hT : ∀ t x, lk T' t = some x → (lk T t = some (rn2 m x) ∧ lt2 c x = true) ∨ (lk T t = some x ∧ LF x))
    (hH : ∀ k b, lk H' k = some (some b) → k < c ∧ hk ⟨n, T, H, Hp, clk⟩ (.loc (m k)) = some (rnB m b) ∧ ltB c b = true) : Imp ⟨n, T, H, Hp, clk⟩ ⟨n, T', H', Hp, c⟩ := by
  rintro cx a w ⟨ρ, O, hs⟩
  have hl : ∀ k, k < c → renum ρ m c (.loc k) = ρ (.loc (m k)) := fun k hk => by simp [renum, hk]
  have hp : ∀ k, renum ρ m c (.par k) = ρ (.par k) := fun _ => rfl
  have view : ∀ i b, hk ⟨n, T', H', Hp, c⟩ i = some b → (∃ k, i = .par k ∧ hk ⟨n, T, H, Hp, clk⟩ i = some b) ∨ ∃ k, i = .loc k ∧ k < c ∧ hk ⟨n, T, H, Hp, clk⟩ (.loc (m k)) = some (rnB m b) ∧ ltB c b = true := by
    intro i b hb
    cases i with
    | par k => exact .inl ⟨k, rfl, hb⟩
    | loc k =>
      simp only [hk] at hb
      split at hb
      · rename_i b' hb'
        cases hb
        exact .inr ⟨k, rfl, hH k b hb'⟩
      · cases hb
  refine ⟨renum ρ m c, O, hs.defers, hs.n, hs.par, fun k hk' => ?_, fun t x ht => ?_, ⟨fun i b hb' => ?_, fun i b g hb' hg => ?_, fun i j bi bj g hbi hbj hgi hgj => ?_⟩, hs.F⟩
  · have : ¬ k < c := by simp only at hk'; omega
    simp [renum, this]
  · rcases hT t x ht with ⟨h1, h2⟩ | ⟨h1, h2⟩
    · obtain ⟨v, e1, e2⟩ := hs.T t _ h1
      exact ⟨v, e1, rn2_vr hl hp h2 e2⟩
    · obtain ⟨v, e1, e2⟩ := hs.T t _ h1
      exact ⟨v, e1, LF.vr (ρ := ρ) (ρ' := renum ρ m c) (fun _ => rfl) h2 e2⟩
  · rcases view i b hb' with ⟨k, rfl, h1⟩ | ⟨k, rfl, h1, h2, h3⟩
    · exact LFB.bok (ρ := ρ) (ρ' := renum ρ m c) (fun _ => rfl) (i := .par k) (i' := .par k) rfl (hb b (List.mem_of_getElem? h1)) (hs.H.ok (.par k) b h1)
    · exact rnB_bok hl hp h3 (hl k h1).symm (hs.H.ok _ _ h2)
  · rcases view i b hb' with ⟨k, rfl, h1⟩ | ⟨k, rfl, h1, h2, h3⟩
    · exact hs.H.own (.par k) b g h1 hg
    · rw [hl k h1] at hg
      obtain ⟨e1, e2, e3⟩ := hs.H.own (.loc (m k)) _ g h2 hg
      exact ⟨e1, e2, e3⟩
  · rcases view i bi hbi with ⟨k, rfl, h1⟩ | ⟨k, rfl, h1, h2, h3⟩ <;> rcases view j bj hbj with ⟨k', rfl, h1'⟩ | ⟨k', rfl, h1', h2', h3'⟩
    · exact hs.H.inj (.par k) (.par k') bi bj g h1 h1' hgi hgj
    · rw [hl k' h1'] at hgj
      have := hs.H.inj (.par k) (.loc (m k')) _ _ g h1 h2' hgi hgj
      cases this
    · rw [hl k h1] at hgi
      have := hs.H.inj (.loc (m k)) (.par k') _ _ g h2 h1' hgi hgj
      cases this
    · rw [hl k h1] at hgi
      rw [hl k' h1'] at hgj
      have := hs.H.inj (.loc (m k)) (.loc (m k')) _ _ g h2 h2' hgi hgj
      injection this with this
      rw [hm k k' h1 h1' this]

/-- Every block of the call's own that is named fulfils p. -/
def idI (p : Nat → Bool) : Id → Bool
  | .loc k => p k
  | .par _ => true
def id1 (p : Nat → Bool) : AV → Bool
  | .ptr i _ => idI p i
  | .own i => idI p i
  | .rptr i _ _ _ => idI p i
  | .sub i _ _ _ _ => idI p i
  | .d _ => true
  | .nilrow => true
  | .eptr _ => true
  | _ => false
def id2 (p : Nat → Bool) : AV → Bool
  | .agg xs => xs.all (id1 p)
  | .tup xs => xs.all (id1 p)
  | .fn _ xs => xs.all (id1 p)
  | x => id1 p x
def idB (p : Nat → Bool) : Blk → Bool
  | .box _ cells => cells.all (id1 p)
  | _ => true
/-- The block q told by the number top. -/
def sw (q top k : Nat) : Nat := if k = q then top else k

section
variable {p : Nat → Bool} {q top : Nat}
theorem sw_inj (j k : Nat) (hj : j < top) (hk : k < top) (h : sw q top j = sw q top k) : j = k := by
  unfold sw at h
  split at h <;> split at h <;> omega
theorem id1_sw (hp : ∀ k, p k = true → k ≠ q ∧ k < top) {x : AV} (h : id1 p x = true) : rn1 (sw q top) x = x ∧ lt1 top x = true := by
  have hI : ∀ i, idI p i = true → rnI (sw q top) i = i ∧ ltI top i = true := fun i hi => by
    cases i with
    | par k => exact ⟨rfl, rfl⟩
    | loc k =>
      obtain ⟨h1, h2⟩ := hp k hi
      exact ⟨by simp [rnI, sw, h1], by simpa [ltI] using h2⟩
  cases x with
  | ptr i off => obtain ⟨h1, h2⟩ := hI i h; exact ⟨by simp [rn1, h1], h2⟩
  | own i => obtain ⟨h1, h2⟩ := hI i h; exact ⟨by simp [rn1, h1], h2⟩
  | rptr i sz j f => obtain ⟨h1, h2⟩ := hI i h; exact ⟨by simp [rn1, h1], h2⟩
  | sub i sz lo n full => obtain ⟨h1, h2⟩ := hI i h; exact ⟨by simp [rn1, h1], h2⟩
  | d y => exact ⟨rfl, rfl⟩
  | nilrow => exact ⟨rfl, rfl⟩
  | eptr r => exact ⟨rfl, rfl⟩
  | _ => simp [id1] at h
theorem idL_sw (hp : ∀ k, p k = true → k ≠ q ∧ k < top) {xs : List AV} (h : xs.all (id1 p) = true) : xs.map (rn1 (sw q top)) = xs ∧ xs.all (lt1 top) = true := by
  have h1 : ∀ x ∈ xs, rn1 (sw q top) x = x ∧ lt1 top x = true := fun x hx => id1_sw hp (List.all_eq_true.1 h x hx)
  refine ⟨?_, List.all_eq_true.2 fun x hx => (h1 x hx).2⟩
  rw [List.map_congr_left (fun x hx => (h1 x hx).1)]
  simp
theorem id2_sw (hp : ∀ k, p k = true → k ≠ q ∧ k < top) {x : AV} (h : id2 p x = true) : rn2 (sw q top) x = x ∧ lt2 top x = true := by
  cases x with
  | agg xs => obtain ⟨h1, h2⟩ := idL_sw hp h; exact ⟨by simp [rn2, h1], h2⟩
  | tup xs => obtain ⟨h1, h2⟩ := idL_sw hp h; exact ⟨by simp [rn2, h1], h2⟩
  | fn f xs => obtain ⟨h1, h2⟩ := idL_sw hp h; exact ⟨by simp [rn2, h1], h2⟩
  | d y => exact id1_sw hp (x := .d y) h
  | nilrow => exact id1_sw hp (x := .nilrow) h
  | ptr i off => exact id1_sw hp (x := .ptr i off) h
  | eptr y => exact id1_sw hp (x := .eptr y) h
  | rptr i sz j f => exact id1_sw hp (x := .rptr i sz j f) h
  | own i => exact id1_sw hp (x := .own i) h
  | sub i sz lo n full => exact id1_sw hp (x := .sub i sz lo n full) h
  | junk => simp [id2, id1] at h
theorem idB_sw (hp : ∀ k, p k = true → k ≠ q ∧ k < top) {b : Blk} (h : idB p b = true) : rnB (sw q top) b = b ∧ ltB top b = true := by
  cases b with
  | box e cells => obtain ⟨h1, h2⟩ := idL_sw hp h; exact ⟨by simp [rnB, h1], h2⟩
  | _ => exact ⟨rfl, rfl⟩
theorem idI_mono {p' : Nat → Bool} (hp : ∀ k, p k = true → p' k = true) {i : Id} (h : idI p i = true) : idI p' i = true := by
  cases i with
  | par k => rfl
  | loc k => exact hp k h
theorem id1_mono {p' : Nat → Bool} (hp : ∀ k, p k = true → p' k = true) {x : AV} (h : id1 p x = true) : id1 p' x = true := by
  cases x <;> first | exact idI_mono hp h | exact h
theorem idL_mono {p' : Nat → Bool} (hp : ∀ k, p k = true → p' k = true) {xs : List AV} (h : xs.all (id1 p) = true) : xs.all (id1 p') = true :=
  List.all_eq_true.2 fun x hx => id1_mono hp (List.all_eq_true.1 h x hx)
theorem id2_mono {p' : Nat → Bool} (hp : ∀ k, p k = true → p' k = true) {x : AV} (h : id2 p x = true) : id2 p' x = true := by
  cases x with
  | agg xs => exact idL_mono hp h
  | tup xs => exact idL_mono hp h
  | fn f xs => exact idL_mono hp h
  | d y => exact id1_mono hp (x := .d y) h
  | nilrow => exact id1_mono hp (x := .nilrow) h
  | ptr i off => exact id1_mono hp (x := .ptr i off) h
  | eptr y => exact id1_mono hp (x := .eptr y) h
  | rptr i sz j f => exact id1_mono hp (x := .rptr i sz j f) h
  | own i => exact id1_mono hp (x := .own i) h
  | sub i sz lo n full => exact id1_mono hp (x := .sub i sz lo n full) h
  | junk => exact id1_mono hp (x := .junk) h
theorem idB_mono {p' : Nat → Bool} (hp : ∀ k, p k = true → p' k = true) {b : Blk} (h : idB p b = true) : idB p' b = true := by
  cases b <;> first | exact idL_mono hp h | exact h
end

/-- The block q is named nowhere. -/
structure Fit (q : Nat) (σ : St) : Prop where
  lt : q < σ.clk
  T : ∀ t x, lk σ.T t = some x → ∃ p : Nat → Bool, (∀ k, p k = true → k ≠ q ∧ k < σ.clk) ∧ id2 p x = true
  H : ∀ k b, lk σ.H k = some (some b) → (k ≠ q ∧ k < σ.clk) ∧ ∃ p : Nat → Bool, (∀ k, p k = true → k ≠ q ∧ k < σ.clk) ∧ idB p b = true
  Hp : ∀ b ∈ σ.Hp, LFB b

/-- A new block is told by the number q. -/
theorem Fit.swap {n q top d : Nat} {T : List (Nat × AV)} {H : List (Nat × Option Blk)} {Hp : List Blk} (hf : Fit q ⟨n, T, H, Hp, top⟩) {x x' : AV} {b b' : Blk} (hx : rn2 (sw q top) x = x') (hx2 : lt2 top x = true) (hb : rnB (sw q top) b = b') (hb2 : ltB top b = true) {bl : List (Nat × Option Blk)}
    (hbl : ∀ k b, lk bl k = some b → b = none) : Imp ⟨n, (d, x') :: T, (top, some b') :: (bl ++ H), Hp, top + 1⟩ ⟨n, (d, x) :: T, (q, some b) :: (bl ++ H), Hp, top⟩ := by
  refine Imp.weakF (sw q top) (sw_inj) hf.Hp (fun t y hy => ?_) (fun k c hc => ?_)
  · rcases lk_shadow hy with ⟨rfl, rfl⟩ | ⟨hne, hy⟩
    · exact .inl ⟨by rw [hx]; exact lk_cons_self .., hx2⟩
    · obtain ⟨p, h1, h2⟩ := hf.T t y hy
      obtain ⟨h3, h4⟩ := id2_sw h1 h2
      exact .inl ⟨by rw [h3, lk_cons_ne hne]; exact hy, h4⟩
  · rcases lk_shadow hc with ⟨rfl, e⟩ | ⟨hne, hc⟩
    · cases e
      refine ⟨hf.lt, ?_, hb2⟩
      have : sw q top q = top := by simp [sw]
      simp only [hk, this, lk_cons_self, hb]
    · rw [lk_append] at hc
      cases hq1 : lk bl k with
      | some c' =>
        rw [hq1] at hc
        have := hbl k c' hq1
        subst this
        cases hc
      | none =>
        rw [hq1] at hc
        simp only [Option.none_or] at hc
        obtain ⟨⟨h0, h0'⟩, p, h1, h2⟩ := hf.H k c hc
        obtain ⟨h3, h4⟩ := idB_sw h1 h2
        refine ⟨h0', ?_, h4⟩
        have hs : sw q top k = k := by simp [sw, h0]
        have h0'' : top ≠ k := by simp only at h0'; omega
        simp only [hk, hs, lk_cons_ne h0'', lk_append, hq1, Option.none_or, hc, h3]
end Go.AM
