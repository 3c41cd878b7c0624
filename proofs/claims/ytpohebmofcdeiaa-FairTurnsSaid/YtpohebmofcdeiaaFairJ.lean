/- fair: whose turn it is: in rounds, each ready consumer once. -/
import Derived.Test.YtpohebmofcdeiaaFairI
set_option linter.unusedSimpArgs false
set_option linter.unusedVariables false
namespace Go.Proofs.Try
open Go Go.AM

/-- How many of those ahead of i may. -/
def cntM (q : ByteArray) (l : List C) (i : Nat) : Nat := (l.take i).countP (mayB q)
theorem cntM_succ {q : ByteArray} {l : List C} {i : Nat} (h : i < l.length) : cntM q l (i + 1) = cntM q l i + if mayB q l[i] then 1 else 0 := by
  unfold cntM
  rw [← List.take_append_getElem h, List.countP_append]
  simp [List.countP_cons]
theorem cntM_step (q : ByteArray) (l : List C) (i : Nat) : cntM q l i ≤ cntM q l (i + 1) := by
  by_cases h : i < l.length
  · rw [cntM_succ h]; omega
  · unfold cntM
    rw [List.take_of_length_le (by omega), List.take_of_length_le (by omega)]
    exact Nat.le_refl _
theorem cntM_mono (q : ByteArray) (l : List C) : ∀ (d i : Nat), cntM q l i ≤ cntM q l (i + d)
  | 0, i => Nat.le_refl _
  | d + 1, i => Nat.le_trans (cntM_mono q l d i) (cntM_step q l (i + d))
theorem cntM_len (q : ByteArray) (l : List C) {i : Nat} (h : l.length ≤ i) : cntM q l i = l.countP (mayB q) := by
  unfold cntM
  rw [List.take_of_length_le h]
theorem cntM_none {q : ByteArray} {l : List C} : ∀ (d b : Nat), (∀ k (h : k < l.length), b ≤ k → k < b + d → mayB q l[k] = false) → cntM q l (b + d) = cntM q l b
  | 0, b, _ => rfl
  | d + 1, b, h => by
    have h1 := cntM_none d b (fun k hk h1 h2 => h k hk h1 (by omega))
    by_cases hl : b + d < l.length
    · rw [← Nat.add_assoc, cntM_succ hl, h (b + d) hl (by omega) (by omega), h1]
      simp
    · rw [← h1, cntM_len q l (by omega), cntM_len q l (by omega)]

theorem firstS_spec {p : C → Bool} {l : List C} : ∀ (m b : Nat), m = l.length - b → b ≤ l.length →
    (firstS p (l.drop b) b = -1 ∧ ∀ k (h : k < l.length), b ≤ k → p l[k] = false) ∨ ∃ i, ∃ h : i < l.length, b ≤ i ∧ firstS p (l.drop b) b = (i : Int) ∧ p l[i] = true ∧ ∀ k (h : k < l.length), b ≤ k → k < i → p l[k] = false
  | 0, b, hm, hb => by
    refine .inl ⟨?_, fun k h hk => by omega⟩
    rw [List.drop_eq_nil_of_le (by omega)]
    rfl
  | m + 1, b, hm, hb => by
    have hlt : b < l.length := by omega
    rw [firstS_lt hlt]
    cases hp : p l[b] with
    | true => exact .inr ⟨b, hlt, Nat.le_refl _, by simp, hp, fun k h h1 h2 => by omega⟩
    | false =>
      rcases firstS_spec (p := p) (l := l) m (b + 1) (by omega) (by omega) with ⟨h1, h2⟩ | ⟨i, h, h1, h2, h3, h4⟩
      · refine .inl ⟨by simp [h1], fun k hk hbk => ?_⟩
        by_cases e : k = b
        · subst e; exact hp
        · exact h2 k hk (by omega)
      · refine .inr ⟨i, h, by omega, by simp [h2], h3, fun k hk h5 h6 => ?_⟩
        by_cases e : k = b
        · subst e; exact hp
        · exact h4 k hk (by omega) h6

/-- The number of the one whose turn it is, among those that may. -/
def rankM (q : ByteArray) (l : List C) (last : Int) : Nat := if cntM q l (beginS l last) < l.countP (mayB q) then cntM q l (beginS l last) else 0

theorem next_spec {q : ByteArray} {l : List C} {last : Int} (hN : 0 < l.countP (mayB q)) : ∃ i, ∃ h : i < l.length, nextI l q last = (i : Int) ∧ mayB q l[i] = true ∧ cntM q l i = rankM q l last := by
  have hb := beginS_le l last
  have hni : nextI l q last = if firstS (mayB q) (l.drop (beginS l last)) (beginS l last) < 0 then firstS (mayB q) l 0 else firstS (mayB q) (l.drop (beginS l last)) (beginS l last) := rfl
  have hrk : rankM q l last = if cntM q l (beginS l last) < l.countP (mayB q) then cntM q l (beginS l last) else 0 := rfl
  generalize beginS l last = b at *
  rcases firstS_spec (p := mayB q) (l.length - b) b rfl hb with ⟨h1, h2⟩ | ⟨i, h, h1, h2, h3, h4⟩
  · have hc : cntM q l b = l.countP (mayB q) := by
      have := cntM_none (q := q) (l := l) (l.length - b) b (fun k hk h3 _ => h2 k hk h3)
      rw [show b + (l.length - b) = l.length by omega, cntM_len q l (Nat.le_refl _)] at this
      exact this.symm
    rw [if_neg (by omega)] at hrk
    rw [if_pos (by omega)] at hni
    rw [hni, hrk]
    have h0 := firstS_spec (p := mayB q) (l := l) l.length 0 (by omega) (by omega)
    simp only [List.drop_zero] at h0
    rcases h0 with ⟨_, h3⟩ | ⟨i, h, _, h4, h5, h6⟩
    · exfalso
      have := cntM_none (q := q) (l := l) l.length 0 (fun k hk _ _ => h3 k hk (by omega))
      rw [Nat.zero_add, cntM_len q l (Nat.le_refl _)] at this
      simp [cntM] at this
      rw [List.countP_pos_iff] at hN
      obtain ⟨c, hc1, hc2⟩ := hN
      rw [this c hc1] at hc2
      cases hc2
    · refine ⟨i, h, h4, h5, ?_⟩
      have := cntM_none (q := q) (l := l) i 0 (fun k hk h7 h8 => h6 k hk h7 (by omega))
      rw [Nat.zero_add] at this
      rw [this]
      simp [cntM]
  · have hi : cntM q l i = cntM q l b := by
      have := cntM_none (q := q) (l := l) (i - b) b (fun k hk h5 h6 => h4 k hk h5 (by omega))
      rwa [show b + (i - b) = i by omega] at this
    have hlt : cntM q l b < l.countP (mayB q) := by
      have h5 := cntM_succ (q := q) h
      rw [h3, hi] at h5
      have h6 := cntM_mono q l (l.length - (i + 1)) (i + 1)
      rw [show i + 1 + (l.length - (i + 1)) = l.length by omega, cntM_len q l (Nat.le_refl _)] at h6
      simp at h5
      omega
    rw [if_pos hlt] at hrk
    rw [if_neg (by omega)] at hni
    rw [hni, hrk]
    exact ⟨i, h, h2, h3, hi⟩
theorem next_none {q : ByteArray} {l : List C} {last : Int} (hN : l.countP (mayB q) = 0) : nextI l q last = -1 := by
  have hb := beginS_le l last
  have hni : nextI l q last = if firstS (mayB q) (l.drop (beginS l last)) (beginS l last) < 0 then firstS (mayB q) l 0 else firstS (mayB q) (l.drop (beginS l last)) (beginS l last) := rfl
  generalize beginS l last = b at *
  have hall : ∀ k (h : k < l.length), mayB q l[k] = false := fun k h => by
    have := List.countP_eq_zero.1 hN l[k] (List.getElem_mem h)
    simpa using this
  rcases firstS_spec (p := mayB q) (l.length - b) b rfl hb with ⟨h1, h2⟩ | ⟨i, h, h1, h2, h3, h4⟩
  · rw [hni, if_pos (by omega)]
    have h0 := firstS_spec (p := mayB q) (l := l) l.length 0 (by omega) (by omega)
    simp only [List.drop_zero] at h0
    rcases h0 with ⟨h3, _⟩ | ⟨i, h, _, h4, h5, h6⟩
    · exact h3
    · rw [hall i h] at h5; cases h5
  · rw [hall i h] at h3; cases h3

/-- No two of the first m have one tag. -/
def DistT (l : List C) (m : Nat) : Prop := ∀ j k (hj : j < l.length) (hk : k < l.length), j < k → k < m → l[j].tag ≠ l[k].tag

theorem begin_tag {l : List C} (hd : DistT l l.length) {i : Nat} (h : i < l.length) : beginS l l[i].tag = i + 1 := by
  unfold beginS
  have h0 := firstS_spec (p := fun c => decide (c.tag = l[i].tag)) (l := l) l.length 0 (by omega) (by omega)
  simp only [List.drop_zero] at h0
  rcases h0 with ⟨_, h1⟩ | ⟨j, hj, _, h2, h3, h4⟩
  · have := h1 i h (by omega)
    simp at this
  · rw [h2]
    have h3 : l[j].tag = l[i].tag := by simpa using h3
    rcases Nat.lt_trichotomy j i with hlt | heq | hgt
    · exact absurd h3 (hd j i hj h hlt h)
    · subst heq; rfl
    · exact absurd h3.symm (hd i j h hj hgt hj)

theorem rank_next {q : ByteArray} {l : List C} (hd : DistT l l.length) {i : Nat} (h : i < l.length) (hm : mayB q l[i] = true) {r x : Nat} (hr : cntM q l i = r) (hx : r = x % l.countP (mayB q)) (hN : 0 < l.countP (mayB q)) : rankM q l l[i].tag = (x + 1) % l.countP (mayB q) := by
  unfold rankM
  rw [begin_tag hd h, cntM_succ h, hm, hr, hx]
  simp only [if_true]
  generalize l.countP (mayB q) = N at *
  rw [Nat.add_mod]
  by_cases h1 : 1 % N = 1
  · rw [h1]
    split
    · rename_i h2; rw [Nat.mod_eq_of_lt h2]
    · rename_i h2
      have := Nat.mod_lt x hN
      rw [show x % N + 1 = N by omega, Nat.mod_self]
  · have : N = 1 := by
      rcases Nat.lt_or_ge 1 N with h2 | h2
      · exact absurd (Nat.mod_eq_of_lt h2) h1
      · omega
    subst this
    simp [Nat.mod_one]

theorem cnt_inj {q : ByteArray} {l : List C} {i j : Nat} (hi : i < l.length) (hj : j < l.length) (h1 : mayB q l[i] = true) (h2 : mayB q l[j] = true) (h : cntM q l i = cntM q l j) : i = j := by
  have key : ∀ a b (ha : a < l.length), mayB q l[a] = true → a < b → cntM q l a < cntM q l b := by
    intro a b ha hm hab
    have h3 := cntM_succ (q := q) ha
    rw [hm] at h3
    have h4 := cntM_mono q l (b - (a + 1)) (a + 1)
    rw [show a + 1 + (b - (a + 1)) = b by omega] at h4
    simp at h3
    omega
  rcases Nat.lt_trichotomy i j with hlt | heq | hgt
  · have := key i j hi h1 hlt; omega
  · exact heq
  · have := key j i hj h2 hgt; omega

/-- The first m of a round that begins at s. -/
def Turns (q : ByteArray) (l : List C) (s : Nat) (F : List Int) : Prop := ∀ m x, F[m]? = some x → ∃ i, ∃ h : i < l.length, x = (i : Int) ∧ mayB q l[i] = true ∧ cntM q l i = (s + m) % l.countP (mayB q)
theorem turns_new {q : ByteArray} {l : List C} {s : Nat} {F : List Int} (hF : Turns q l s F) (hk : F.length < l.countP (mayB q)) {i : Nat} (h : i < l.length) (hm : mayB q l[i] = true) (hc : cntM q l i = (s + F.length) % l.countP (mayB q)) : (i : Int) ∉ F := by
  intro hmem
  obtain ⟨m, hmm⟩ := List.getElem?_of_mem hmem
  obtain ⟨j, hj, e1, e2, e3⟩ := hF m _ hmm
  have hij : i = j := by omega
  subst hij
  have hml : m < F.length := (List.getElem?_eq_some_iff.1 hmm).1
  have := Nat.sub_mod_eq_zero_of_mod_eq (hc.symm.trans e3)
  rw [show s + F.length - (s + m) = F.length - m by omega, Nat.mod_eq_of_lt (by omega)] at this
  omega
theorem turns_app {q : ByteArray} {l : List C} {s : Nat} {F : List Int} (hF : Turns q l s F) {i : Nat} (h : i < l.length) (hm : mayB q l[i] = true) (hc : cntM q l i = (s + F.length) % l.countP (mayB q)) : Turns q l s (F ++ [(i : Int)]) := by
  intro m x hx
  rw [List.getElem?_append] at hx
  split at hx
  · exact hF m x hx
  · rename_i hge
    have : m - F.length = 0 := by
      have := (List.getElem?_eq_some_iff.1 hx).1
      simp at this
      omega
    rw [this] at hx
    simp at hx
    subst hx
    exact ⟨i, h, rfl, hm, by rw [show m = F.length by omega]; exact hc⟩
theorem turns_same {q : ByteArray} {l : List C} {s k : Nat} {F : List Int} (hF : Turns q l s F) {i : Nat} (h : i < l.length) (hm : mayB q l[i] = true) (hc : cntM q l i = (s + k) % l.countP (mayB q)) (hk : k < F.length) : F[k] = (i : Int) := by
  obtain ⟨j, hj, e1, e2, e3⟩ := hF k _ (List.getElem?_eq_getElem hk)
  rw [e1, cnt_inj hj h e2 hm (e3.trans hc.symm)]
end Go.Proofs.Try
