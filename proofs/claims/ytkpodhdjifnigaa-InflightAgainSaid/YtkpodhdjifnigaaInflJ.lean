/- inflight: valid windows in plain words, and what keeps them valid. -/
import Derived.Test.YtkpodhdjifnigaaInflI
import Derived.Test.YtkpodhdjifnigaaAM48
set_option linter.unusedSimpArgs false
set_option linter.unusedVariables false
namespace Go.Proofs.Try
open Go Go.AM

theorem itemS_zero {w : Wi} {i : Nat} {f : Fl} : itemS w i f = 0 ↔ (f.id ∈ w.pool.used ∧ atS (w.items.take i) f.id < 0) ∧ restS f = 0 := by
  unfold itemS
  split
  · rename_i h; exact ⟨fun e => ⟨h, e⟩, fun e => e.2⟩
  · rename_i h; exact ⟨fun e => absurd e (by decide), fun e => absurd e.1 h⟩
theorem itemsS_zero {w : Wi} : ∀ {n i : Nat}, i + n ≤ w.items.length → (itemsS w i n = 0 ↔ ∀ j (h : j < w.items.length), i ≤ j → j < i + n → itemS w j w.items[j] = 0)
  | 0, i, _ => by
    refine ⟨fun _ j _ h1 h2 => by omega, fun _ => rfl⟩
  | n + 1, i, hn => by
    have hi : i < w.items.length := by omega
    rw [itemsS, List.getElem?_eq_getElem hi]
    simp only
    have ih := itemsS_zero (w := w) (n := n) (i := i + 1) (by omega)
    constructor
    · intro h j hj h1 h2
      split at h
      · rename_i h0
        rcases Nat.eq_or_lt_of_le h1 with rfl | h3
        · exact h0
        · exact ih.1 h j hj h3 (by omega)
      · rename_i h0
        exact absurd h h0
    · intro h
      rw [if_pos (h i hi (Nat.le_refl _) (by omega))]
      exact ih.2 fun j hj h1 h2 => h j hj (by omega) (by omega)
theorem idx_neg (P : Fl → Bool) : ∀ (l : List Fl) (k : Nat), idxS P l k < 0 ↔ ∀ f ∈ l, P f = false
  | [], k => by simp [idxS]
  | a :: l, k => by
    rw [idxS]
    have ih := idx_neg P l (k + 1)
    cases h : P a with
    | true => simp [h]
    | false => simp [h, ih]
theorem at_neg {l : List Fl} {q : Int} : atS l q < 0 ↔ ∀ f ∈ l, ¬ f.id = q := by
  rw [atS, idx_neg]
  simp
theorem nodup_iff {l : List Fl} : (l.map (·.id)).Nodup ↔ ∀ j (h : j < l.length), ∀ f ∈ l.take j, ¬ f.id = l[j].id := by
  rw [List.Nodup, List.pairwise_iff_getElem]
  constructor
  · intro h j hj f hf
    obtain ⟨i, hi, rfl⟩ := List.getElem_of_mem hf
    rw [List.length_take] at hi
    have := h i j (by simp; omega) (by simp; omega) (by omega)
    rw [List.getElem_take]
    simpa using this
  · intro h i j hi hj hij
    simp only [List.length_map] at hi hj
    have := h j hj l[i] (List.mem_take_iff_getElem.2 ⟨i, by omega, rfl⟩)
    simpa using this
theorem goodW_iff {w : Wi} : checkW w = 0 ↔ GoodW w := by
  have hcw : checkW w = if w.limit < 0 ∨ 32 < w.limit then 1 else if checkS w.pool = 0 then (if 32 < w.items.length then 5 else if itemsS w 0 w.items.length = 0 then (if w.items.length < w.pool.used.length then 15 else 0) else itemsS w 0 w.items.length) else checkS w.pool := rfl
  rw [hcw]
  have hz := itemsS_zero (w := w) (n := w.items.length) (i := 0) (by omega)
  constructor
  · intro h
    split at h
    · exact absurd h (by decide)
    rename_i h1
    split at h
    · rename_i h2
      split at h
      · exact absurd h (by decide)
      rename_i h3
      split at h
      · rename_i h4
        split at h
        · exact absurd h (by decide)
        rename_i h5
        have hall := hz.1 h4
        refine ⟨by omega, by omega, good_iff.1 h2, by omega, nodup_iff.2 fun j hj => at_neg.1 (itemS_zero.1 (hall j hj (Nat.zero_le _) (by omega))).1.2, fun f hf => ?_, by omega⟩
        obtain ⟨j, hj, rfl⟩ := List.getElem_of_mem hf
        have := itemS_zero.1 (hall j hj (Nat.zero_le _) (by omega))
        exact ⟨this.1.1, this.2⟩
      · rename_i h4; exact absurd h h4
    · rename_i h2; exact absurd h h2
  · intro h
    have h1 := h.l0
    have h2 := h.l1
    have h3 := h.len
    have h4 := h.used
    rw [if_neg (by omega), if_pos (good_iff.2 h.pool), if_neg (by omega), if_pos, if_neg (by omega)]
    refine hz.2 fun j hj _ _ => itemS_zero.2 ⟨⟨(h.ok _ (List.getElem_mem hj)).1, at_neg.2 (nodup_iff.1 h.nodup j hj)⟩, (h.ok _ (List.getElem_mem hj)).2⟩
/-- Those in use are exactly the flights' identifiers. -/
theorem GoodW.mem {w : Wi} (h : GoodW w) {x : Int} (hx : x ∈ w.pool.used) : ∃ f ∈ w.items, f.id = x := by
  have hs : ∀ y ∈ w.items.map (·.id), y ∈ w.pool.used := by
    intro y hy
    obtain ⟨f, hf, rfl⟩ := List.mem_map.1 hy
    exact (h.ok f hf).1
  apply Decidable.byContradiction
  intro hn
  have h1 : ∀ y ∈ w.items.map (·.id), y ∈ w.pool.used.filter (fun y => !decide (y = x)) := by
    intro y hy
    rw [List.mem_filter]
    refine ⟨hs y hy, ?_⟩
    obtain ⟨f, hf, rfl⟩ := List.mem_map.1 hy
    simp only [Bool.not_eq_true', decide_eq_false_iff_not]
    exact fun e => hn ⟨f, hf, e⟩
  have h2 := nd_len _ _ h.nodup h1
  have h3 : (w.pool.used.filter (fun y => !decide (y = x))).length < w.pool.used.length := by
    have := fil_lt (l := w.pool.used) (x := x)
    rw [decide_eq_true hx] at this
    exact of_decide_eq_true this
  rw [List.length_map] at h2
  have := h.used
  omega
theorem GoodW.usedl {w : Wi} (h : GoodW w) : w.pool.used.length = w.items.length := by
  have hs : ∀ y ∈ w.items.map (·.id), y ∈ w.pool.used := by
    intro y hy
    obtain ⟨f, hf, rfl⟩ := List.mem_map.1 hy
    exact (h.ok f hf).1
  have h2 := nd_len _ _ h.nodup hs
  rw [List.length_map] at h2
  have := h.used
  omega
/-- A free place: its identifier. -/
theorem GoodW.take {w : Wi} (h : GoodW w) (hl : ¬ w.limit ≤ w.items.length) : ∃ y, takeS w.pool = (y, ⟨withS w.pool.used y, y⟩, 0) ∧ y ∉ w.pool.used ∧ Good ⟨withS w.pool.used y, y⟩ ∧ 1 ≤ y ∧ y ≤ 65535 := by
  have h1 := h.used
  have h2 := h.l1
  obtain ⟨y, k, hk, hyk, hy, hte, hG2⟩ := good_take h.pool (by omega)
  exact ⟨y, hte, hy, hG2, by omega⟩
theorem rest_sent {y : Int} {m : Ms} (hc : checkM m = 0) (hl : ¬ m.level = 0) : restS ⟨y, 1, m⟩ = 0 := by
  unfold restS
  rw [if_pos hc, if_neg hl, if_neg (by simp)]
theorem GoodW.started {w : Wi} (h : GoodW w) {m : Ms} (hl : ¬ w.limit ≤ w.items.length) (hc : checkM m = 0) (hv : ¬ m.level = 0) : GoodW (startedS w m) := by
  obtain ⟨y, ht, hy, hG, _⟩ := h.take hl
  have hwl := withS_len w.pool.used y
  have hu := h.used
  have h1 := h.l1
  rw [startedS, ht]
  refine ⟨h.l0, h.l1, hG, by simp; omega, ?_, fun f hf => ?_, by simp [hwl]; omega⟩
  · simp only [List.map_append, List.map_cons, List.map_nil]
    rw [List.nodup_append]
    refine ⟨h.nodup, by simp, fun a ha b hb => ?_⟩
    obtain ⟨f, hf, rfl⟩ := List.mem_map.1 ha
    simp only [List.mem_singleton] at hb
    subst hb
    exact fun e => hy (e ▸ (h.ok f hf).1)
  · rcases List.mem_append.1 hf with hf | hf
    · exact ⟨withS_mem.2 (.inr (h.ok f hf).1), (h.ok f hf).2⟩
    · simp only [List.mem_singleton] at hf
      subst hf
      exact ⟨withS_mem.2 (.inl rfl), rest_sent hc hv⟩
/-- The window without its i-th item; with it released. -/
def removeS (w : Wi) (i : Nat) (x : Int) : Wi := ⟨w.limit, w.items.eraseIdx i, freeS w.pool x⟩
def relF (f : Fl) : Fl := ⟨f.id, 2, f.msg⟩
def releaseS (w : Wi) (i : Nat) (f : Fl) : Wi := ⟨w.limit, w.items.take i ++ [relF f] ++ w.items.drop (i + 1), w.pool⟩
theorem GoodW.remove {w : Wi} (h : GoodW w) {i : Nat} (hi : i < w.items.length) : GoodW (removeS w i w.items[i].id) := by
  have hu := h.usedl
  have hl := h.len
  have hel : (w.items.eraseIdx i).length = w.items.length - 1 := List.length_eraseIdx_of_lt hi
  have hmem := (h.ok _ (List.getElem_mem hi)).1
  refine ⟨h.l0, h.l1, good_free h.pool _, by simp only [removeS]; omega, ?_, fun f hf => ?_, ?_⟩
  · show ((w.items.eraseIdx i).map (·.id)).Nodup
    exact List.Nodup.sublist ((List.eraseIdx_sublist _ _).map _) h.nodup
  · have hf' : f ∈ w.items.eraseIdx i := hf
    have hf2 := (List.eraseIdx_sublist _ _).subset hf'
    refine ⟨?_, (h.ok f hf2).2⟩
    show f.id ∈ w.pool.used.filter _
    rw [List.mem_filter]
    refine ⟨(h.ok f hf2).1, ?_⟩
    simp only [Bool.not_eq_true', decide_eq_false_iff_not]
    intro e
    obtain ⟨j, hj, hjf⟩ := List.mem_eraseIdx_iff_getElem.1 hf'
    obtain ⟨hji, hj2⟩ := hjf
    have hn := List.pairwise_iff_getElem.1 h.nodup
    rcases Nat.lt_or_gt_of_ne hji with h3 | h3
    · have := hn j i (by simp; omega) (by simp; omega) h3
      simp only [List.getElem_map] at this
      exact this (by rw [hj2, e])
    · have := hn i j (by simp; omega) (by simp; omega) h3
      simp only [List.getElem_map] at this
      exact this (by rw [hj2, e])
  · show (w.pool.used.filter fun y => !decide (y = w.items[i].id)).length ≤ (w.items.eraseIdx i).length
    have := fil_lt (l := w.pool.used) (x := w.items[i].id)
    rw [decide_eq_true hmem] at this
    have := of_decide_eq_true this
    omega
theorem rel_ids {w : Wi} {i : Nat} (hi : i < w.items.length) : (releaseS w i w.items[i]).items.map (·.id) = w.items.map (·.id) := by
  have : w.items.map (·.id) = (w.items.take i ++ w.items[i] :: w.items.drop (i + 1)).map (·.id) := by rw [← List.drop_eq_getElem_cons hi, List.take_append_drop]
  rw [this]
  simp only [releaseS, relF, List.map_append, List.map_cons, List.map_nil, List.append_assoc, List.singleton_append]
theorem GoodW.release {w : Wi} (h : GoodW w) {i : Nat} (hi : i < w.items.length) (hv : w.items[i].msg.level = 2) : GoodW (releaseS w i w.items[i]) := by
  have hids := rel_ids hi
  have hlen : (releaseS w i w.items[i]).items.length = w.items.length := by have := congrArg List.length hids; simpa using this
  refine ⟨h.l0, h.l1, h.pool, by rw [hlen]; exact h.len, by rw [hids]; exact h.nodup, fun f hf => ?_, by rw [hlen]; exact h.used⟩
  have hf' : f ∈ w.items.take i ++ [relF w.items[i]] ++ w.items.drop (i + 1) := hf
  have hold : ∀ f ∈ w.items, f.id ∈ w.pool.used ∧ restS f = 0 := h.ok
  rcases List.mem_append.1 hf' with hf' | hf'
  · rcases List.mem_append.1 hf' with hf' | hf'
    · exact hold f (List.mem_of_mem_take hf')
    · simp only [List.mem_singleton] at hf'
      subst hf'
      obtain ⟨h1, h2⟩ := hold _ (List.getElem_mem hi)
      refine ⟨h1, ?_⟩
      have hc : checkM w.items[i].msg = 0 := by
        unfold restS at h2
        split at h2
        · assumption
        · rename_i h3; exact absurd h2 h3
      unfold restS relF
      simp only
      rw [if_pos hc, if_neg (by omega), if_neg (by simp; omega)]
  · exact hold f (List.mem_of_mem_drop hf')
end Go.Proofs.Try
