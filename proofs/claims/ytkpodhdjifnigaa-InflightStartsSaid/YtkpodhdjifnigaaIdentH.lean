/- ident: plain facts: the pool in order, the next free identifier, what stands in and is left out. -/
import Derived.Test.YtkpodhdjifnigaaIdentG
import Derived.Test.YtkpodhdjifnigaaAM47
set_option linter.unusedSimpArgs false
set_option linter.unusedVariables false
namespace Go.Proofs.Try
open Go Go.AM

theorem okS_iff : ∀ {l : List Int} {a : Int}, okS a l = true ↔ (∀ x ∈ l, a < x ∧ x ≤ 65535) ∧ l.Pairwise (· < ·)
  | [], a => by simp [okS]
  | x :: r, a => by
    rw [okS, Bool.and_eq_true, Bool.and_eq_true, decide_eq_true_eq, decide_eq_true_eq, okS_iff (l := r) (a := x), List.pairwise_cons]
    constructor
    · rintro ⟨⟨h1, h2⟩, h3, h4⟩
      refine ⟨fun y hy => ?_, fun y hy => (h3 y hy).1, h4⟩
      rcases List.mem_cons.1 hy with rfl | hy
      · exact ⟨h1, h2⟩
      · have := h3 y hy
        exact ⟨by omega, this.2⟩
    · rintro ⟨h1, h2, h3⟩
      exact ⟨h1 x (List.mem_cons_self), fun y hy => ⟨h2 y hy, (h1 y (List.mem_cons_of_mem _ hy)).2⟩, h3⟩
structure Good (p : Po) : Prop where
  len : p.used.length ≤ 32
  ok : ∀ x ∈ p.used, 0 < x ∧ x ≤ 65535
  srt : p.used.Pairwise (· < ·)
  l0 : 0 ≤ p.last
  l1 : p.last ≤ 65535
theorem good_iff {p : Po} : checkS p = 0 ↔ Good p := by
  unfold checkS
  constructor
  · intro h
    split at h
    · omega
    · split at h
      · rename_i h1 h2
        split at h
        · omega
        · rename_i h3
          obtain ⟨h4, h5⟩ := okS_iff.1 h2
          exact ⟨by omega, h4, h5, by omega, by omega⟩
      · omega
  · intro h
    have h1 : okS 0 p.used = true := okS_iff.2 ⟨h.ok, h.srt⟩
    have := h.len
    have := h.l0
    have := h.l1
    rw [if_neg (by omega), if_pos h1, if_neg (by omega)]
theorem nd_len : ∀ (c l : List Int), c.Nodup → (∀ x ∈ c, x ∈ l) → c.length ≤ l.length
  | [], l, _, _ => Nat.zero_le _
  | a :: t, l, hn, hs => by
    rw [List.nodup_cons] at hn
    have ha := hs a List.mem_cons_self
    have h1 := nd_len t (l.erase a) hn.2 (fun x hx => (List.mem_erase_of_ne (fun (e : x = a) => hn.1 (e ▸ hx))).2 (hs x (List.mem_cons_of_mem _ hx)))
    rw [List.length_erase_of_mem ha] at h1
    have := List.length_pos_of_mem ha
    rw [List.length_cons]
    omega
theorem seek_none {l : List Int} : ∀ {n : Nat} {x : Int}, 0 ≤ x → seekS l x n = none → ∀ k : Nat, k < n → (x + k) % 65535 + 1 ∈ l
  | 0, x, _, _, k, hk => by omega
  | n + 1, x, h0, h, k, hk => by
    unfold seekS at h
    split at h
    · rename_i hm
      cases k with
      | zero => simpa [nextS] using hm
      | succ k =>
        have hr := nextS_range x
        have := seek_none (by omega) h k (by omega)
        have e : (nextS x + (k : Int)) % 65535 = (x + ((k + 1 : Nat) : Int)) % 65535 := by
          unfold nextS
          omega
        rwa [e] at this
    · cases h
theorem seek_some {l : List Int} : ∀ {n : Nat} {x y : Int}, 0 ≤ x → seekS l x n = some y → y ∉ l ∧ ∃ k : Nat, k < n ∧ y = (x + k) % 65535 + 1
  | 0, x, y, _, h => by simp [seekS] at h
  | n + 1, x, y, h0, h => by
    unfold seekS at h
    split at h
    · have hr := nextS_range x
      obtain ⟨h1, k, h2, h3⟩ := seek_some (by omega) h
      refine ⟨h1, k + 1, by omega, ?_⟩
      rw [h3]
      unfold nextS
      omega
    · rename_i hm
      injection h with h
      subst h
      exact ⟨hm, 0, by omega, by simp [nextS]⟩
theorem seek_ex {l : List Int} {x : Int} (h0 : 0 ≤ x) (hl : l.length < 32) : ∃ y, seekS l x (l.length + 1) = some y := by
  cases h : seekS l x (l.length + 1) with
  | some y => exact ⟨y, rfl⟩
  | none =>
    have h1 := seek_none h0 h
    have h2 := nd_len ((List.range (l.length + 1)).map fun k : Nat => (x + k) % 65535 + 1) l (by
      refine List.Pairwise.map _ (fun a b hab => hab) (List.pairwise_iff_getElem.2 fun i j hi hj hij => ?_)
      rw [List.length_range] at hi hj
      rw [List.getElem_range, List.getElem_range]
      omega) (fun y hy => by
      obtain ⟨k, hk, rfl⟩ := List.mem_map.1 hy
      exact h1 k (List.mem_range.1 hk))
    rw [List.length_map, List.length_range] at h2
    omega
theorem seekR_eq {l : List Int} : ∀ {n m : Nat} {x y : Int}, seekS l x n = some y → n ≤ m + 1 → seekR l (nextS x) m = y
  | 0, m, x, y, h, _ => by simp [seekS] at h
  | n + 1, m, x, y, h, hn => by
    unfold seekS at h
    split at h
    · rename_i hm
      cases n with
      | zero => simp [seekS] at h
      | succ n =>
        cases m with
        | zero => omega
        | succ m =>
          rw [seekR, if_pos hm]
          exact seekR_eq h (by omega)
    · rename_i hm
      injection h with h
      cases m with
      | zero => exact h
      | succ m => rw [seekR, if_neg hm]; exact h
theorem take_eq {p : Po} (h0 : 0 ≤ p.last) : takeS p = refTakeS p := by
  unfold takeS refTakeS
  by_cases hl : 32 ≤ p.used.length
  · rw [if_pos hl, if_pos hl]
  · rw [if_neg hl, if_neg hl]
    obtain ⟨y, hy⟩ := seek_ex (l := p.used) h0 (by omega)
    rw [hy, seekR_eq hy (by omega)]
theorem withS_len (l : List Int) (x : Int) : (withS l x).length = l.length + 1 := by
  have := cntS_le l x
  simp [withS]
  omega
theorem withS_mem {l : List Int} {x y : Int} : y ∈ withS l x ↔ y = x ∨ y ∈ l := by
  unfold withS
  rw [List.mem_append, List.mem_append, List.mem_singleton]
  constructor
  · rintro ((h | h) | h)
    · exact .inr (List.mem_of_mem_take h)
    · exact .inl h
    · exact .inr (List.mem_of_mem_drop h)
  · rintro (h | h)
    · exact .inl (.inr h)
    · rw [← List.take_append_drop (cntS l x) l, List.mem_append] at h
      rcases h with h | h
      · exact .inl (.inl h)
      · exact .inr h
theorem withS_srt {l : List Int} {x : Int} (hs : l.Pairwise (· < ·)) (hx : x ∉ l) : (withS l x).Pairwise (· < ·) := by
  have h1 : ∀ y ∈ l.take (cntS l x), y < x := fun y hy => by
    obtain ⟨j, hj, rfl⟩ := List.getElem_of_mem hy
    rw [List.length_take] at hj
    rw [List.getElem_take]
    exact cntS_lt (by omega) (by omega)
  have h2 : ∀ y ∈ l.drop (cntS l x), x < y := fun y hy => by
    have hm := List.mem_of_mem_drop hy
    obtain ⟨j, hj, rfl⟩ := List.getElem_of_mem hy
    rw [List.length_drop] at hj
    have h3 := cntS_ge (x := x) (j := cntS l x + j) (by omega) hs (by omega)
    rw [List.getElem_drop] at hm ⊢
    have : x ≠ l[cntS l x + j] := fun e => hx (e ▸ hm)
    omega
  unfold withS
  rw [List.append_assoc, List.pairwise_append]
  refine ⟨hs.sublist (List.take_sublist _ _), ?_, fun a ha b hb => ?_⟩
  · rw [List.singleton_append, List.pairwise_cons]
    exact ⟨h2, hs.sublist (List.drop_sublist _ _)⟩
  · rcases List.mem_append.1 hb with hb | hb
    · rw [List.mem_singleton.1 hb]
      exact h1 a ha
    · have h3 := h1 a ha
      have h4 := h2 b hb
      omega
theorem withS_free {l : List Int} {x : Int} (hx : x ∉ l) : ((withS l x).filter fun y => !decide (y = x)) = l := by
  have h1 : ∀ A : List Int, (∀ y ∈ A, y ∈ l) → (A.filter fun y => !decide (y = x)) = A := fun A hA => fil_none (fun h => hx (hA _ h))
  unfold withS
  rw [List.filter_append, List.filter_append, h1 _ (fun y hy => List.mem_of_mem_take hy), h1 _ (fun y hy => List.mem_of_mem_drop hy)]
  simp
theorem good_take {p : Po} (h : Good p) (hl : p.used.length < 32) : ∃ y k, k < 32 ∧ y = (p.last + (k : Nat)) % 65535 + 1 ∧ y ∉ p.used ∧ takeS p = (y, ⟨withS p.used y, y⟩, 0) ∧ Good ⟨withS p.used y, y⟩ := by
  obtain ⟨y, hy⟩ := seek_ex (l := p.used) h.l0 hl
  obtain ⟨h1, k, h2, h3⟩ := seek_some h.l0 hy
  refine ⟨y, k, by omega, h3, h1, ?_, ?_⟩
  · rw [takeS, if_neg (by omega), hy]
    rfl
  · refine ⟨by simp only [withS_len]; omega, fun x hx => ?_, withS_srt h.srt h1, by simp only; omega, by simp only; omega⟩
    rcases withS_mem.1 hx with rfl | hx
    · omega
    · exact h.ok x hx
theorem good_free {p : Po} (h : Good p) (x : Int) : Good (freeS p x) := by
  refine ⟨Nat.le_trans (List.length_filter_le _ _) h.len, fun y hy => h.ok y (List.mem_filter.1 hy).1, h.srt.sublist List.filter_sublist, h.l0, h.l1⟩
theorem free_not (p : Po) (x : Int) : x ∉ (freeS p x).used := fun h => by
  have := (List.mem_filter.1 h).2
  simp at this
theorem take_full {p : Po} (hl : 32 ≤ p.used.length) : takeS p = (0, zeroP, 6) := by rw [takeS, if_pos hl]
theorem free_with {l : List Int} {y a : Int} (hy : y ∉ l) : freeS ⟨withS l y, a⟩ y = ⟨l, a⟩ := by
  unfold freeS
  rw [withS_free hy]
end Go.Proofs.Try
