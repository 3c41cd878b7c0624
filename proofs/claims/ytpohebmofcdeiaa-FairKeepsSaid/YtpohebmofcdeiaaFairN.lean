/- fair: plain facts for FairKeeps. -/
import Derived.Test.YtpohebmofcdeiaaFairM
import Derived.Test.YtpohebmofcdeiaaAM42
set_option linter.unusedSimpArgs false
set_option linter.unusedVariables false
namespace Go.Proofs.Try
open Go Go.AM

theorem checkL_app : ∀ {l p : List C} {c : C}, checkL p l = 0 → oneS (p ++ l) c = 0 → checkL p (l ++ [c]) = 0
  | [], p, c, _, h => by
    rw [List.append_nil] at h
    rw [List.nil_append, checkL, if_pos h]
    rfl
  | a :: l, p, c, h, h2 => by
    unfold checkL at h
    by_cases h1 : oneS p a = 0
    · rw [if_pos h1] at h
      rw [List.cons_append, checkL, if_pos h1]
      exact checkL_app h (by rw [List.append_assoc]; exact h2)
    · rw [if_neg h1] at h; exact absurd h h1
theorem checkL_one : ∀ {l p : List C}, checkL p l = 0 → ∀ (i : Nat) (h : i < l.length), oneS (p ++ l.take i) l[i] = 0
  | [], p, _, i, h => by simp at h
  | a :: l, p, hc, i, h => by
    unfold checkL at hc
    by_cases h1 : oneS p a = 0
    · rw [if_pos h1] at hc
      cases i with
      | zero => simpa using h1
      | succ i =>
        have := checkL_one hc i (by simpa using h)
        rw [List.append_assoc] at this
        simpa using this
    · rw [if_neg h1] at hc; exact absurd hc h1
theorem oneS_key {l : List C} {c : C} (h : oneS l c = 0) : validS c = 0 ∧ findS l c.conn c.tag < 0 := by
  unfold oneS at h
  by_cases h1 : validS c = 0
  · rw [if_pos h1] at h
    by_cases h2 : 0 ≤ findS l c.conn c.tag
    · rw [if_pos h2] at h; omega
    · exact ⟨h1, by omega⟩
  · rw [if_neg h1] at h; exact absurd h h1
theorem oneS_mk {l : List C} {c : C} (h1 : validS c = 0) (h2 : findS l c.conn c.tag < 0) : oneS l c = 0 := by
  rw [oneS, if_pos h1, if_neg (by omega)]
def keyC (c : C) : Int × Int := (c.conn, c.tag)
theorem firstS_key (a b : Int) : ∀ {l l' : List C} {k : Nat}, l.map keyC = l'.map keyC → firstS (fun c => decide (c.conn = a) && decide (c.tag = b)) l k = firstS (fun c => decide (c.conn = a) && decide (c.tag = b)) l' k
  | [], [], k, _ => rfl
  | [], _ :: _, k, h => by simp at h
  | _ :: _, [], k, h => by simp at h
  | x :: l, y :: l', k, h => by
    simp only [List.map_cons, List.cons.injEq, keyC, Prod.mk.injEq] at h
    unfold firstS
    rw [h.1.1, h.1.2, firstS_key a b h.2]
theorem findS_key {l l' : List C} (h : l.map keyC = l'.map keyC) (a b : Int) : findS l a b = findS l' a b := firstS_key a b h
theorem checkL_key : ∀ {l l' p p' : List C}, checkL p l = 0 → p.map keyC = p'.map keyC → l.map keyC = l'.map keyC → (∀ c ∈ l', validS c = 0) → checkL p' l' = 0
  | [], [], p, p', _, _, _, _ => rfl
  | [], _ :: _, p, p', _, _, h, _ => by simp at h
  | _ :: _, [], p, p', _, _, h, _ => by simp at h
  | x :: l, y :: l', p, p', hc, hp, h, hv => by
    simp only [List.map_cons, List.cons.injEq] at h
    have hk := h.1
    simp only [keyC, Prod.mk.injEq] at hk
    unfold checkL at hc ⊢
    by_cases h1 : oneS p x = 0
    · rw [if_pos h1] at hc
      have h2 := (oneS_key h1).2
      rw [findS_key hp, hk.1, hk.2] at h2
      rw [if_pos (oneS_mk (hv y List.mem_cons_self) h2)]
      exact checkL_key hc (by rw [List.map_append, List.map_append, hp]; simp [h.1]) h.2 (fun c hc => hv c (List.mem_cons_of_mem _ hc))
    · rw [if_neg h1] at hc; exact absurd hc h1
theorem checkS_L {l : List C} (h : checkS l = 0) : l.length ≤ 32 ∧ checkL [] l = 0 := by
  unfold checkS at h
  by_cases h1 : 32 < l.length
  · rw [if_pos h1] at h; omega
  · rw [if_neg h1] at h; exact ⟨by omega, h⟩
theorem findS_app (l : List C) (c : C) (a b : Int) : findS (l ++ [c]) a b = if findS l a b < 0 then (if c.conn = a ∧ c.tag = b then (l.length : Int) else -1) else findS l a b := by
  unfold findS
  rw [firstS_append]
  congr 1
  simp only [firstS, Nat.zero_add]
  by_cases h1 : c.conn = a <;> by_cases h2 : c.tag = b <;> simp [h1, h2]
theorem add_keeps {l : List C} {c : C} (h : checkS l = 0) (he : (addS l c).2 = 0) : (addS l c).1 = l ++ [c] ∧ checkS (l ++ [c]) = 0 ∧ removeS (l ++ [c]) c.conn c.tag = (l, 0) := by
  obtain ⟨h1, h2⟩ := checkS_L h
  unfold addS at *
  by_cases h3 : oneS l c = 0
  · rw [if_pos h3] at *
    by_cases h4 : 32 ≤ l.length
    · rw [if_pos h4] at he; exact absurd he (by decide)
    · rw [if_neg h4]
      have h5 := (oneS_key h3).2
      have h6 : findS (l ++ [c]) c.conn c.tag = (l.length : Int) := by rw [findS_app, if_pos h5, if_pos ⟨rfl, rfl⟩]
      refine ⟨rfl, ?_, ?_⟩
      · rw [checkS, if_neg (by simp; omega)]
        exact checkL_app h2 (by simpa using h3)
      · rw [removeS, if_neg (by omega), h6, Int.toNat_natCast, List.eraseIdx_append_of_length_le (Nat.le_refl _)]
        simp
  · rw [if_neg h3] at he; exact absurd he h3
theorem find_step {l : List C} (h : checkS l = 0) {i : Nat} (hi : i < l.length) (a b : Int) : findS (l.take (i + 1)) a b = if l[i].conn = a ∧ l[i].tag = b then (i : Int) else findS (l.take i) a b := by
  have h1 := checkL_one (checkS_L h).2 i hi
  rw [List.nil_append] at h1
  have h2 := (oneS_key h1).2
  have hl : (l.take i).length = i := by rw [List.length_take]; omega
  rw [← List.take_append_getElem hi, findS_app, hl]
  by_cases h3 : l[i].conn = a ∧ l[i].tag = b
  · simp only [if_pos h3]
    rw [if_pos (by rw [← h3.1, ← h3.2]; exact h2)]
  · rw [if_neg h3, if_neg h3]
    have := findS_range (l.take i) a b
    split <;> omega
theorem clamp_valid {c : C} {n : Int} (h : validS c = 0) : validS { c with unacked := clampS c.unacked n } = 0 := by
  have h1 := clamp_in (n := n) (validS_un h)
  unfold validS at *
  by_cases h2 : inC c = true
  · rw [if_pos h2] at h
    have h3 : inC { c with unacked := clampS c.unacked n } = true := by
      unfold inC at *
      simp only [Bool.and_eq_true] at *
      refine ⟨h2.1, ?_⟩
      unfold inB
      simp [h1.1, h1.2]
    rw [if_pos h3]
    exact h
  · rw [if_neg h2] at h; omega
theorem count_at {l : List C} {a b n : Int} : (countS l a b n).length = l.length ∧ ∀ (i : Nat) (h : i < l.length) (h' : i < (countS l a b n).length), (countS l a b n)[i] = if (i : Int) = findS l a b then { l[i] with unacked := clampS l[i].unacked n } else l[i] := by
  have hr := findS_range l a b
  by_cases h1 : findS l a b < 0
  · have e : countS l a b n = l := by rw [countS, if_pos h1]
    simp only [e]
    exact ⟨trivial, fun i h h' => by rw [if_neg (by omega)]⟩
  · obtain ⟨k, hk⟩ : ∃ k : Nat, findS l a b = k := ⟨(findS l a b).toNat, by omega⟩
    have hkl : k < l.length := by omega
    have e : countS l a b n = l.set k { l[k] with unacked := clampS l[k].unacked n } := by
      rw [countS, if_neg h1, hk, Int.toNat_natCast, List.getElem?_eq_getElem hkl]
    simp only [e, hk]
    refine ⟨by simp, fun i h h' => ?_⟩
    simp only [List.getElem_set]
    by_cases e : k = i
    · subst e
      rw [if_pos rfl, if_pos rfl]
    · rw [if_neg e, if_neg (by omega)]
theorem count_keeps {l : List C} {a b n : Int} (h : checkS l = 0) : checkS (countS l a b n) = 0 := by
  obtain ⟨h1, h2⟩ := checkS_L h
  obtain ⟨h3, h4⟩ := count_at (l := l) (a := a) (b := b) (n := n)
  rw [checkS, if_neg (by omega)]
  refine checkL_key h2 rfl (List.ext_getElem (by simp [h3]) fun i hi hi' => ?_) fun c hc => ?_
  · rw [List.length_map] at hi hi'
    rw [List.getElem_map, List.getElem_map, h4 i hi hi']
    split <;> rfl
  · obtain ⟨i, hi, rfl⟩ := List.getElem_of_mem hc
    rw [h4 i (by omega) hi]
    have hv := checkL_valid h2 l[i] (List.getElem_mem _)
    split
    · exact clamp_valid hv
    · exact hv
end Go.Proofs.Try
