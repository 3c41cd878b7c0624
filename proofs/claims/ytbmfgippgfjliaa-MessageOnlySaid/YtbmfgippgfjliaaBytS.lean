/- Properties: the order of keys; lists that are canonical; what Set makes of them: plain laws. -/
import Derived.Test.YtbmfgippgfjliaaBytR
set_option linter.unusedSimpArgs false
set_option linter.unusedVariables false
namespace Go.Proofs.Try
open Go Go.AM

theorem bytesLess_trans : ∀ {a b c : List UInt8}, Op.bytesLess a b = true → Op.bytesLess b c = true → Op.bytesLess a c = true
  | [], [], _, h, _ => by simp [Op.bytesLess] at h
  | _ :: _, [], _, h, _ => by simp [Op.bytesLess] at h
  | _, _ :: _, [], _, h => by simp [Op.bytesLess] at h
  | [], _ :: _, _ :: _, _, _ => rfl
  | x :: a, y :: b, z :: c, h1, h2 => by
    simp only [Op.bytesLess, Bool.or_eq_true, Bool.and_eq_true, decide_eq_true_eq, beq_iff_eq] at h1 h2 ⊢
    rcases h1 with h1 | ⟨rfl, h1⟩ <;> rcases h2 with h2 | ⟨rfl, h2⟩
    · exact .inl (UInt8.lt_trans h1 h2)
    · exact .inl h1
    · exact .inl h2
    · exact .inr ⟨rfl, bytesLess_trans h1 h2⟩
theorem strLess_trans {a b c : ByteArray} (h1 : strLess a b = true) (h2 : strLess b c = true) : strLess a c = true := bytesLess_trans h1 h2
theorem bytesLess_total : ∀ {a b : List UInt8}, Op.bytesLess a b = false → a ≠ b → Op.bytesLess b a = true
  | [], [], _, h => absurd rfl h
  | [], _ :: _, h, _ => by simp [Op.bytesLess] at h
  | _ :: _, [], _, _ => rfl
  | x :: a, y :: b, h, hne => by
    simp only [Op.bytesLess, Bool.or_eq_true, Bool.and_eq_true, decide_eq_true_eq, beq_iff_eq, Bool.or_eq_false_iff, Bool.and_eq_false_iff, decide_eq_false_iff_not] at h ⊢
    obtain ⟨h1, h2⟩ := h
    by_cases he : x = y
    · subst he
      refine .inr ⟨rfl, bytesLess_total ?_ (fun e => hne (by rw [e]))⟩
      rcases h2 with h2 | h2
      · simp at h2
      · exact h2
    · refine .inl ?_
      have : x.toNat ≠ y.toNat := fun e => he (UInt8.toNat_inj.1 e)
      rw [UInt8.lt_iff_toNat_lt] at h1 ⊢
      omega
theorem strLess_total {a b : ByteArray} (h : strLess a b = false) (hne : a ≠ b) : strLess b a = true := by
  refine bytesLess_total h (fun e => hne ?_)
  have h1 : a.data = b.data := by
    have := congrArg List.toArray e
    simpa using this
  cases a; cases b
  simp only at h1
  rw [h1]
theorem bytesLess_irrefl : ∀ (a : List UInt8), Op.bytesLess a a = false
  | [] => rfl
  | x :: a => by
    simp only [Op.bytesLess, bytesLess_irrefl a, Bool.and_false, Bool.or_false, decide_eq_false_iff_not]
    exact UInt8.lt_irrefl x
theorem strLess_irrefl (a : ByteArray) : strLess a a = false := bytesLess_irrefl _
theorem strLess_asymm {a b : ByteArray} (h : strLess a b = true) : strLess b a = false := by
  cases h2 : strLess b a with
  | false => rfl
  | true =>
    have := strLess_trans h h2
    rw [strLess_irrefl] at this
    cases this
theorem strLess_ne {a b : ByteArray} (h : strLess a b = true) : a ≠ b := by
  rintro rfl
  rw [strLess_irrefl] at h
  cases h
/-- A canonical list. -/
structure Canon (l : List Pr) : Prop where
  len : l.length ≤ 8
  ok : ∀ p ∈ l, keyS p.key = true ∧ p.value.size ≤ 160
  sorted : l.Pairwise fun a b => strLess a.key b.key = true
theorem propsL_iff (l : List Pr) : ∀ (n i : Nat), i + n = l.length → (propsL l (l.drop i) i = 0 ↔ ∀ j (h : j < l.length), i ≤ j → propE l j l[j] = 0)
  | 0, i, h => by
    rw [List.drop_eq_nil_of_le (by omega)]
    exact ⟨fun _ j h1 h2 => by omega, fun _ => rfl⟩
  | n + 1, i, h => by
    rw [propsL_lt (by omega : i < l.length)]
    have ih := propsL_iff l n (i + 1) (by omega)
    constructor
    · intro h1 j h2 h3
      split at h1
      · rename_i h4
        by_cases e : j = i
        · subst e; exact h4
        · exact ih.1 h1 j h2 (by omega)
      · rename_i h4
        exact absurd h1 h4
    · intro h1
      rw [if_pos (h1 i (by omega) (Nat.le_refl _))]
      exact ih.2 fun j h2 h3 => h1 j h2 (by omega)
theorem propE_iff {l : List Pr} {i : Nat} (h : i < l.length) : propE l i l[i] = 0 ↔ keyS l[i].key = true ∧ l[i].value.size ≤ 160 ∧ (0 < i → strLess l[i - 1].key l[i].key = true) := by
  unfold propE
  rw [List.getElem?_eq_getElem (by omega : i - 1 < l.length)]
  simp only
  by_cases h1 : keyS l[i].key = true
  · rw [if_pos h1]
    by_cases h2 : 160 < l[i].value.size
    · rw [if_pos h2]
      exact ⟨fun h => absurd h (by decide), fun h => absurd h.2.1 (by omega)⟩
    · rw [if_neg h2]
      by_cases h3 : 0 < i
      · simp only [h3, decide_true, Bool.true_and, leB]
        cases h4 : strLess l[i].key l[i - 1].key with
        | true =>
          simp only [Bool.true_or, if_true]
          exact ⟨fun h => absurd h (by decide), fun h => by rw [strLess_asymm h4] at h; exact absurd (h.2.2 trivial) (by decide)⟩
        | false =>
          by_cases h5 : l[i].key = l[i - 1].key
          · simp only [h5, decide_true, Bool.or_true, if_true]
            exact ⟨fun h => absurd h (by decide), fun h => by rw [strLess_irrefl] at h; exact absurd (h.2.2 trivial) (by decide)⟩
          · simp only [h5, decide_false, Bool.or_false]
            exact ⟨fun _ => ⟨h1, by omega, fun _ => strLess_total h4 h5⟩, fun _ => rfl⟩
      · simp only [h3, decide_false, Bool.false_and]
        exact ⟨fun _ => ⟨h1, by omega, fun h => h.elim⟩, fun _ => rfl⟩
  · rw [if_neg h1]
    exact ⟨fun h => absurd h (by decide), fun h => absurd h.1 h1⟩
theorem canon_iff {l : List Pr} : propsS l = 0 ↔ Canon l := by
  constructor
  · intro h
    have h8 := props_len h
    unfold propsS at h
    rw [if_neg (by omega)] at h
    have h1 := (propsL_iff l l.length 0 (by omega)).1 h
    have h2 : ∀ i (hi : i < l.length), keyS l[i].key = true ∧ l[i].value.size ≤ 160 ∧ (0 < i → strLess l[i - 1].key l[i].key = true) := fun i hi => (propE_iff hi).1 (h1 i hi (Nat.zero_le _))
    refine ⟨h8, fun p hp => ?_, List.pairwise_iff_getElem.2 ?_⟩
    · obtain ⟨i, hi, rfl⟩ := List.getElem_of_mem hp
      exact ⟨(h2 i hi).1, (h2 i hi).2.1⟩
    · have : ∀ (d i : Nat) (h : i + d + 1 < l.length), strLess l[i].key l[i + d + 1].key = true := by
        intro d
        induction d with
        | zero => intro i hi; exact (h2 (i + 1) hi).2.2 (by omega)
        | succ d ih => intro i hi; exact strLess_trans (ih i (by omega)) ((h2 (i + (d + 1) + 1) hi).2.2 (by omega))
      intro i j hi hj hij
      have := this (j - i - 1) i (by omega)
      simpa [show i + (j - i - 1) + 1 = j by omega] using this
  · intro ⟨h8, h1, h2⟩
    unfold propsS
    rw [if_neg (by omega)]
    refine (propsL_iff l l.length 0 (by omega)).2 fun i hi _ => (propE_iff hi).2 ⟨(h1 _ (List.getElem_mem hi)).1, (h1 _ (List.getElem_mem hi)).2, fun h0 => ?_⟩
    exact List.pairwise_iff_getElem.1 h2 (i - 1) i (by omega) hi (by omega)
def ltK (k : ByteArray) (p : Pr) : Bool := strLess p.key k
def gtK (k : ByteArray) (p : Pr) : Bool := !(strLess p.key k || decide (p.key = k))
theorem gtK_iff {k : ByteArray} {p : Pr} : gtK k p = true ↔ strLess k p.key = true := by
  unfold gtK
  constructor
  · intro h
    simp at h
    exact strLess_total h.1 h.2
  · intro h
    have h1 := strLess_asymm h
    have h2 := strLess_ne h
    simp [h1]
    exact fun e => h2 e.symm
theorem setM_true (k v : ByteArray) : ∀ (l : List Pr), (∀ p ∈ l, strLess k p.key = true) → setM k v l true = l ∧ l.filter (ltK k) = [] ∧ l.filter (gtK k) = l
  | [], _ => ⟨rfl, rfl, rfl⟩
  | p :: r, h => by
    obtain ⟨h1, h2, h3⟩ := setM_true k v r fun q hq => h q (List.mem_cons_of_mem _ hq)
    have hp := h p List.mem_cons_self
    have e1 : ltK k p = false := strLess_asymm hp
    have e2 : gtK k p = true := gtK_iff.2 hp
    have e3 : ¬ p.key = k := fun e => strLess_ne hp e.symm
    refine ⟨?_, ?_, ?_⟩
    · rw [setM, if_neg (by simp), if_neg e3, h1]
    · rw [List.filter_cons, e1]; simpa using h2
    · rw [List.filter_cons, e2, h3]; rfl
theorem setM_eq (k v : ByteArray) : ∀ (l : List Pr), (l.Pairwise fun a b => strLess a.key b.key = true) → setM k v l false = l.filter (ltK k) ++ ⟨k, v⟩ :: l.filter (gtK k)
  | [], _ => rfl
  | p :: r, h => by
    rw [List.pairwise_cons] at h
    by_cases h1 : strLess p.key k = true
    · have e1 : ltK k p = true := h1
      have e2 : gtK k p = false := by simp [gtK, h1]
      rw [setM, if_neg (by simp [h1]), if_neg (strLess_ne h1), setM_eq k v r h.2, List.filter_cons, List.filter_cons, e1, e2]
      rfl
    · have h1 : strLess p.key k = false := by simpa using h1
      have e1 : ltK k p = false := h1
      have hr : ∀ q ∈ r, strLess k q.key = true := fun q hq => by
        by_cases e : p.key = k
        · rw [← e]; exact h.1 q hq
        · exact strLess_trans (strLess_total h1 e) (h.1 q hq)
      obtain ⟨r1, r2, r3⟩ := setM_true k v r hr
      rw [setM, if_pos ⟨rfl, h1⟩, List.filter_cons, List.filter_cons, e1, r2, r3, r1]
      by_cases e : p.key = k
      · have e2 : gtK k p = false := by simp [gtK, e]
        rw [if_pos e, e2]
        rfl
      · have e2 : gtK k p = true := by simp [gtK, h1, e]
        rw [if_neg e, e2]
        rfl
/-- What Set makes of a canonical list. -/
theorem set_canon {l : List Pr} {k v : ByteArray} (h : setE l k v = 0) : Canon l ∧ setS l k v = (l.filter (ltK k) ++ ⟨k, v⟩ :: l.filter (gtK k), 0) := by
  have hc : propsS l = 0 := by
    unfold setE at h
    split at h
    · assumption
    · exact h
  have hC := canon_iff.1 hc
  exact ⟨hC, by rw [setS, if_pos h, setM_eq k v l hC.sorted]⟩
end Go.Proofs.Try
