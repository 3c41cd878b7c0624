/- will: the order of wills, valid lists: plain laws. -/
import Derived.Test.YtimdnaholnilmaaWillE
set_option linter.unusedSimpArgs false
set_option linter.unusedVariables false
namespace Go.Proofs.Try
open Go Go.AM

theorem bytesLess_total : ∀ {a b : List UInt8}, Op.bytesLess a b = false → a ≠ b → Op.bytesLess b a = true
  | [], [], _, h => absurd rfl h
  | [], _ :: _, h, _ => by simp [Op.bytesLess] at h
  | _ :: _, [], _, _ => rfl
  | x :: a, y :: b, h, hne => by
    simp only [Op.bytesLess, Bool.or_eq_true, Bool.and_eq_true, decide_eq_true_eq, beq_iff_eq, Bool.or_eq_false_iff, Bool.and_eq_false_iff, decide_eq_false_iff_not] at h ⊢
    obtain ⟨h1, h2⟩ := h
    by_cases he : x = y
    · subst he
      refine .inr ⟨rfl, bytesLess_total ?_ (fun e => hne (by rw [e]))⟩
      rcases h2 with h2 | h2
      · simp at h2
      · exact h2
    · refine .inl ?_
      have : x.toNat ≠ y.toNat := fun e => he (UInt8.toNat_inj.1 e)
      rw [UInt8.lt_iff_toNat_lt] at h1 ⊢
      omega
theorem strLess_total {a b : ByteArray} (h : strLess a b = false) (hne : a ≠ b) : strLess b a = true := by
  refine bytesLess_total h (fun e => hne ?_)
  have h1 : a.data = b.data := by
    have := congrArg List.toArray e
    simpa using this
  cases a; cases b
  simp only at h1
  rw [h1]
theorem befS_total {a b : Du} (h : befS a b = false) (hne : a.client ≠ b.client) : befS b a = true := by
  unfold befS at *
  simp only [Bool.or_eq_true, Bool.and_eq_true, decide_eq_true_eq, Bool.or_eq_false_iff, Bool.and_eq_false_iff, decide_eq_false_iff_not] at *
  obtain ⟨h1, h2⟩ := h
  by_cases he : a.at_ = b.at_
  · refine .inr ⟨he.symm, ?_⟩
    rcases h2 with h2 | h2
    · exact absurd he h2
    · exact strLess_total h2 hne
  · exact .inl (by omega)

abbrev VW (l : List Du) : Prop := (∀ d ∈ l, 0 ≤ d.at_ ∧ d.at_ ≤ 1099511627776) ∧ l.Pairwise (fun a b => befS a b = true) ∧ l.Pairwise (fun a b => a.client ≠ b.client)
theorem VW.sub {l r : List Du} (h : VW l) (hs : r.Sublist l) : VW r := ⟨fun d hd => h.1 d (hs.subset hd), h.2.1.sublist hs, h.2.2.sublist hs⟩
theorem VW.ord {l : List Du} (h : VW l) : Ord l := h.2.1
def okI (l : List Du) (i : Nat) (h : i < l.length) : Prop := (0 ≤ l[i].at_ ∧ l[i].at_ ≤ 1099511627776) ∧ (∀ h0 : 0 < i, befS (l[i - 1]'(by omega)) l[i] = true) ∧ ∀ k (hk : k < i), (l[k]'(by omega)).client ≠ l[i].client
theorem mem_take_get {α : Type} {l : List α} {k i : Nat} (hk : k < i) (hi : i ≤ l.length) : l[k]'(by omega) ∈ l.take i := by
  have : (l.take i)[k]'(by rw [List.length_take]; omega) = l[k]'(by omega) := List.getElem_take
  rw [← this]
  exact List.getElem_mem _
theorem mem_take_ex {α : Type} {l : List α} {i : Nat} {a : α} (h : a ∈ l.take i) : ∃ k, ∃ hk : k < l.length, k < i ∧ a = l[k] := by
  obtain ⟨k, hk, e⟩ := List.getElem_of_mem h
  rw [List.length_take] at hk
  exact ⟨k, by omega, by omega, by rw [← e, List.getElem_take]⟩
theorem vw_succ {l : List Du} {i : Nat} (h : i < l.length) : VW (l.take (i + 1)) ↔ VW (l.take i) ∧ okI l i h := by
  rw [← List.take_append_getElem h]
  constructor
  · rintro ⟨h1, h2, h3⟩
    rw [List.pairwise_append] at h2 h3
    refine ⟨⟨fun d hd => h1 d (List.mem_append_left _ hd), h2.1, h3.1⟩, h1 _ (List.mem_append_right _ (by simp)), fun h0 => ?_, fun k hk => ?_⟩
    · exact h2.2.2 _ (mem_take_get (by omega) (by omega)) _ (by simp)
    · exact h3.2.2 _ (mem_take_get hk (by omega)) _ (by simp)
  · rintro ⟨⟨h1, h2, h3⟩, k1, k2, k3⟩
    refine ⟨fun d hd => ?_, List.pairwise_append.2 ⟨h2, by simp, fun a ha b hb => ?_⟩, List.pairwise_append.2 ⟨h3, by simp, fun a ha b hb => ?_⟩⟩
    · rcases List.mem_append.1 hd with hd | hd
      · exact h1 d hd
      · obtain rfl : d = l[i] := by simpa using hd
        exact k1
    · obtain rfl : b = l[i] := by simpa using hb
      obtain ⟨k, hk, hki, rfl⟩ := mem_take_ex ha
      by_cases e : k = i - 1
      · subst e
        exact k2 (by omega)
      · have h5 := List.pairwise_iff_getElem.1 h2 k (i - 1) (by rw [List.length_take]; omega) (by rw [List.length_take]; omega) (by omega)
        rw [List.getElem_take, List.getElem_take] at h5
        exact befS_trans h5 (k2 (by omega))
    · obtain rfl : b = l[i] := by simpa using hb
      obtain ⟨k, hk, hki, rfl⟩ := mem_take_ex ha
      exact k3 k hki
theorem fil_all {α : Type} {p : α → Bool} : ∀ {l : List α}, (∀ a ∈ l, p a = true) → l.filter p = l := fun h => List.filter_eq_self.2 h
theorem cancel_fil : ∀ {l : List Du}, l.Pairwise (fun a b => a.client ≠ b.client) → ∀ q, cancelS l q = filS l q
  | [], _, q => rfl
  | a :: l, h, q => by
    rw [List.pairwise_cons] at h
    unfold cancelS filS
    by_cases hc : a.client = q
    · subst hc
      rw [List.eraseP_cons_of_pos (by simp), List.filter_cons_of_neg (by simp), fil_all]
      intro b hb
      have := h.1 b hb
      simp [Ne.symm this]
    · rw [List.eraseP_cons_of_neg (by simp [hc]), List.filter_cons_of_pos (by simp [hc])]
      congr 1
      exact cancel_fil h.2 q
theorem has_fil : ∀ (l : List Du) (q : ByteArray), hasS l q = decide ((filS l q).length < l.length)
  | [], q => rfl
  | a :: l, q => by
    have ih := has_fil l q
    have hle := filS_len l q
    unfold hasS filS at *
    by_cases hc : a.client = q
    · rw [List.any_cons, List.filter_cons_of_neg (by simp [hc])]
      simp [hc]
      omega
    · rw [List.any_cons, List.filter_cons_of_pos (by simp [hc]), ih]
      simp [hc]
theorem fil_none {l : List Du} {q : ByteArray} (h : ∀ d ∈ l, d.client ≠ q) : filS l q = l := fil_all (fun d hd => by simp [h d hd])
theorem fil_out (l : List Du) (q : ByteArray) : ∀ d ∈ filS l q, d.client ≠ q := fun d hd => by
  have := (List.mem_filter.1 hd).2
  simpa using this
theorem insS_cons_pos {a x : Du} {r : List Du} (h : befS a x = true) : insS (a :: r) x = a :: insS r x := by
  unfold insS
  rw [List.takeWhile_cons_of_pos (p := fun y => befS y x) h, List.dropWhile_cons_of_pos (p := fun y => befS y x) h]
  rfl
theorem insS_cons_neg {a x : Du} {r : List Du} (h : ¬ befS a x = true) : insS (a :: r) x = x :: a :: r := by
  unfold insS
  rw [List.takeWhile_cons_of_neg (p := fun y => befS y x) h, List.dropWhile_cons_of_neg (p := fun y => befS y x) h]
  rfl
theorem mem_insS {x b : Du} : ∀ {r : List Du}, b ∈ insS r x ↔ b = x ∨ b ∈ r
  | [] => by simp [insS]
  | a :: r => by
    by_cases h : befS a x = true
    · rw [insS_cons_pos h, List.mem_cons, mem_insS (r := r), List.mem_cons]
      constructor
      · rintro (h | h | h) <;> simp [h]
      · rintro (h | h | h) <;> simp [h]
    · rw [insS_cons_neg h, List.mem_cons]
theorem insS_length (r : List Du) (x : Du) : (insS r x).length = r.length + 1 := by
  unfold insS
  rw [List.length_append, List.length_cons, ← Nat.add_assoc, ← List.length_append, List.takeWhile_append_dropWhile]
theorem vw_ins {x : Du} (hx : 0 ≤ x.at_ ∧ x.at_ ≤ 1099511627776) : ∀ {r : List Du}, VW r → (∀ d ∈ r, d.client ≠ x.client) → VW (insS r x)
  | [], _, _ => ⟨fun d hd => by simp [insS] at hd; subst hd; exact hx, by simp [insS], by simp [insS]⟩
  | a :: r, ⟨h1, h2, h3⟩, hc => by
    rw [List.pairwise_cons] at h2 h3
    by_cases h : befS a x = true
    · have ih := vw_ins hx (r := r) ⟨fun d hd => h1 d (List.mem_cons_of_mem _ hd), h2.2, h3.2⟩ (fun d hd => hc d (List.mem_cons_of_mem _ hd))
      rw [insS_cons_pos h]
      refine ⟨fun d hd => ?_, List.pairwise_cons.2 ⟨fun b hb => ?_, ih.2.1⟩, List.pairwise_cons.2 ⟨fun b hb => ?_, ih.2.2⟩⟩
      · rcases List.mem_cons.1 hd with rfl | hd
        · exact h1 _ List.mem_cons_self
        · exact ih.1 d hd
      · rcases mem_insS.1 hb with rfl | hb
        · exact h
        · exact h2.1 b hb
      · rcases mem_insS.1 hb with rfl | hb
        · exact hc a List.mem_cons_self
        · exact h3.1 b hb
    · rw [insS_cons_neg h]
      have hxa : befS x a = true := befS_total (by simpa using h) (hc a List.mem_cons_self)
      refine ⟨fun d hd => ?_, List.pairwise_cons.2 ⟨fun b hb => ?_, List.pairwise_cons.2 h2⟩, List.pairwise_cons.2 ⟨fun b hb => ?_, List.pairwise_cons.2 h3⟩⟩
      · rcases List.mem_cons.1 hd with rfl | hd
        · exact hx
        · exact h1 d hd
      · rcases List.mem_cons.1 hb with rfl | hb
        · exact hxa
        · exact befS_trans hxa (h2.1 b hb)
      · exact fun e => hc b hb e.symm
def refArmS (l : List Du) (q : ByteArray) (w : Wl) (now : Int) : List Du := if w.set_ then insS (filS l q) (dueS q w now) else filS l q
theorem arm_ref {l : List Du} (h : VW l) (q : ByteArray) (w : Wl) (now : Int) : armS l q w now = refArmS l q w now := by
  unfold armS refArmS
  rw [cancel_fil h.2.2]
theorem vw_fil {l : List Du} (h : VW l) (q : ByteArray) : VW (filS l q) := h.sub List.filter_sublist
theorem vw_arm {l : List Du} (h : VW l) {q : ByteArray} {w : Wl} {now : Int} (hn : 0 ≤ now) (hd : 0 ≤ w.delay) : VW (refArmS l q w now) := by
  unfold refArmS
  split
  · refine vw_ins ?_ (vw_fil h q) (fil_out l q)
    unfold dueS
    simp only
    split <;> omega
  · exact vw_fil h q
theorem refArm_length (l : List Du) (q : ByteArray) (w : Wl) (now : Int) : (refArmS l q w now).length ≤ l.length + 1 := by
  unfold refArmS
  have := filS_len l q
  split
  · rw [insS_length]; omega
  · omega
theorem tw_ge {α : Type} {p : α → Bool} : ∀ {l : List α} (h : (l.takeWhile p).length < l.length), p (l[(l.takeWhile p).length]'h) = false
  | [], h => by simp at h
  | a :: l, h => by
    by_cases hp : p a = true
    · have e : (a :: l).takeWhile p = a :: l.takeWhile p := List.takeWhile_cons_of_pos hp
      simp only [e, List.length_cons, List.getElem_cons_succ] at h ⊢
      exact tw_ge (by omega)
    · have e : (a :: l).takeWhile p = [] := List.takeWhile_cons_of_neg hp
      simp only [e, List.length_nil, List.getElem_cons_zero]
      simpa using hp
end Go.Proofs.Try
