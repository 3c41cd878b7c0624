/- queue: valid queues in plain words, and what keeps them valid. -/
import Derived.Test.YtlpnpjlnoeacnaaQueG
import Derived.Test.YtlpnpjlnoeacnaaAMD
import Derived.Test.YtlpnpjlnoeacnaaWk
set_option linter.unusedSimpArgs false
set_option linter.unusedVariables false
namespace Go.Proofs.Try
open Go Go.AM

structure GoodQ (q : Qu) : Prop where
  spec : checkSp q.spec = 0
  n1 : 1 ≤ q.next
  n2 : q.next ≤ 1099511627776
  len : q.ready.length ≤ 4352
  ent : ∀ e ∈ q.ready, entryS e q.next = 0
  nd : (q.ready.map (·.num)).Nodup
  srt : Srt q.ready
theorem validRow_zero {q : Qu} {i : Nat} {x : En} : validRow q i x = 0 ↔ entryS x q.next = 0 ∧ x.num ∉ nums q.ready i ∧ (0 < i → precAt q.ready i x = true) := by
  unfold validRow
  by_cases h1 : entryS x q.next = 0
  · rw [if_pos h1]
    by_cases h2 : x.num ∈ nums q.ready i
    · rw [if_pos h2]
      exact ⟨fun h => absurd h (by decide), fun h => absurd h2 h.2.1⟩
    · rw [if_neg h2]
      by_cases h3 : 0 < i ∧ precAt q.ready i x = false
      · rw [if_pos h3]
        exact ⟨fun h => absurd h (by decide), fun h => by rw [h.2.2 h3.1] at h3; cases h3.2⟩
      · rw [if_neg h3]
        refine ⟨fun _ => ⟨h1, h2, fun h => ?_⟩, fun _ => rfl⟩
        cases hc : precAt q.ready i x with
        | true => rfl
        | false => exact absurd ⟨h, hc⟩ h3
  · rw [if_neg h1]
    exact ⟨fun h => absurd h h1, fun h => absurd h.1 h1⟩
theorem validRows_zero {q : Qu} : ∀ {n i : Nat}, i + n ≤ q.ready.length → (validRows q i n = 0 ↔ ∀ j (h : j < q.ready.length), i ≤ j → j < i + n → validRow q j q.ready[j] = 0)
  | 0, i, _ => ⟨fun _ j _ h1 h2 => by omega, fun _ => rfl⟩
  | n + 1, i, hn => by
    have hi : i < q.ready.length := by omega
    rw [validRows, List.getElem?_eq_getElem hi]
    simp only
    have ih := validRows_zero (q := q) (n := n) (i := i + 1) (by omega)
    constructor
    · intro h j hj h1 h2
      split at h
      · rename_i h0
        rcases Nat.eq_or_lt_of_le h1 with rfl | h3
        · exact h0
        · exact ih.1 h j hj h3 (by omega)
      · rename_i h0
        exact absurd h h0
    · intro h
      rw [if_pos (h i hi (Nat.le_refl _) (by omega))]
      exact ih.2 fun j hj h1 h2 => h j hj (by omega) (by omega)
theorem nodupE_iff {l : List En} : (l.map (·.num)).Nodup ↔ ∀ j (h : j < l.length), l[j].num ∉ nums l j := by
  rw [List.Nodup, List.pairwise_iff_getElem]
  constructor
  · intro h j hj hf
    unfold nums at hf
    obtain ⟨f, hf, he⟩ := List.mem_map.1 hf
    obtain ⟨i, hi, rfl⟩ := List.getElem_of_mem hf
    rw [List.length_take] at hi
    have := h i j (by simp; omega) (by simp; omega) (by omega)
    rw [List.getElem_take] at he
    simp only [List.getElem_map] at this
    exact this he
  · intro h i j hi hj hij
    simp only [List.length_map] at hi hj
    have := h j hj
    simp only [List.getElem_map]
    intro e
    exact this (List.mem_map.2 ⟨l[i], List.mem_take_iff_getElem.2 ⟨i, by omega, rfl⟩, e⟩)
theorem srt_iff {l : List En} : Srt l ↔ ∀ j (h : j < l.length), 0 < j → precAt l j l[j] = true := by
  have hp : ∀ j (h : j < l.length) (h0 : 0 < j), precAt l j l[j] = precS (l[j - 1]'(by omega)) l[j] := fun j h h0 => by
    unfold precAt
    rw [List.getElem?_eq_getElem (by omega)]
  constructor
  · intro h j hj h0
    rw [hp j hj h0]
    exact List.pairwise_iff_getElem.1 h (j - 1) j (by omega) hj (by omega)
  · intro h
    have aux : ∀ j (hj : j < l.length) i (hij : i < j), precS (l[i]'(by omega)) l[j] = true := by
      intro j
      induction j with
      | zero => intro hj i hij; omega
      | succ j ih =>
        intro hj i hij
        have h1 := h (j + 1) hj (by omega)
        rw [hp (j + 1) hj (by omega)] at h1
        simp only [Nat.add_sub_cancel] at h1
        rcases Nat.eq_or_lt_of_le (Nat.lt_succ_iff.1 hij) with rfl | h2
        · exact h1
        · exact prec_trans (ih (by omega) i h2) h1
    exact List.pairwise_iff_getElem.2 fun i j hi hj hij => aux j hj i hij
theorem goodQ_iff {q : Qu} : validS q = 0 ↔ GoodQ q := by
  have hvs : validS q = if checkSp q.spec = 0 then (if q.next < 1 ∨ 1099511627776 < q.next then 1 else if 4352 < q.ready.length then 5 else validRows q 0 q.ready.length) else checkSp q.spec := rfl
  rw [hvs]
  have hz := validRows_zero (q := q) (n := q.ready.length) (i := 0) (by omega)
  constructor
  · intro h
    split at h
    · rename_i h1
      split at h
      · exact absurd h (by decide)
      rename_i h2
      split at h
      · exact absurd h (by decide)
      rename_i h3
      have hall := fun j hj => validRow_zero.1 (hz.1 h j hj (Nat.zero_le _) (by omega))
      refine ⟨h1, by omega, by omega, by omega, fun e he => ?_, nodupE_iff.2 fun j hj => (hall j hj).2.1, srt_iff.2 fun j hj h0 => (hall j hj).2.2 h0⟩
      obtain ⟨j, hj, rfl⟩ := List.getElem_of_mem he
      exact (hall j hj).1
    · rename_i h1; exact absurd h h1
  · intro h
    have h1 := h.n1
    have h2 := h.n2
    have h3 := h.len
    rw [if_pos h.spec, if_neg (by omega), if_neg (by omega)]
    exact hz.2 fun j hj _ _ => validRow_zero.2 ⟨h.ent _ (List.getElem_mem hj), nodupE_iff.1 h.nd j hj, fun h0 => srt_iff.1 h.srt j hj h0⟩
theorem entry_ok {e : En} {n : Int} (h : entryS e n = 0) : (1 ≤ e.num ∧ e.num < n) ∧ (0 ≤ e.arr ∧ e.arr ≤ 1099511627776) ∧ (0 ≤ e.att ∧ e.att ≤ 1099511627776) ∧ checkM e.msg = 0 := by
  unfold entryS at h
  split at h
  · rename_i h1; exact ⟨h1.1, h1.2.1, h1.2.2, h⟩
  · exact absurd h (by decide)
theorem entry_up {e : En} {n n' : Int} (h : entryS e n = 0) (hn : n ≤ n') : entryS e n' = 0 := by
  obtain ⟨h1, h2, h3, h4⟩ := entry_ok h
  rw [entryS_in ⟨⟨h1.1, by omega⟩, h2, h3⟩]
  exact h4
theorem spec_ttl {s : Sp} (h : checkSp s = 0) : In s.ttl ∧ 1 ≤ s.max ∧ s.max ≤ 256 := by
  unfold checkSp at h
  split at h
  · split at h
    · exact absurd h (by decide)
    · rename_i h1
      have h1 : (1 ≤ s.max ∧ s.max ≤ 256) ∧ (0 ≤ s.ttl ∧ s.ttl ≤ 1099511627776) ∧ 0 ≤ s.att ∧ s.att ≤ 1099511627776 := Decidable.byContradiction fun hc => h1 hc
      exact ⟨h1.2.1, h1.1⟩
  · exact absurd h (by decide)
theorem GoodQ.inq {q : Qu} (h : GoodQ q) (ho : OkQ q) : InQ q :=
  ⟨ho, h.srt, by have := h.len; omega, by have := h.n1; have := h.n2; omega, (spec_ttl h.spec).1, fun e he => (entry_ok (h.ent e he)).2.1⟩
theorem GoodQ.ne {q : Qu} (h : GoodQ q) : ∀ e ∈ q.ready, e.num ≠ q.next := fun e he => by
  have := (entry_ok (h.ent e he)).1.2
  omega
theorem mem_ins {l : List En} {k : Nat} {e x : En} : x ∈ l.take k ++ [e] ++ l.drop k ↔ x = e ∨ x ∈ l := by
  have : x ∈ l ↔ x ∈ l.take k ++ l.drop k := by rw [List.take_append_drop]
  rw [this]
  simp only [List.mem_append, List.mem_singleton]
  constructor
  · rintro ((h | h) | h)
    · exact .inr (.inl h)
    · exact .inl h
    · exact .inr (.inr h)
  · rintro (h | h | h)
    · exact .inl (.inr h)
    · exact .inl (.inl h)
    · exact .inr h
theorem srt_ins {l : List En} {e : En} (hs : Srt l) (hn : e.num ∉ l.map (·.num)) : Srt (l.take (plS l e) ++ [e] ++ l.drop (plS l e)) := by
  have h1 : ∀ a ∈ l.take (plS l e), precS a e = true := fun a ha => by
    obtain ⟨j, hj, rfl⟩ := List.getElem_of_mem ha
    rw [List.length_take] at hj
    rw [List.getElem_take]
    exact plS_lt _ (by omega)
  have h2 : ∀ a ∈ l.drop (plS l e), precS e a = true := fun a ha => by
    obtain ⟨j, hj, rfl⟩ := List.getElem_of_mem ha
    rw [List.length_drop] at hj
    rw [List.getElem_drop]
    exact prec_total (plS_ge hs _ (by omega)) (fun he => hn (List.mem_map.2 ⟨_, List.getElem_mem _, he⟩))
  have h3 : (l.take (plS l e) ++ l.drop (plS l e)).Pairwise (fun a b => precS a b = true) := by rw [List.take_append_drop]; exact hs
  rw [List.pairwise_append] at h3
  unfold Srt
  rw [List.append_assoc, List.pairwise_append]
  refine ⟨h3.1, List.pairwise_cons.2 ⟨h2, h3.2.1⟩, fun a ha b hb => ?_⟩
  rcases List.mem_cons.1 hb with rfl | hb
  · exact h1 a ha
  · exact h3.2.2 a ha b hb
theorem nd_ins {l : List En} {e : En} {k : Nat} (hs : (l.map (·.num)).Nodup) (hn : e.num ∉ l.map (·.num)) : ((l.take k ++ [e] ++ l.drop k).map (·.num)).Nodup := by
  have h0 : ((l.take k ++ l.drop k).map (·.num)).Nodup := by rw [List.take_append_drop]; exact hs
  have hp : List.Perm ((l.take k ++ [e] ++ l.drop k).map (·.num)) (e.num :: (l.take k ++ l.drop k).map (·.num)) := by
    rw [List.append_assoc, List.map_append, List.map_append, List.map_append]
    exact List.perm_middle
  rw [hp.nodup_iff, List.nodup_cons]
  refine ⟨?_, h0⟩
  rw [List.take_append_drop]
  exact hn
theorem ins_good {q : Qu} {e : En} {n : Int} (h : GoodQ q) (hl : q.ready.length < 4352) (hn : q.next ≤ n) (hn2 : n ≤ 1099511627776) (he : entryS e n = 0) (hm : e.num ∉ q.ready.map (·.num)) : GoodQ { insQ q e with next := n } := by
  have h1 := h.n1
  refine ⟨h.spec, by show 1 ≤ n; omega, hn2, ?_, fun x hx => ?_, nd_ins h.nd hm, srt_ins h.srt hm⟩
  · show (q.ready.take (plS q.ready e) ++ [e] ++ q.ready.drop (plS q.ready e)).length ≤ 4352
    simp
    have := plS_le q.ready e
    omega
  · rcases mem_ins.1 hx with rfl | hx
    · exact he
    · exact entry_up (h.ent x hx) hn
theorem ins_ok {q : Qu} {e : En} (ho : OkQ q) (hm : OkM e.msg) : OkE (insQ q e).ready := fun x hx => by
  rcases mem_ins.1 hx with rfl | hx
  · exact hm
  · exact ho x hx
theorem push_cases (q : Qu) (m : Ms) (now : Int) : (pushS q m now).2 = 0 ∧ checkM m = 0 ∧ In now ∧ q.ready.length < q.spec.max ∧ q.next < 1099511627776 ∧ (pushS q m now).1 = { insQ q ⟨q.next, now, 0, m⟩ with next := q.next + 1 } ∨ (pushS q m now).2 ≠ 0 ∧ (pushS q m now).1 = zeroQ := by
  unfold pushS
  split
  · rename_i h1
    split
    · exact .inr ⟨by decide, rfl⟩
    rename_i h2
    split
    · exact .inr ⟨by decide, rfl⟩
    rename_i h3
    exact .inl ⟨rfl, h1, ⟨by omega, by omega⟩, by omega, by omega, rfl⟩
  · rename_i h1; exact .inr ⟨h1, rfl⟩
theorem push_good {q : Qu} {m : Ms} {now : Int} (h : GoodQ q) (h0 : (pushS q m now).2 = 0) : GoodQ (pushS q m now).1 := by
  rcases push_cases q m now with ⟨_, h1, h2, h3, h4, e⟩ | ⟨h1, _⟩
  · rw [e]
    have hn1 := h.n1
    refine ins_good h (by have := (spec_ttl h.spec).2.2; omega) (by omega) (by omega) ?_ (fun hm => ?_)
    · have he : entryS ⟨q.next, now, 0, m⟩ (q.next + 1) = checkM m := entryS_in ⟨⟨hn1, show q.next < q.next + 1 by omega⟩, h2, show (0 : Int) ≤ 0 by decide, show (0 : Int) ≤ 1099511627776 by decide⟩
      rw [he]
      exact h1
    · obtain ⟨x, hx, he⟩ := List.mem_map.1 hm
      exact h.ne x hx he
  · exact absurd h0 h1
theorem ret_cases (q : Qu) (e : En) : (retS q e).2 = 0 ∧ entryS e q.next = 0 ∧ e.num ∉ q.ready.map (·.num) ∧ q.ready.length < 4352 ∧ (retS q e).1 = insQ q e ∨ (retS q e).2 ≠ 0 ∧ (retS q e).1 = zeroQ := by
  unfold retS
  split
  · rename_i h1
    split
    · exact .inr ⟨by decide, rfl⟩
    rename_i h2
    split
    · exact .inr ⟨by decide, rfl⟩
    rename_i h3
    exact .inl ⟨rfl, h1, h2, by omega, rfl⟩
  · rename_i h1; exact .inr ⟨h1, rfl⟩
theorem ret_good {q : Qu} {e : En} (h : GoodQ q) (h0 : (retS q e).2 = 0) : GoodQ (retS q e).1 := by
  rcases ret_cases q e with ⟨_, h1, h2, h3, h4⟩ | ⟨h1, _⟩
  · rw [h4]
    exact ins_good h h3 (Int.le_refl _) h.n2 h1 h2
  · exact absurd h0 h1
theorem ret_ok {q : Qu} {e : En} (ho : OkQ q) (hm : OkM e.msg) : OkQ (retS q e).1 := by
  rcases ret_cases q e with ⟨_, _, _, _, h4⟩ | ⟨_, h4⟩
  · rw [h4]; exact ins_ok ho hm
  · rw [h4]; intro x hx; simp [zeroQ] at hx
theorem sub_good {q : Qu} {l : List En} (h : GoodQ q) (hs : l.Sublist q.ready) : GoodQ ⟨q.spec, q.next, l⟩ :=
  ⟨h.spec, h.n1, h.n2, Nat.le_trans hs.length_le h.len, fun e he => h.ent e (hs.subset he), (hs.map _).nodup h.nd, List.Pairwise.sublist hs h.srt⟩
end Go.Proofs.Try
