/- lease: valid lists in plain words; merged. -/
import Derived.Test.YtlpnpjlnoeacnaaLeaK
import Derived.Test.YtlpnpjlnoeacnaaWk
set_option linter.unusedSimpArgs false
set_option linter.unusedVariables false
namespace Go.Proofs.Try
open Go Go.AM

def DistL (a b : Le) : Prop := ¬ (a.queue = b.queue ∧ a.e.num = b.e.num)
structure GoodL (l : List Le) : Prop where
  len : l.length ≤ 4096
  one : ∀ x ∈ l, chk1 x = 0
  ord : l.Pairwise fun a b => a.tag < b.tag
  dis : l.Pairwise DistL
theorem ordS_iff {pre : List Le} (h : pre.Pairwise fun a b => a.tag < b.tag) (t : Int) : ordS pre t = false ↔ ∀ y ∈ pre, y.tag < t := by
  unfold ordS
  split
  · rename_i h0
    simp only [decide_eq_false_iff_not, Int.not_le]
    constructor
    · intro hl y hy
      obtain ⟨i, hi, rfl⟩ := List.mem_iff_getElem.1 hy
      rcases Nat.lt_or_ge i (pre.length - 1) with h1 | h1
      · have := List.pairwise_iff_getElem.1 h i (pre.length - 1) hi (by omega) h1
        omega
      · have : i = pre.length - 1 := by omega
        subst this
        exact hl
    · intro hy
      exact hy _ (List.getElem_mem _)
  · rename_i h0
    have : pre = [] := List.eq_nil_of_length_eq_zero (by omega)
    subst this
    simp
theorem hasS_iff {pre : List Le} {x : Le} : hasS pre x.queue x.e.num = false ↔ ∀ y ∈ pre, DistL y x := by
  unfold hasS DistL
  rw [List.any_eq_false]
  constructor
  · intro h y hy h2
    exact h y hy (by simp [isQ, h2])
  · intro h y hy h2
    exact h y hy (by simpa [isQ] using h2)
theorem chkL_zero : ∀ (l pre : List Le), (pre.Pairwise fun a b => a.tag < b.tag) → pre.Pairwise DistL → (chkL pre l = 0 ↔ (∀ x ∈ l, chk1 x = 0) ∧ ((pre ++ l).Pairwise fun a b => a.tag < b.tag) ∧ (pre ++ l).Pairwise DistL)
  | [], pre, h1, h2 => by simp [chkL, h1, h2]
  | x :: r, pre, h1, h2 => by
    rw [chkL]
    by_cases hx : chk1 x = 0
    · rw [if_pos hx]
      by_cases ho : ordS pre x.tag = true
      · rw [if_pos ho]
        refine ⟨fun h => absurd h (by decide), fun ⟨_, h, _⟩ => ?_⟩
        have := (ordS_iff h1 x.tag).2 (fun y hy => (List.pairwise_append.1 h).2.2 y hy x (by simp))
        rw [this] at ho
        cases ho
      · rw [if_neg ho]
        have ho := (ordS_iff h1 x.tag).1 (by simpa using ho)
        by_cases hh : hasS pre x.queue x.e.num = true
        · rw [if_pos hh]
          refine ⟨fun h => absurd h (by decide), fun ⟨_, _, h⟩ => ?_⟩
          have := hasS_iff.2 (fun y hy => (List.pairwise_append.1 h).2.2 y hy x (by simp))
          rw [this] at hh
          cases hh
        · rw [if_neg hh]
          have hh := hasS_iff.1 (by simpa using hh)
          rw [chkL_zero r (pre ++ [x]) (List.pairwise_append.2 ⟨h1, by simp, fun y hy z hz => by rw [List.mem_singleton.1 hz]; exact ho y hy⟩) (List.pairwise_append.2 ⟨h2, by simp, fun y hy z hz => by rw [List.mem_singleton.1 hz]; exact hh y hy⟩)]
          simp [hx]
    · rw [if_neg hx]
      exact ⟨fun h => absurd h hx, fun ⟨h, _⟩ => absurd (h x (by simp)) hx⟩
theorem goodL_iff {l : List Le} : checkLs l = 0 ↔ GoodL l := by
  unfold checkLs
  split
  · rename_i h
    exact ⟨fun h => absurd h (by decide), fun g => absurd g.len (by omega)⟩
  · rename_i h
    rw [chkL_zero l [] .nil .nil]
    exact ⟨fun ⟨a, b, c⟩ => ⟨by omega, a, b, c⟩, fun g => ⟨g.one, g.ord, g.dis⟩⟩
theorem GoodL.sub {l l' : List Le} (h : GoodL l) (hs : l'.Sublist l) : GoodL l' :=
  ⟨Nat.le_trans hs.length_le h.len, fun x hx => h.one x (hs.subset hx), h.ord.sublist hs, h.dis.sublist hs⟩
theorem ent27_upd {s : ByteArray} {e : En} (h : ent27 s e 0 1099511627775 = 0) : ent27 s { e with att := e.att + 1 } 1 1099511627776 = 0 := by
  obtain ⟨h1, h2, h3, h4, h5⟩ := ent27_zero h
  have h4' : inS (e.att + 1) 1 1099511627776 = true := by
    unfold inS at h4 ⊢
    simp at h4 ⊢
    omega
  unfold ent27
  rw [if_pos h1, if_pos (by simp [h2, h3, h4']), h5]
/-- What a Give that succeeds knows. -/
theorem give_cases (l : List Le) (tag own : Int) (s : ByteArray) (e : En) :
    (giveS l tag own s e = (l ++ [giveL tag own s e], giveL tag own s e, 0) ∧ inS tag 1 1099511627776 = true ∧ inS own 0 1099511627776 = true ∧ ent27 s e 0 1099511627775 = 0 ∧ ordS l tag = false ∧ hasS l s e.num = false ∧ l.length < 4096) ∨
    ((giveS l tag own s e).2.2 ≠ 0 ∧ (giveS l tag own s e).1 = [] ∧ (giveS l tag own s e).2.1 = zeroL) := by
  unfold giveS
  split
  · rename_i h1
    rw [Bool.and_eq_true] at h1
    split
    · rename_i h2
      split
      · exact .inr ⟨by decide, rfl, rfl⟩
      · rename_i h3
        split
        · exact .inr ⟨by decide, rfl, rfl⟩
        · rename_i h4
          split
          · exact .inr ⟨by decide, rfl, rfl⟩
          · rename_i h5
            exact .inl ⟨rfl, h1.1, h1.2, h2, by simpa using h3, by simpa using h4, by omega⟩
    · rename_i h2
      exact .inr ⟨h2, rfl, rfl⟩
  · exact .inr ⟨by decide, rfl, rfl⟩
theorem give_good {l : List Le} {tag own : Int} {s : ByteArray} {e : En} (h : GoodL l) (h0 : (giveS l tag own s e).2.2 = 0) : giveS l tag own s e = (l ++ [giveL tag own s e], giveL tag own s e, 0) ∧ GoodL (l ++ [giveL tag own s e]) := by
  rcases give_cases l tag own s e with ⟨e1, h1, h2, h3, h4, h5, h6⟩ | ⟨h1, _⟩
  · refine ⟨e1, ⟨by simp; omega, fun x hx => ?_, List.pairwise_append.2 ⟨h.ord, by simp, fun y hy z hz => ?_⟩, List.pairwise_append.2 ⟨h.dis, by simp, fun y hy z hz => ?_⟩⟩⟩
    · rcases List.mem_append.1 hx with hx | hx
      · exact h.one x hx
      · rw [List.mem_singleton.1 hx]
        unfold chk1 giveL
        rw [if_pos (by simp [h1, h2]; decide)]
        exact ent27_upd h3
    · rw [List.mem_singleton.1 hz]
      exact (ordS_iff h.ord tag).1 h4 y hy
    · rw [List.mem_singleton.1 hz]
      exact (hasS_iff (x := giveL tag own s e)).1 h5 y hy
  · exact absurd h0 h1
def hdIs (a : List Le) (x : Le) : Bool := match a with
  | y :: _ => eqL y x
  | [] => false
/-- Whether two lists are together a third one, each in its order. -/
def mergedS : List Le → List Le → List Le → Bool
  | a, b, [] => a.isEmpty && b.isEmpty
  | a, b, x :: r => if hdIs a x then mergedS a.tail b r else if hdIs b x then mergedS a b.tail r else false
theorem merged_filter (p : Le → Bool) : ∀ (l : List Le), mergedS (l.filter fun x => !p x) (l.filter p) l = true
  | [] => rfl
  | x :: r => by
    have ih := merged_filter p r
    have hself : ∀ t, hdIs (x :: t) x = true := fun t => eqL_iff.2 rfl
    cases h : p x with
    | false =>
      rw [List.filter_cons_of_pos (by simp [h]), List.filter_cons_of_neg (by simp [h]), mergedS, if_pos (hself _)]
      exact ih
    | true =>
      rw [List.filter_cons_of_neg (by simp [h]), List.filter_cons_of_pos (by simp [h]), mergedS]
      have hne : ¬ hdIs (r.filter fun x => !p x) x = true := by
        intro e
        cases ha : r.filter (fun x => !p x) with
        | nil => rw [ha] at e; cases e
        | cons y a' =>
          rw [ha] at e
          have hy : y ∈ r.filter (fun x => !p x) := by rw [ha]; simp
          have hy2 := (List.mem_filter.1 hy).2
          rw [eqL_iff.1 (show eqL y x = true from e), h] at hy2
          cases hy2
      rw [if_neg hne, if_pos (hself _)]
      exact ih
theorem merged_app (x : Le) : ∀ (l : List Le), mergedS l [x] (l ++ [x]) = true
  | [] => by
    have h : hdIs [x] x = true := eqL_iff.2 rfl
    rw [List.nil_append, mergedS, if_neg (by exact Bool.false_ne_true), if_pos h]
    rfl
  | y :: r => by
    have h : hdIs (y :: r) y = true := eqL_iff.2 rfl
    rw [List.cons_append, mergedS, if_pos h]
    exact merged_app x r
theorem hdIs_drop (a : List Le) (i : Nat) (x : Le) : hdIs (a.drop i) x = if h : i < a.length then eqL a[i] x else false := by
  by_cases h : i < a.length
  · rw [dif_pos h, List.drop_eq_getElem_cons h]
    rfl
  · rw [dif_neg h, List.drop_eq_nil_of_le (by omega)]
    rfl
theorem mergedS_step (a b all : List Le) {i k j : Nat} (hj : j < all.length) : mergedS (a.drop i) (b.drop k) (all.drop j) =
    if (if h : i < a.length then eqL a[i] all[j] else false) then mergedS (a.drop (i + 1)) (b.drop k) (all.drop (j + 1)) else
    if (if h : k < b.length then eqL b[k] all[j] else false) then mergedS (a.drop i) (b.drop (k + 1)) (all.drop (j + 1)) else false := by
  rw [List.drop_eq_getElem_cons hj, mergedS, hdIs_drop, hdIs_drop, List.tail_drop, List.tail_drop]
end Go.Proofs.Try
