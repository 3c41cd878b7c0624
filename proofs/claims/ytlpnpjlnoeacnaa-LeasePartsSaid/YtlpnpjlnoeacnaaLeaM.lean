/- lease: valid lists in plain words; merged. -/
import Derived.Test.YtlpnpjlnoeacnaaLeaK
import Derived.Test.YtlpnpjlnoeacnaaWk
set_option linter.unusedSimpArgs false
set_option linter.unusedVariables false
namespace Go.Proofs.Try
open Go Go.AM

def DistL (a b : Le) : Prop := ¬ (a.queue = b.queue ∧ a.e.num = b.e.num)
structure GoodL (l : List Le) : Prop where
  len : l.length ≤ 4096
  one : ∀ x ∈ l, chk1 x = 0
  ord : l.Pairwise fun a b => a.tag < b.tag
  dis : l.Pairwise DistL
theorem ordS_iff {pre : List Le} (h : pre.Pairwise fun a b => a.tag < b.tag) (t : Int) : ordS pre t = false ↔ ∀ y ∈ pre, y.tag < t := by
  unfold ordS
  split
  · rename_i h0
    simp only [decide_eq_false_iff_not, Int.not_le]
    constructor
    · intro hl y hy
      obtain ⟨i, hi, rfl⟩ := List.mem_iff_getElem.1 hy
      rcases Nat.lt_or_ge i (pre.length - 1) with h1 | h1
      · have := List.pairwise_iff_getElem.1 h i (pre.length - 1) hi (by omega) h1
        omega
      · have : i = pre.length - 1 := by omega
        subst this
        exact hl
    · intro hy
      exact hy _ (List.getElem_mem _)
  · rename_i h0
    have : pre = [] := List.eq_nil_of_length_eq_zero (by omega)
    subst this
    simp
theorem hasS_iff {pre : List Le} {x : Le} : hasS pre x.queue x.e.num = false ↔ ∀ y ∈ pre, DistL y x := by
  unfold hasS DistL
  rw [List.any_eq_false]
  constructor
  · intro h y hy h2
    exact h y hy (by simp [isQ, h2])
  · intro h y hy h2
    exact h y hy (by simpa [isQ] using h2)
theorem GoodL.sub {l l' : List Le} (h : GoodL l) (hs : l'.Sublist l) : GoodL l' :=
  ⟨Nat.le_trans hs.length_le h.len, fun x hx => h.one x (hs.subset hx), h.ord.sublist hs, h.dis.sublist hs⟩
theorem ent27_upd {s : ByteArray} {e : En} (h : ent27 s e 0 1099511627775 = 0) : ent27 s { e with att := e.att + 1 } 1 1099511627776 = 0 := by
  obtain ⟨h1, h2, h3, h4, h5⟩ := ent27_zero h
  have h4' : inS (e.att + 1) 1 1099511627776 = true := by
    unfold inS at h4 ⊢
    simp at h4 ⊢
    omega
  unfold ent27
  rw [if_pos h1, if_pos (by simp [h2, h3, h4']), h5]
/-- What a Give that succeeds knows. -/
theorem give_cases (l : List Le) (tag own : Int) (s : ByteArray) (e : En) :
    (giveS l tag own s e = (l ++ [giveL tag own s e], giveL tag own s e, 0) ∧ inS tag 1 1099511627776 = true ∧ inS own 0 1099511627776 = true ∧ ent27 s e 0 1099511627775 = 0 ∧ ordS l tag = false ∧ hasS l s e.num = false ∧ l.length < 4096) ∨
    ((giveS l tag own s e).2.2 ≠ 0 ∧ (giveS l tag own s e).1 = [] ∧ (giveS l tag own s e).2.1 = zeroL) := by
  unfold giveS
  split
  · rename_i h1
    rw [Bool.and_eq_true] at h1
    split
    · rename_i h2
      split
      · exact .inr ⟨by decide, rfl, rfl⟩
      · rename_i h3
        split
        · exact .inr ⟨by decide, rfl, rfl⟩
        · rename_i h4
          split
          · exact .inr ⟨by decide, rfl, rfl⟩
          · rename_i h5
            exact .inl ⟨rfl, h1.1, h1.2, h2, by simpa using h3, by simpa using h4, by omega⟩
    · rename_i h2
      exact .inr ⟨h2, rfl, rfl⟩
  · exact .inr ⟨by decide, rfl, rfl⟩
theorem give_good {l : List Le} {tag own : Int} {s : ByteArray} {e : En} (h : GoodL l) (h0 : (giveS l tag own s e).2.2 = 0) : giveS l tag own s e = (l ++ [giveL tag own s e], giveL tag own s e, 0) ∧ GoodL (l ++ [giveL tag own s e]) := by
  rcases give_cases l tag own s e with ⟨e1, h1, h2, h3, h4, h5, h6⟩ | ⟨h1, _⟩
  · refine ⟨e1, ⟨by simp; omega, fun x hx => ?_, List.pairwise_append.2 ⟨h.ord, by simp, fun y hy z hz => ?_⟩, List.pairwise_append.2 ⟨h.dis, by simp, fun y hy z hz => ?_⟩⟩⟩
    · rcases List.mem_append.1 hx with hx | hx
      · exact h.one x hx
      · rw [List.mem_singleton.1 hx]
        unfold chk1 giveL
        rw [if_pos (by simp [h1, h2]; decide)]
        exact ent27_upd h3
    · rw [List.mem_singleton.1 hz]
      exact (ordS_iff h.ord tag).1 h4 y hy
    · rw [List.mem_singleton.1 hz]
      exact (hasS_iff (x := giveL tag own s e)).1 h5 y hy
  · exact absurd h0 h1
end Go.Proofs.Try
