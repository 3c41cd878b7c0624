/- lease: the law LeaseKeeps. -/
import Derived.Test.YtlpnpjlnoeacnaaLeaO
import Derived.Test.YtlpnpjlnoeacnaaAM65
import Derived.Test.YtlpnpjlnoeacnaaWk
set_option linter.unusedSimpArgs false
set_option linter.unusedVariables false
namespace Go.Proofs.Try
open Go Go.AM

/-- What a Settle that succeeds does. -/
theorem settle_cases (l : List Le) (a b : Int) (all : Bool) : (∃ p : Le → Bool, settleS l a b all = (l.filter (fun x => !p x), l.filter p, 0) ∧ (∀ x, p x = true → x.own = a ∧ x.tag ≤ b) ∧ (∃ y ∈ l, p y = true ∧ y.tag = b) ∧ (all = false → ∀ x, p x = true → x.tag = b) ∧ (all = true → ∀ x, x.own = a → x.tag ≤ b → p x = true)) ∨ (settleS l a b all).2.2 ≠ 0 := by
  unfold settleS
  split
  · exact .inr (by decide)
  · rename_i h
    obtain ⟨y, hy⟩ := List.exists_mem_of_ne_nil _ h
    obtain ⟨hy1, hy2⟩ := List.mem_filter.1 hy
    simp only [isOne, Bool.and_eq_true, decide_eq_true_eq] at hy2
    cases all with
    | true =>
      rw [if_pos rfl]
      refine .inl ⟨isUp a b, rfl, fun x hx => (by simpa [isUp] using hx), ⟨y, hy1, (by simp [isUp, hy2]), hy2.2⟩, fun h => (by cases h), fun _ x h1 h2 => (by simp [isUp, h1, h2])⟩
    | false =>
      rw [if_neg (by decide)]
      refine .inl ⟨isOne a b, rfl, fun x hx => ?_, ⟨y, hy1, (by simp [isOne, hy2]), hy2.2⟩, fun _ x hx => ?_, fun h => (by cases h)⟩
      · simp only [isOne, Bool.and_eq_true, decide_eq_true_eq] at hx
        exact ⟨hx.1, by omega⟩
      · simp only [isOne, Bool.and_eq_true, decide_eq_true_eq] at hx
        exact hx.2
end Go.Proofs.Try
