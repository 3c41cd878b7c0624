/- A machine over pure data: part 78: rows whose value has a name: its slot tells the value itself. -/
import Derived.Test.YtagdffkagpeomaaAM77
set_option linter.unusedVariables false
set_option linter.unusedSimpArgs false
namespace Go.AM
open Go Go.RowKit

/-- A row whose value is v. -/
def rowP (v : Value) (e sz : Nat) (xs : List (List D)) : GenP where
  p R u o := u = v ∧ ∃ vs : List Value, (vs.length = xs.length * sz ∧ ((v = .slice none 0 0 ∧ xs.length = 0) ∨ ∃ g cap cur, v = .slice (some ⟨g, 0, none⟩) xs.length cap ∧ 0 ≤ g ∧ o = some (.cells cur e (0, 0)) ∧ xs.length ≤ cap ∧ cap ≤ maxLen ∧ cur.size = cap * sz ∧ cur.toList.take (xs.length * sz) = vs)) ∧
    (∀ x ∈ xs, x.length = sz) ∧ ∀ (j k : Nat) x d, xs[j]? = some x → x[k]? = some d → ∃ u, vs[j * sz + k]? = some u ∧ R d u
  mono R R' u o h := fun ⟨h1, vs, h2, h3, h4⟩ => ⟨h1, vs, h2, h3, fun j k x d a b => by obtain ⟨u, u1, u2⟩ := h4 j k x d a b; exact ⟨u, u1, h _ _ u2⟩⟩
theorem rowP_bok {ρ : Env} {O : Nat → Prop} {w : World} {i : Id} {v : Value} {e sz : Nat} {xs : List (List D)} : BOK ρ O w i (.gen (rowP v e sz xs)) ↔ BOK ρ O w i (.row e sz xs) ∧ ρ i = some v := by
  constructor
  · rintro ⟨u, hi, rfl, vs, ⟨h1, h2⟩, h3, h4⟩
    refine ⟨⟨u, vs, hi, ⟨h1, ?_⟩, h3, h4⟩, hi⟩
    rcases h2 with h2 | ⟨g, cap, cur, rfl, q0, q1, q2⟩
    · exact .inl h2
    · exact .inr ⟨g, cap, cur, rfl, q0, q1, q2⟩
  · rintro ⟨⟨u, vs, hi, ⟨h1, h2⟩, h3, h4⟩, hv⟩
    have e : u = v := by rw [hi] at hv; exact Option.some.inj hv
    subst e
    refine ⟨u, hi, rfl, vs, ⟨h1, ?_⟩, h3, h4⟩
    rcases h2 with h2 | ⟨g, cap, cur, rfl, q0, q1, q2⟩
    · exact .inl h2
    · exact .inr ⟨g, cap, cur, rfl, q0, q1, q2⟩
section
variable {c : Ctx} {a : Act} {w : World} {ρ : Env} {O : Nat → Prop} {n clk : Nat} {T T' : List (Nat × AV)} {H : List (Nat × Option Blk)} {Hp : List Blk}
theorem retell_sat (hs : SatAt c ⟨n, T, H, Hp, clk⟩ a w ρ O) {i : Nat} {b0 b : Blk} (h0 : hk ⟨n, T, H, Hp, clk⟩ (.loc i) = some b0) (hb : BOK ρ O w (.loc i) b) (hT : ∀ t x, lk T' t = some x → ∃ v, a.tmps[t]? = some v ∧ VR ρ O w x v) : SatAt c ⟨n, T', (i, some b) :: H, Hp, clk⟩ a w ρ O := by
  have view : ∀ j b', hk ⟨n, T', (i, some b) :: H, Hp, clk⟩ j = some b' → (j = .loc i ∧ b' = b) ∨ hk ⟨n, T, H, Hp, clk⟩ j = some b' := by
    intro j b' h
    cases j with
    | par k => exact .inr h
    | loc k =>
      by_cases hk' : i = k
      · subst hk'
        simp only [hk, lk_cons_self] at h
        exact .inl ⟨rfl, by cases h; rfl⟩
      · simp only [hk, lk_cons_ne hk'] at h
        exact .inr h
  have old : ∀ j b', hk ⟨n, T', (i, some b) :: H, Hp, clk⟩ j = some b' → ∃ b'', hk ⟨n, T, H, Hp, clk⟩ j = some b'' := fun j b' h => by
    rcases view j b' h with ⟨rfl, rfl⟩ | h
    · exact ⟨_, h0⟩
    · exact ⟨_, h⟩
  refine ⟨hs.defers, hs.n, hs.par, hs.fresh, hT, ⟨fun j b' h => ?_, fun j b' g h hg => ?_, fun j k bj bk g hj hk' => ?_⟩, hs.F⟩
  · rcases view j b' h with ⟨rfl, rfl⟩ | h
    · exact hb
    · exact hs.H.ok j b' h
  · obtain ⟨b'', h'⟩ := old j b' h
    exact hs.H.own j b'' g h' hg
  · obtain ⟨b1, h1⟩ := old j bj hj
    obtain ⟨b2, h2⟩ := old k bk hk'
    exact hs.H.inj j k b1 b2 g h1 h2
theorem named_sat {t i e sz : Nat} {xs : List (List D)} (ht : lk T t = some (.own (.loc i))) (hi : hk ⟨n, T, H, Hp, clk⟩ (.loc i) = some (.row e sz xs)) (hs : SatAt c ⟨n, T, H, Hp, clk⟩ a w ρ O) :
    ∃ v : Value, v.oneCell' = true ∧ SatAt c ⟨n, (t, .d (.one v)) :: T, (i, some (.gen (rowP v e sz xs))) :: H, Hp, clk⟩ a w ρ O := by
  obtain ⟨u, h1, h2⟩ := hs.T t _ ht
  cases h2 with
  | own _ _ h3 h4 =>
    refine ⟨u, h4, retell_sat hs hi (rowP_bok.2 ⟨hs.H.ok _ _ hi, h3⟩) fun s x hx => ?_⟩
    rcases lk_shadow hx with ⟨rfl, rfl⟩ | ⟨_, hx⟩
    · exact ⟨u, h1, .d _ _ (.one _ h4)⟩
    · exact hs.T s x hx
theorem alias_sat {t i e sz : Nat} {v : Value} {xs : List (List D)} (ht : lk T t = some (.d (.one v))) (hi : hk ⟨n, T, H, Hp, clk⟩ (.loc i) = some (.gen (rowP v e sz xs))) (hs : SatAt c ⟨n, T, H, Hp, clk⟩ a w ρ O) :
    SatAt c ⟨n, (t, .own (.loc i)) :: T, H, Hp, clk⟩ a w ρ O := by
  obtain ⟨u, h1, h2⟩ := hs.T t _ ht
  obtain ⟨h5, h6⟩ := rowP_bok.1 (hs.H.ok _ _ hi)
  cases h2 with
  | d _ _ h3 =>
    have hc := h3.oneCell
    cases h3 with
    | one _ _ =>
      refine ⟨hs.defers, hs.n, hs.par, hs.fresh, fun s x hx => ?_, ⟨fun i b hb => hs.H.ok i b (by cases i <;> exact hb), fun i b g hb => hs.H.own i b g (by cases i <;> exact hb), fun i j bi bj g hi hj => hs.H.inj i j bi bj g (by cases i <;> exact hi) (by cases j <;> exact hj)⟩, hs.F⟩
      rcases lk_shadow hx with ⟨rfl, rfl⟩ | ⟨_, hx⟩
      · exact ⟨_, h1, .own _ _ h6 hc⟩
      · exact hs.T s x hx
theorem unname_sat {i e sz : Nat} {v : Value} {xs : List (List D)} (hi : hk ⟨n, T, H, Hp, clk⟩ (.loc i) = some (.gen (rowP v e sz xs))) (hs : SatAt c ⟨n, T, H, Hp, clk⟩ a w ρ O) :
    SatAt c ⟨n, T, (i, some (.row e sz xs)) :: H, Hp, clk⟩ a w ρ O := retell_sat hs hi (rowP_bok.1 (hs.H.ok _ _ hi)).1 hs.T
end
section
variable {P : Program} {code : Code} {Q : Exit → St → Prop} {n clk : Nat} {T : List (Nat × AV)} {H : List (Nat × Option Blk)} {Hp : List Blk} {l rest : List Oper}
/-- A row's value gets a name. -/
theorem AW.named (t i : Nat) {e sz : Nat} {xs : List (List D)} (ht : lk T t = some (.own (.loc i))) (hi : hk ⟨n, T, H, Hp, clk⟩ (.loc i) = some (.row e sz xs)) (h : ∀ v : Value, v.oneCell' = true → AW P code Q ⟨n, (t, .d (.one v)) :: T, (i, some (.gen (rowP v e sz xs))) :: H, Hp, clk⟩) : AW P code Q ⟨n, T, H, Hp, clk⟩ := by
  rintro c a w ⟨ρ, O, hs⟩
  obtain ⟨v, hv, hs'⟩ := named_sat ht hi hs
  exact h v hv c a w ⟨ρ, O, hs'⟩
theorem AL.named (t i : Nat) {e sz : Nat} {xs : List (List D)} (ht : lk T t = some (.own (.loc i))) (hi : hk ⟨n, T, H, Hp, clk⟩ (.loc i) = some (.row e sz xs)) (h : ∀ v : Value, v.oneCell' = true → AL P l Q rest ⟨n, (t, .d (.one v)) :: T, (i, some (.gen (rowP v e sz xs))) :: H, Hp, clk⟩) : AL P l Q rest ⟨n, T, H, Hp, clk⟩ := by
  rintro c a w ⟨ρ, O, hs⟩
  obtain ⟨v, hv, hs'⟩ := named_sat ht hi hs
  exact h v hv c a w ⟨ρ, O, hs'⟩
theorem AW.alias (t i : Nat) {e sz : Nat} {v : Value} {xs : List (List D)} (ht : lk T t = some (.d (.one v))) (hi : hk ⟨n, T, H, Hp, clk⟩ (.loc i) = some (.gen (rowP v e sz xs))) (h : AW P code Q ⟨n, (t, .own (.loc i)) :: T, H, Hp, clk⟩) : AW P code Q ⟨n, T, H, Hp, clk⟩ := AW.imp (fun c a w ⟨ρ, O, hs⟩ => ⟨ρ, O, alias_sat ht hi hs⟩) h
theorem AL.alias (t i : Nat) {e sz : Nat} {v : Value} {xs : List (List D)} (ht : lk T t = some (.d (.one v))) (hi : hk ⟨n, T, H, Hp, clk⟩ (.loc i) = some (.gen (rowP v e sz xs))) (h : AL P l Q rest ⟨n, (t, .own (.loc i)) :: T, H, Hp, clk⟩) : AL P l Q rest ⟨n, T, H, Hp, clk⟩ := AL.imp (fun c a w ⟨ρ, O, hs⟩ => ⟨ρ, O, alias_sat ht hi hs⟩) h
theorem AW.unname (i : Nat) {e sz : Nat} {v : Value} {xs : List (List D)} (hi : hk ⟨n, T, H, Hp, clk⟩ (.loc i) = some (.gen (rowP v e sz xs))) (h : AW P code Q ⟨n, T, (i, some (.row e sz xs)) :: H, Hp, clk⟩) : AW P code Q ⟨n, T, H, Hp, clk⟩ := AW.imp (fun c a w ⟨ρ, O, hs⟩ => ⟨ρ, O, unname_sat hi hs⟩) h
theorem AL.unname (i : Nat) {e sz : Nat} {v : Value} {xs : List (List D)} (hi : hk ⟨n, T, H, Hp, clk⟩ (.loc i) = some (.gen (rowP v e sz xs))) (h : AL P l Q rest ⟨n, T, (i, some (.row e sz xs)) :: H, Hp, clk⟩) : AL P l Q rest ⟨n, T, H, Hp, clk⟩ := AL.imp (fun c a w ⟨ρ, O, hs⟩ => ⟨ρ, O, unname_sat hi hs⟩) h
end
end Go.AM
