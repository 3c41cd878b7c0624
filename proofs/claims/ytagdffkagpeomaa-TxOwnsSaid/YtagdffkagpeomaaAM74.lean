/- A machine over pure data: part 74: regions that draw their order, where what the call was handed names blocks of its own. -/
import Derived.Test.YtagdffkagpeomaaAM73
set_option linter.unusedVariables false
set_option linter.unusedSimpArgs false
namespace Go.AM
open Go Go.RowKit

section
variable {P : Program} {l : List Oper} {Q : Exit → St → Prop} {n clk : Nat} {T0 : List (Nat × AV)} {H0 : List (Nat × Option Blk)} {Hp : List Blk} {D HT HH : List (List Nat)} {M : List (Nat × Nat)}
theorem AW.anyP {id : Nat} (hm : P.follows .mixedOrders = true) (D HT HH : List (List Nat)) (M : List (Nat × Nat)) (hc : chk l clk D HT HH M = true) (hb : base clk T0 H0 = true) (hp : ∀ b ∈ Hp, LFB b ∨ idB (fun k => Nat.blt k clk) b = true)
    (h : AR P l Q n T0 H0 Hp clk (clk + l.length) D HT HH M 0 l []) : AW P (.region id l.toArray true) Q ⟨n, T0, H0, Hp, clk⟩ := by
  have hc := chk_spec hc
  have hg0 : Good P l n T0 H0 Hp clk (clk + l.length) D HT HH M 0 [] := ⟨(fun k e he => by cases he), (fun k e he => by cases he), (fun k hk => by omega), List.nodup_nil, List.Pairwise.nil⟩
  obtain ⟨R, hR, hQ⟩ := AR.good hc.a h (by simp) (by simp) hg0
  rintro c a w ⟨ρ, O, hs⟩
  refine wp_region_any hm ?_
  have hempty : ∀ k, lst (Array.replicate l.length false) k = false := fun k => by
    unfold lst
    rw [Array.getD_eq_getD_getElem?, Array.getElem?_replicate]
    split <;> rfl
  have e1 : sel (lst (Array.replicate l.length false)) slL R T0 = T0 := by
    rw [sel_congr (S' := fun _ => false) (fun k e _ => hempty k)]
    clear hR hQ
    induction R with
    | nil => rfl
    | cons p R ih => obtain ⟨k, e⟩ := p; simpa [sel] using ih
  have e2 : sel (lst (Array.replicate l.length false)) Ef.bl R H0 = H0 := by
    rw [sel_congr (S' := fun _ => false) (fun k e _ => hempty k)]
    clear hR hQ e1
    induction R with
    | nil => rfl
    | cons p R ih => obtain ⟨k, e⟩ := p; simpa [sel] using ih
  have hs' : SatAt c ⟨n, T0, H0, Hp, clk + l.length⟩ a w ρ O := ⟨hs.defers, hs.n, hs.par, fun k hk => hs.fresh k (by simp only at hk ⊢; omega), hs.T, ⟨fun i b hb => hs.H.ok i b (by cases i <;> exact hb), fun i b g hb => hs.H.own i b g (by cases i <;> exact hb), fun i j bi bj g hi hj => hs.H.inj i j bi bj g (by cases i <;> exact hi) (by cases j <;> exact hj)⟩, hs.F⟩
  have := any_go hc hb hp hR hQ c l.length (Array.replicate l.length false) (by simp) (fun k o ho hk => by rw [hempty] at hk; cases hk) (by simp) a { w with drawn := w.drawn + 1 } (by
    unfold stR
    rw [e1, e2]
    exact ⟨ρ, O, sat_below hs' ⟨rfl, rfl, rfl, Nat.le_refl _, fun _ _ => rfl⟩⟩)
  simpa using this

theorem AW.anyX {id : Nat} (hm : P.follows .mixedOrders = true) (D HT HH : List (List Nat)) (M : List (Nat × Nat)) (c1 top : Nat) (h0 : clk = c1) (ht : c1 + l.length = top) (hc : chk l c1 D HT HH M = true) (hb : base c1 T0 H0 = true) (hp : ∀ b ∈ Hp, LFB b ∨ idB (fun k => Nat.blt k c1) b = true)
    (h : AR P l Q n T0 H0 Hp c1 top D HT HH M 0 l []) : AW P (.region id l.toArray true) Q ⟨n, T0, H0, Hp, clk⟩ := by
  subst h0; subst ht
  exact AW.anyP hm D HT HH M hc hb hp h
end
end Go.AM
