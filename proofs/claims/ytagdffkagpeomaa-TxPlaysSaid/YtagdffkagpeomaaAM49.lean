/- A machine over pure data: part 49: a region that draws its order, its blocks told by plain numbers. -/
import Derived.Test.YtagdffkagpeomaaAM48
set_option linter.unusedVariables false
set_option linter.unusedSimpArgs false
namespace Go.AM
open Go Go.RowKit

theorem AW.anyN {P : Program} {Q : Exit → St → Prop} {l : List Oper} {n clk : Nat} {T0 : List (Nat × AV)} {H0 : List (Nat × Option Blk)} {Hp : List Blk} {id : Nat} (hm : P.follows .mixedOrders = true) (D HT HH : List (List Nat)) (M : List (Nat × Nat)) (c0 top : Nat) (h0 : clk = c0) (ht : c0 + l.length = top) (hc : chk l c0 D HT HH M = true) (hb : base c0 T0 H0 = true) (hp : ∀ b ∈ Hp, LFB b)
    (h : AR P l Q n T0 H0 Hp c0 top D HT HH M 0 l []) : AW P (.region id l.toArray true) Q ⟨n, T0, H0, Hp, clk⟩ := by
  subst h0; subst ht
  exact AW.any hm D HT HH M hc hb hp h
end Go.AM
