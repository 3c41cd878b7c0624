/- A machine over pure data: part 53: in a region that draws its order: an element of a row of the call's own. -/
import Derived.Test.YtagdffkagpeomaaAM52
set_option linter.unusedVariables false
set_option linter.unusedSimpArgs false
namespace Go.AM
open Go Go.RowKit

section
variable {P : Program} {l rest : List Oper} {Q : Exit → St → Prop} {q n d clk : Nat} {T : List (Nat × AV)} {H : List (Nat × Option Blk)} {Hp : List Blk} {x y : Operand} {t t2 ty : TypeId} {tys : Array TypeId} {pos : String} {aft : Array Edge} {g : Option (Nat × Bool)} {ts : List (Nat × TI)}

theorem OSp.idxO (hT : TOK P ts) (hw : wantedA l ⟨some d, .indexAddr t x y, ty, pos, aft, g⟩ ⟨n, T, H, Hp, clk⟩ = some true) (hd : Nat.blt d n = true) {id : Id} {e sz : Nat} {xs : List (List D)} (hx : ev ⟨n, T, H, Hp, clk⟩ x = some (.own id))
    (hid : hk ⟨n, T, H, Hp, clk⟩ id = some (.row e sz xs)) {k : IntKind} {i : Nat} (hy : ev ⟨n, T, H, Hp, clk⟩ y = some (.d (.one (.int k (i : Int))))) {e' s b : Nat} {z : List AV} (ht : lk ts t = some ⟨.slice e', s, b, z⟩) {ie : TI} (he : lk ts e' = some ie)
    (hsz : Nat.beq ie.size sz = true) (h1 : i < xs.length) : OSp P l q ⟨some d, .indexAddr t x y, ty, pos, aft, g⟩ ⟨n, T, H, Hp, clk⟩ ⟨some (d, .rptr id sz i 0), []⟩ := by
  rintro ⟨n', T', H', Hp', clk'⟩ hl hf
  obtain rfl : n = n' := hl.n
  exact AL.idxON hT (wantedA_le hl hw) hd (ev_le hl hx) (hl.hk hid) (ev_le hl hy) ht he hsz h1 (AL.nil ⟨rfl, Imp.refl _⟩)
theorem OSp.loadR (hT : TOK P ts) (hw : wantedA l ⟨some d, .load t x, ty, pos, aft, g⟩ ⟨n, T, H, Hp, clk⟩ = some true) (hd : Nat.blt d n = true) {id : Id} {e sz j f : Nat} {α : Type} {fn : α → List D} {xs : List α} (hx : ev ⟨n, T, H, Hp, clk⟩ x = some (.rptr id sz j f))
    (hid : hk ⟨n, T, H, Hp, clk⟩ id = some (.row e sz (xs.map fn))) (hj : j < xs.length) {v : AV} (hv : (dropK (fn (xs[j]'hj)) f fun r => aload ts ⟨n, T, H, Hp, clk⟩ t (.eptr r)) = some v) : OSp P l q ⟨some d, .load t x, ty, pos, aft, g⟩ ⟨n, T, H, Hp, clk⟩ ⟨some (d, v), []⟩ := by
  rintro ⟨n', T', H', Hp', clk'⟩ hl hf
  obtain rfl : n = n' := hl.n
  exact AL.loadRM hT (wantedA_le hl hw) hd (ev_le hl hx) (hl.hk hid) hj hv (AL.nil ⟨rfl, Imp.refl _⟩)
end
end Go.AM
