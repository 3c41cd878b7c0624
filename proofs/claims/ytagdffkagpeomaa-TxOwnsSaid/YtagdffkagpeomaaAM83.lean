/- A machine over pure data: part 83: a loop's rounds, one by one. -/
import Derived.Test.YtagdffkagpeomaaAM82
import Derived.LoopN
set_option linter.unusedVariables false
set_option linter.unusedSimpArgs false
namespace Go.AM
open Go Go.RowKit

def AWR (P : Program) (body : Code) (Q : Exit → St → Prop) : Nat → St → Prop
  | 0, _ => False
  | n + 1, σ => AW P body (thenQ (AWR P body Q n) Q) σ
theorem AWR.sound {P : Program} {body : Code} {Q : Exit → St → Prop} {c : Ctx} : ∀ (n : Nat) (σ : St) (a : Act) (w : World), AWR P body Q n σ → Sat c σ a w → Code.rounds P body (post c Q) n a w
  | 0, _, _, _, h, _ => h.elim
  | n + 1, σ, a, w, h, hs => by
    rw [rounds_succ]
    refine wp_mono (h c a w hs) ?_
    rintro e a' w' ⟨σ', hq, hs'⟩
    cases e with
    | normal => exact AWR.sound n σ' a' w' hq hs'
    | exit id => exact ⟨σ', hq, hs'⟩
    | goto l => exact ⟨σ', hq, hs'⟩
    | ret => exact ⟨σ', hq, hs'⟩
    | panic ch => exact ⟨σ', hq, hs'⟩
    | outgrown => exact ⟨σ', hq, hs'⟩
/-- At most n rounds. -/
theorem AW.loopN (n : Nat) {P : Program} {body : Code} {Q : Exit → St → Prop} {σ : St} (h : AWR P body Q n σ) : AW P (.loop body) Q σ := fun c a w hs => wp_loop_rounds n (AWR.sound n σ a w h hs)
/-- One more round. -/
theorem AW.more {n : Nat} {P : Program} {body : Code} {Q : Exit → St → Prop} {σ : St} (h : ∀ K : St → Prop, (∀ σ', AWR P body Q n σ' → K σ') → AW P body (thenQ K Q) σ) : AWR P body Q (n + 1) σ := h _ fun _ h => h
section
variable {P : Program} {l rest : List Oper} {Q : Exit → St → Prop} {n d clk q : Nat} {T : List (Nat × AV)} {H : List (Nat × Option Blk)} {Hp : List Blk} {x : Operand} {args : Array Operand} {tys : Array TypeId} {ty : TypeId} {pos : String} {aft : Array Edge} {g : Option (Nat × Bool)}
/-- A call that is handed the blocks m, which it leaves as they were; it answers what names no block. -/
theorem AL.callNV (m : List Id) {HpC : List Blk} {f : FuncId} {caps as_ ys : List AV} {r : AV} (hc : ACalls P f ys HpC fun r' Hp' Hr => (r' = r ∧ Hr = []) ∧ Hp' = HpC) (h : AL P l Q rest ⟨n, (d, ren3 [] r) :: T, H, Hp, clk⟩)
    (hw : wantedA l ⟨some d, .call ⟨.value x, args, tys⟩, ty, pos, aft, g⟩ ⟨n, T, H, Hp, clk⟩ = some true := by rfl) (hd : Nat.blt d n = true := by rfl) (hx : ev ⟨n, T, H, Hp, clk⟩ x = some (.fn f caps) := by rfl)
    (ha : aevs ⟨n, T, H, Hp, clk⟩ args.toList some = some as_ := by rfl) (hHp : m.map (hk ⟨n, T, H, Hp, clk⟩) = HpC.map fun b => some (rpB m b) := by rfl) (hcl : HpC.all (pkB m.length) = true := by rfl) (hnd : m.Nodup := by decide) (hys : ys.map (rp2 m) = as_ ++ caps := by rfl) (hpk : ys.all (pk2 m.length) = true := by rfl) (hok : ok3 0 r = true := by rfl) :
    AL P l Q (⟨some d, .call ⟨.value x, args, tys⟩, ty, pos, aft, g⟩ :: rest) ⟨n, T, H, Hp, clk⟩ := by
  refine AL.callN m (R := fun r' Hr => r' = r ∧ Hr = []) hc hw hd hx ha hHp hcl hnd hys hpk (fun r' Hr ⟨e1, e2⟩ => ?_)
  subst e1; subst e2
  exact ⟨hok, h⟩
end
end Go.AM
