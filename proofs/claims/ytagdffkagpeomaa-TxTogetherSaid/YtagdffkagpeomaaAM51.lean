/- A machine over pure data: part 51: in a region that draws its order: a call that is given two rows for good; a window's, a queue's row. -/
import Derived.Test.YtagdffkagpeomaaAM50
set_option linter.unusedVariables false
set_option linter.unusedSimpArgs false
namespace Go.AM
open Go Go.RowKit

section
variable {P : Program} {l rest : List Oper} {Q : Exit → St → Prop} {q n d clk : Nat} {T : List (Nat × AV)} {H : List (Nat × Option Blk)} {Hp : List Blk} {x y : Operand} {args : Array Operand} {t t2 ty : TypeId} {tys : Array TypeId} {pos : String} {aft : Array Edge} {g : Option (Nat × Bool)}

theorem OSp.callG2 (hw : wantedA l ⟨some d, .call ⟨.value x, args, tys⟩, ty, pos, aft, g⟩ ⟨n, T, H, Hp, clk⟩ = some true) (hd : Nat.blt d n = true) {f : FuncId} {caps as_ ys : List AV} (hx : ev ⟨n, T, H, Hp, clk⟩ x = some (.fn f caps))
    (ha : aevs ⟨n, T, H, Hp, clk⟩ args.toList some = some as_) {r1 r2 r3 : Rw} (hc : ACallsG P f ys [r1, r2] fun r Hp' Hr => (r = .own (.loc 0) ∧ Hr = [r3]) ∧ Hp' = []) {i j : Nat} (hys : ys.map (tk1 [i, j]) = as_ ++ caps) (hpk : ys.all (tkOk 2) = true)
    (hi : hk ⟨n, T, H, Hp, clk⟩ (.loc i) = some r1.blk) (hj : hk ⟨n, T, H, Hp, clk⟩ (.loc j) = some r2.blk) (hij : Nat.beq i j = false) :
    OSp P l q ⟨some d, .call ⟨.value x, args, tys⟩, ty, pos, aft, g⟩ ⟨n, T, H, Hp, clk⟩ ⟨some (d, .own (.loc q)), [(q, some r3.blk), (i, none), (j, none)]⟩ := by
  rintro ⟨n', T', H', Hp', clk'⟩ hl hf
  obtain rfl : n = n' := hl.n
  have hne : i ≠ j := fun e => by subst e; simp at hij
  refine AL.callGn (wantedA_le hl hw) hd (ev_le hl hx) (aevs_le hl ha) [i, j] (Hg := [r1, r2]) (by simp [hl.hk hi, hl.hk hj]) (by simp [hne]) hys hpk (R := fun r Hr => r = .own (.loc 0) ∧ Hr = [r3]) hc (fun r Hr ⟨h1, h2⟩ => ?_)
  subst h1; subst h2
  refine ⟨rfl, AL.nil ⟨rfl, ?_⟩⟩
  exact Fit.swap (b := r3.blk) (bl := [(i, none), (j, none)]) hf sw_own (by simpa [lt2, lt1, ltI] using hf.lt) rfl rfl (fun k b h => by
    rcases lk_shadow h with ⟨rfl, rfl⟩ | ⟨_, h⟩
    · rfl
    · rcases lk_shadow h with ⟨rfl, rfl⟩ | ⟨_, h⟩
      · rfl
      · simp [lk] at h)
end
end Go.AM
