/- A machine over pure data: part 76: in regions that draw their order, a call handed blocks that mention one another, which it leaves as they were. -/
import Derived.Test.YtagdffkagpeomaaAM75
set_option linter.unusedVariables false
set_option linter.unusedSimpArgs false
namespace Go.AM
open Go Go.RowKit

section
variable {P : Program} {l : List Oper} {n d clk q : Nat} {T : List (Nat × AV)} {H : List (Nat × Option Blk)} {Hp : List Blk} {x : Operand} {args : Array Operand} {tys : Array TypeId} {ty : TypeId} {pos : String} {aft : Array Edge} {g : Option (Nat × Bool)}
theorem OSp.callN (m : List Id) {HpC : List Blk} {f : FuncId} {caps as_ ys : List AV} {r : D} (hc : ACalls P f ys HpC fun r' Hp' Hr => (r' = .d r ∧ Hr = []) ∧ Hp' = HpC) (hw : wantedA l ⟨some d, .call ⟨.value x, args, tys⟩, ty, pos, aft, g⟩ ⟨n, T, H, Hp, clk⟩ = some true) (hd : Nat.blt d n = true) (hx : ev ⟨n, T, H, Hp, clk⟩ x = some (.fn f caps))
    (ha : aevs ⟨n, T, H, Hp, clk⟩ args.toList some = some as_) (hHp : m.map (hk ⟨n, T, H, Hp, clk⟩) = HpC.map fun b => some (rpB m b)) (hcl : HpC.all (pkB m.length) = true) (hnd : m.Nodup) (hys : ys.map (rp2 m) = as_ ++ caps) (hpk : ys.all (pk2 m.length) = true) :
    OSp P l q ⟨some d, .call ⟨.value x, args, tys⟩, ty, pos, aft, g⟩ ⟨n, T, H, Hp, clk⟩ ⟨some (d, .d r), []⟩ := by
  rintro ⟨n', T', H', Hp', clk'⟩ hl hf
  obtain rfl : n = n' := hl.n
  refine AL.callN m (R := fun r' Hr => r' = .d r ∧ Hr = []) hc (wantedA_le hl hw) hd (ev_le hl hx) (aevs_le hl ha) ?_ hcl hnd hys hpk (fun r' Hr ⟨e1, e2⟩ => ?_)
  · rw [← hHp]
    refine List.map_congr_left fun i hi => ?_
    have : hk ⟨n, T, H, Hp, clk⟩ i ∈ HpC.map fun b => some (rpB m b) := by rw [← hHp]; exact List.mem_map_of_mem hi
    obtain ⟨b, _, hb⟩ := List.mem_map.1 this
    rw [← hb]
    exact hl.hk hb.symm
  · subst e1; subst e2
    exact ⟨rfl, AL.nil ⟨rfl, Imp.refl _⟩⟩
end
end Go.AM
