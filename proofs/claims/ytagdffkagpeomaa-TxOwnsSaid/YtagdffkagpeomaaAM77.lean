/- A machine over pure data: part 77: in regions that draw their order, a call handed blocks that it leaves as they were, which answers a fresh row. -/
import Derived.Test.YtagdffkagpeomaaAM76
set_option linter.unusedVariables false
set_option linter.unusedSimpArgs false
namespace Go.AM
open Go Go.RowKit

/-- Handed the blocks Hp, which it leaves as they were, the call answers a fresh row. -/
def ACallNO (P : Program) (f : FuncId) (args : List AV) (Hp : List Blk) (e sz : Nat) (xs : List (List D)) : Prop := ACalls P f args Hp fun r Hp' Hr => (r = .own (.loc 0) ∧ Hr = [⟨e, sz, xs⟩]) ∧ Hp' = Hp
theorem ACallNO.dr {P : Program} {f : FuncId} {args : List AV} {Hp : List Blk} {e sz : Nat} {xs : List (List D)} (h : ACallNO P f args Hp e sz xs) (hb : Hp.all blkC = true) : ACalls P f args Hp fun r' Hp' Hr => (r' = .d (.row xs) ∧ Hr = []) ∧ Hp' = Hp := by
  refine ⟨h.1, fun c vs hi => (h.2 c vs hi).mono ?_⟩
  rintro e w' ⟨r, Hp', Hr, v, ρ, O, ⟨⟨rfl, rfl⟩, rfl⟩, rfl, hf⟩
  have hF := hf.F
  have hv := dr2_vr hf hf.r (fun i => match i with | .par k => c.ρp k | .loc _ => none)
  refine ⟨.d (.row xs), Hp', [], v, fun i => match i with | .par k => c.ρp k | .loc _ => none, c.O0, ⟨⟨rfl, rfl⟩, rfl⟩, rfl, ⟨fun k => rfl, fun k _ => rfl, ⟨fun i b hb' => ?_, fun i b g hb' hg => ?_, fun i j bi bj g hi hj hgi hgj => ?_⟩, ?_, hv⟩⟩
  · cases i with
    | loc k => simp [hk, finS, rowsH, lk] at hb'
    | par k =>
      have hb' : Hp'[k]? = some b := hb'
      have := hf.H.ok (.par k) b hb'
      have h1 := blkC_bok (ρ' := fun i => match i with | .par k => c.ρp k | .loc _ => none) (i' := .par k) (hf.par k) (List.all_eq_true.1 hb b (List.mem_of_getElem? hb')) this
      exact h1.keep (Ext.refl _) ⟨Nat.le_refl _, fun _ _ _ => rfl, fun k hk => .inl (hF.mono k hk)⟩ (fun _ _ => rfl)
  · cases i with
    | loc k => simp [hk, finS, rowsH, lk] at hb'
    | par k =>
      have h1 := hf.H.own (.par k) b g hb' (by rw [hf.par]; exact hg)
      exact ⟨(hF.wlt g h1.2.2).1, h1.2.1, h1.2.2⟩
  · cases i with
    | loc k => simp [hk, finS, rowsH, lk] at hi
    | par k =>
      cases j with
      | loc k => simp [hk, finS, rowsH, lk] at hj
      | par k' => exact hf.H.inj (.par k) (.par k') bi bj g hi hj (by rw [hf.par]; exact hgi) (by rw [hf.par]; exact hgj)
  · exact ⟨hF.os, hF.tape, hF.output, hF.size, hF.same, fun k hk => hk, fun k hk => .inl hk, hF.wlt, fun k hk => hF.olt k (hF.mono k hk), hF.olt0, hF.glt⟩
section
variable {P : Program} {l rest : List Oper} {Q : Exit → St → Prop} {n d clk q : Nat} {T : List (Nat × AV)} {H : List (Nat × Option Blk)} {Hp : List Blk} {x : Operand} {args : Array Operand} {tys : Array TypeId} {ty : TypeId} {pos : String} {aft : Array Edge} {g : Option (Nat × Bool)}
theorem AL.callNO (m : List Id) {HpC : List Blk} {f : FuncId} {caps as_ ys : List AV} {e sz : Nat} {xs : List (List D)} (hc : ACallNO P f ys HpC e sz xs) (hw : wantedA l ⟨some d, .call ⟨.value x, args, tys⟩, ty, pos, aft, g⟩ ⟨n, T, H, Hp, clk⟩ = some true) (hd : Nat.blt d n = true) (hx : ev ⟨n, T, H, Hp, clk⟩ x = some (.fn f caps))
    (ha : aevs ⟨n, T, H, Hp, clk⟩ args.toList some = some as_) (hHp : m.map (hk ⟨n, T, H, Hp, clk⟩) = HpC.map fun b => some (rpB m b)) (hcl : HpC.all (pkB m.length) = true) (hnd : m.Nodup) (hys : ys.map (rp2 m) = as_ ++ caps) (hpk : ys.all (pk2 m.length) = true)
    (h : AL P l Q rest ⟨n, (d, .own (.loc clk)) :: T, (clk, some (.row e sz xs)) :: H, Hp, clk + 1⟩) :
    AL P l Q (⟨some d, .call ⟨.value x, args, tys⟩, ty, pos, aft, g⟩ :: rest) ⟨n, T, H, Hp, clk⟩ := by
  refine AL.callN m (R := fun r Hr => r = .own (.loc 0) ∧ Hr = [⟨e, sz, xs⟩]) hc hw hd hx ha hHp hcl hnd hys hpk (fun r Hr ⟨e1, e2⟩ => ?_)
  subst e1; subst e2
  exact ⟨rfl, h⟩
theorem OSp.callNO (m : List Id) {HpC : List Blk} {f : FuncId} {caps as_ ys : List AV} {e sz : Nat} {xs : List (List D)} (hc : ACallNO P f ys HpC e sz xs) (hw : wantedA l ⟨some d, .call ⟨.value x, args, tys⟩, ty, pos, aft, g⟩ ⟨n, T, H, Hp, clk⟩ = some true) (hd : Nat.blt d n = true) (hx : ev ⟨n, T, H, Hp, clk⟩ x = some (.fn f caps))
    (ha : aevs ⟨n, T, H, Hp, clk⟩ args.toList some = some as_) (hHp : m.map (hk ⟨n, T, H, Hp, clk⟩) = HpC.map fun b => some (rpB m b)) (hcl : HpC.all (pkB m.length) = true) (hnd : m.Nodup) (hys : ys.map (rp2 m) = as_ ++ caps) (hpk : ys.all (pk2 m.length) = true) :
    OSp P l q ⟨some d, .call ⟨.value x, args, tys⟩, ty, pos, aft, g⟩ ⟨n, T, H, Hp, clk⟩ ⟨some (d, .own (.loc q)), [(q, some (.row e sz xs))]⟩ := by
  rintro ⟨n', T', H', Hp', clk'⟩ hl hf
  obtain rfl : n = n' := hl.n
  refine AL.callNO m hc (wantedA_le hl hw) hd (ev_le hl hx) (aevs_le hl ha) ?_ hcl hnd hys hpk (AL.nil ⟨rfl, ?_⟩)
  · rw [← hHp]
    refine List.map_congr_left fun i hi => ?_
    have : hk ⟨n, T, H, Hp, clk⟩ i ∈ HpC.map fun b => some (rpB m b) := by rw [← hHp]; exact List.mem_map_of_mem hi
    obtain ⟨b, _, hb⟩ := List.mem_map.1 this
    rw [← hb]
    exact hl.hk hb.symm
  · exact Fit.swap (b := .row e sz xs) (bl := []) hf sw_own (by simpa [lt2, lt1, ltI] using hf.lt) rfl rfl (fun k b h => by simp [lk] at h)
end
end Go.AM
