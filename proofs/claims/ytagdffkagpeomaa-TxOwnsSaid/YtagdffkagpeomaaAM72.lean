/- A machine over pure data: part 72: the rest of a body, walked as though it were a call: what it was handed stays where it was. -/
import Derived.Test.YtagdffkagpeomaaAM71
set_option linter.unusedVariables false
set_option linter.unusedSimpArgs false
namespace Go.AM
open Go Go.RowKit

section
variable {c : Ctx} {σ : St} {a : Act} {w : World} {ρ : Env} {O : Nat → Prop} {m : List Id} {is : List Nat}
abbrev ctxW (ρ : Env) (O : Nat → Prop) (w : World) (m : List Id) (is : List Nat) (ds : List Deferred) : Ctx := { ctxX ρ O w m is with dfr := ds }
theorem within_sat (hs : SatAt c σ a w ρ O) {HpC : List Blk} {Hg : List Rw} (hHp : m.map (hk σ) = HpC.map fun b => some (mpB m is b)) (hi : is.map (fun i => hk σ (.loc i)) = Hg.map fun r => some r.blk) (hcl : HpC.all (okmB m.length is.length) = true)
    (hnm : m.Nodup) (hnd : is.Nodup) (hdj : ∀ i ∈ is, Id.loc i ∉ m) {T' : List (Nat × AV)} (hT : ∀ t y, lk T' t = some y → lk σ.T t = some (mp2 m is y) ∧ okm2 m.length is.length y = true) :
    ∃ O', SatAt (ctxW ρ O w m is a.defers) ⟨σ.n, T', rowsH 0 Hg, HpC, Hg.length⟩ a w (envX ρ m is) O' := by
  have h := iniX_of hs hHp hi hcl hnm hnd hdj (ys := []) (as_ := []) (caps := []) (args := #[]) (cvs := #[]) rfl rfl rfl (fun k x v h => by simp at h) rfl (fun k x v h => by simp at h)
  have hex : ∀ i ∈ is, ∃ b, hk σ (.loc i) = some b := by
    intro i him
    have : hk σ (.loc i) ∈ Hg.map fun r => some r.blk := by rw [← hi]; exact List.mem_map_of_mem (f := fun i => hk σ (.loc i)) him
    obtain ⟨b, _, hb⟩ := List.mem_map.1 this
    exact ⟨_, hb.symm⟩
  have hG : ∀ g, GGb ρ is g → O g ∧ g < w.heap.size ∧ Nw c g := fun g ⟨i, him, hg⟩ => by
    obtain ⟨b, hb⟩ := hex i him
    exact hs.H.own (.loc i) _ g hb hg
  have hO : ∀ g, ((ctxX ρ O w m is).O0 g ∨ (ctxX ρ O w m is).G g) → O g := fun g hg => hg.elim (fun h => h.1) (fun h => (hG g h).1)
  have hkp : Keeps O w (fun g => (ctxX ρ O w m is).O0 g ∨ (ctxX ρ O w m is).G g) w := ⟨Nat.le_refl _, fun _ _ _ => rfl, fun k hk => .inl (hO k hk)⟩
  refine ⟨_, rfl, hs.n, h.par, h.fresh, fun t y ht => ?_, ⟨h.H.ok, h.H.own, h.H.inj⟩, ⟨rfl, rfl, rfl, Nat.le_refl _, fun _ _ _ _ => rfl, fun _ h => .inl h, fun k hk => hk.imp id .inr, h.wlt, fun k hk => hk.elim (h.olt k) (fun hk => (h.glt k hk).2), h.olt, h.glt⟩⟩
  obtain ⟨h1, h2⟩ := hT t y ht
  obtain ⟨v, e1, e2⟩ := hs.T t _ h1
  exact ⟨v, e1, ((mp2_iff (envX_eq ρ m is) h2).1 e2).keep (Ext.refl _) hkp⟩
theorem within_fin {n : Nat} {T : List (Nat × AV)} {H : List (Nat × Option Blk)} {Hp : List Blk} {clk : Nat} (hs : SatAt c ⟨n, T, H, Hp, clk⟩ a w ρ O) {HpC : List Blk} {Hg : List Rw} (hHp : m.map (hk ⟨n, T, H, Hp, clk⟩) = HpC.map fun b => some (mpB m is b)) (hi : is.map (fun i => hk ⟨n, T, H, Hp, clk⟩ (.loc i)) = Hg.map fun r => some r.blk)
    (hnm : m.Nodup) (hdj : ∀ i ∈ is, Id.loc i ∉ m) {ds : List Deferred} {σv : St} {a' : Act} {w' : World} {ρv : Env} {Ov : Nat → Prop} (h3 : SatAt (ctxW ρ O w m is ds) σv a' w' ρv Ov) {Hp' : List Blk} {Hr : List Rw} {mm : List Nat} (ho : OutX σv (fun _ _ => True) Hp' Hr mm) (hlen : Hp'.length = m.length) (hcl : Hp'.all (okmB m.length Hr.length) = true)
    {σ2 : St} (hset : asetL ⟨n, T, rowsH clk Hr ++ dropI is H, Hp, clk + Hr.length⟩ (m.zip (Hp'.map (mpB m (iota clk Hr.length)))) = some σ2) : ∃ ρ' O', SatAt c σ2 a w' ρ' O' := by
  have hex : ∀ i ∈ is, ∃ b, hk ⟨n, T, H, Hp, clk⟩ (.loc i) = some b := by
    intro i him
    have : hk ⟨n, T, H, Hp, clk⟩ (.loc i) ∈ Hg.map fun r => some r.blk := by rw [← hi]; exact List.mem_map_of_mem (f := fun i => hk ⟨n, T, H, Hp, clk⟩ (.loc i)) him
    obtain ⟨b, _, hb⟩ := List.mem_map.1 this
    exact ⟨_, hb.symm⟩
  have hmn : ∀ i ∈ m, ∃ b, hk ⟨n, T, H, Hp, clk⟩ i = some b := by
    intro i him
    have : hk ⟨n, T, H, Hp, clk⟩ i ∈ HpC.map fun b => some (mpB m is b) := by rw [← hHp]; exact List.mem_map_of_mem him
    obtain ⟨b, _, hb⟩ := List.mem_map.1 this
    exact ⟨_, hb.symm⟩
  have hf : FinAt (ctxX ρ O w m is) .junk Hp' Hr undef w' (envO (ctxW ρ O w m is ds) ρv mm) Ov := by
    have h := outX_fin h3 ho (r := .junk) (v := undef) (.junk _)
    exact ⟨h.par, h.fresh, ⟨h.H.ok, h.H.own, h.H.inj⟩, ⟨h.F.os, h.F.tape, h.F.output, h.F.size, h.F.same, h.F.mono, h.F.news, h.F.wlt, h.F.olt, h.F.olt0, h.F.glt⟩, h.r⟩
  obtain ⟨f1, f2, f3, f4⟩ := asetL_view (H := H) hlen hnm hset
  exact ⟨_, _, (call_coreX (σ' := σ2) hs hmn hex hdj hnm hf hcl f1 f2 f3 f4).1⟩
end
end Go.AM
