/- A machine over pure data: part 71: frames with deferred calls; a variable of one number written from outside. -/
import Derived.Test.YtagdffkagpeomaaAM70
import Derived.Laws.Tables
set_option linter.unusedVariables false
set_option linter.unusedSimpArgs false
namespace Go.AM
open Go Go.RowKit

theorem dfr_sat {c : Ctx} {σ : St} {a : Act} {w : World} {ρ : Env} {O : Nat → Prop} (hs : SatAt c σ a w ρ O) (ds : List Deferred) : SatAt { c with dfr := ds } σ { a with defers := ds } w ρ O :=
  ⟨rfl, hs.n, hs.par, hs.fresh, hs.T, ⟨hs.H.ok, hs.H.own, hs.H.inj⟩, ⟨hs.F.os, hs.F.tape, hs.F.output, hs.F.size, hs.F.same, hs.F.mono, hs.F.news, hs.F.wlt, hs.F.olt, hs.F.olt0, hs.F.glt⟩⟩
theorem dfr_fin {c : Ctx} {ds : List Deferred} {r : AV} {Hp : List Blk} {Hr : List Rw} {v : Value} {w : World} {ρ : Env} {O : Nat → Prop} (h : FinAt { c with dfr := ds } r Hp Hr v w ρ O) : FinAt c r Hp Hr v w ρ O :=
  ⟨h.par, h.fresh, ⟨h.H.ok, h.H.own, h.H.inj⟩, ⟨h.F.os, h.F.tape, h.F.output, h.F.size, h.F.same, h.F.mono, h.F.news, h.F.wlt, h.F.olt, h.F.olt0, h.F.glt⟩, h.r⟩
/-- A variable of one number: its block. -/
theorem box1_block {c : Ctx} {σ : St} {a : Act} {w : World} {ρ : Env} {O : Nat → Prop} (hs : SatAt c σ a w ρ O) {i : Id} {e : TypeId} {x : Int} (hb : hk σ i = some (.box e [i64 x])) : ∃ g, ρ i = some (.pointer (some ⟨g, 0, none⟩)) ∧ w.heap[g]? = some (.cells #[.int .i64 x] e (0, 0)) := by
  obtain ⟨g, vs, h1, h2, h3, h4⟩ := hs.H.ok i _ hb
  obtain ⟨l⟩ := vs
  match l, h3 with
  | [u], _ =>
    have := (h4 0 _ u rfl rfl).1
    rw [one_of this] at h2
    exact ⟨g, h1, h2⟩
/-- It is written. -/
theorem box1_write {c : Ctx} {σ σ' : St} {a : Act} {w : World} {ρ : Env} {O : Nat → Prop} (hs : SatAt c σ a w ρ O) {i : Id} {e : TypeId} {x y : Int} {g : Nat} (hb : hk σ i = some (.box e [i64 x])) (hg : ρ i = some (.pointer (some ⟨g, 0, none⟩))) (hset : aset σ i (.box e [i64 y]) = some σ') : SatAt c σ' a (w.setCell ⟨g, 0, none⟩ (.int .i64 y)) ρ O := by
  obtain ⟨g', h1, h2⟩ := box1_block hs hb
  rw [hg] at h1
  injection h1 with h1
  injection h1 with h1
  injection h1 with h1
  injection h1 with h1
  subst h1
  have hh : ∀ k, (w.setCell ⟨g, 0, none⟩ (.int .i64 y)).heap[k]? = if k = g then some (.cells #[.int .i64 y] e (0, 0)) else w.heap[k]? := by
    intro k
    show (w.heap.modify g _)[k]? = _
    rw [Array.getElem?_modify]
    by_cases hk : g = k
    · subst hk
      simp [h2]
    · rw [if_neg hk, if_neg (fun e => hk e.symm)]
  refine chg_sat hs hb hset (g := g) (by rw [hg]; rfl) (fun k hk => by rw [hh, if_neg hk]) (by show (w.heap.modify g _).size = _; simp) rfl rfl rfl ⟨g, #[.int .i64 y], hg, by rw [hh, if_pos rfl], rfl, fun k u v hu hv => ?_⟩
  match k with
  | 0 =>
    simp at hu hv
    subst hu; subst hv
    exact ⟨.d _ _ (.one _ rfl), rfl⟩
  | k + 1 => simp at hu
end Go.AM
