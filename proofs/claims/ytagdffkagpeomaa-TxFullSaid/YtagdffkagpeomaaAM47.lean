/- A machine over pure data: part 47: nil slices in what a call returns. -/
import Derived.Test.YtagdffkagpeomaaAM46
set_option linter.unusedVariables false
set_option linter.unusedSimpArgs false
namespace Go.AM
open Go Go.RowKit

def nd3 : AV → AV
  | .tup xs => .tup (xs.map nd2)
  | x => nd2 x
theorem nd3_vr {ρ : Env} {O : Nat → Prop} {w : World} {x : AV} {v : Value} (h : VR ρ O w x v) : VR ρ O w (nd3 x) v := by
  cases x with
  | tup l =>
    cases h with
    | tup _ vs hl hc =>
      refine .tup _ vs (by simpa using hl) fun k y v hy hv => ?_
      rw [List.getElem?_map, Option.map_eq_some_iff] at hy
      obtain ⟨z, hz, rfl⟩ := hy
      exact nd2_vr (hc k z v hz hv)
  | _ => exact nd2_vr h
theorem ACallPR.nilR {P : Program} {f : FuncId} {ys : List AV} {r : AV} (h : ACallPR P f ys fun r' => nd3 r' = r) : ACallP P f ys r := by
  refine ⟨h.1, fun c vs hi => (h.2 c vs hi).mono ?_⟩
  rintro e' w' ⟨r', Hp', Hr, v, ρ, O, ⟨rfl, rfl⟩, he, hf⟩
  exact ⟨_, _, _, v, ρ, O, ⟨rfl, rfl⟩, he, hf.par, hf.fresh, hf.H, hf.F, nd3_vr hf.r⟩
end Go.AM
