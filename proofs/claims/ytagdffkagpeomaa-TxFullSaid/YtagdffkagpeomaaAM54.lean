/- A machine over pure data: part 54: the place of a byte in a string (the entry behind strings.IndexByte). -/
import Derived.Test.YtagdffkagpeomaaAM53
import Derived.Lib.Bytealg
import Derived.Laws.Externs
set_option linter.unusedVariables false
set_option linter.unusedSimpArgs false
namespace Go.AM
open Go Go.RowKit

/-- Where a byte stands first, or -1. -/
def idxB (s : ByteArray) (c : Int) : Int := Lib.indexByte s.data.toList c.toNat.toUInt8
section
variable {P : Program} {x y : Operand} {tys : Array TypeId} {ty : TypeId} {pos : String} {aft : Array Edge} {g : Option (Nat × Bool)}
theorem VOp.idxB {o : Option Tmp} {σ : St} {a : ByteArray} {b : Int} {c : Operand} {f : FuncId} {fn : Func} (hc : ev σ c = some (.fn f [])) (hf : P.funcs[f]? = some fn) (h1 : (fn.name == "runtime.NumGoroutine") = false) (h2 : fn.body.isNone = true)
    (h3 : Extern.findNext fn = none) (h4 : Extern.find fn = some Extern.BytealgIndexByte.indexByte) (hx : ev σ x = some (st a)) (hy : ev σ y = some (u8 b)) :
    VOp P σ ⟨o, .call ⟨.value c, #[x, y], tys⟩, ty, pos, aft, g⟩ (i64 (idxB a b)) :=
  VOp.mk fun _ ac w _ _ hs => ⟨.int .i64 (AM.idxB a b), fun w' _ => by
    have e1 := one_of (ev_sound hs hx)
    have e2 := one_of (ev_sound hs hy)
    have e3 := ev_sound hs hc
    generalize hq : ac.eval c = q at e3
    cases e3 with
    | fn _ _ cvs hl hcv =>
      have : cvs = #[] := Array.eq_empty_of_size_eq_zero (by simpa using hl.symm)
      subst this
      have hrun := run_callFunc_extern hf h1 h2 h3 h4 #[.string a, .int .u8 b] w'
      rw [Lib.run_indexByteString] at hrun
      simp only [Result.andThen] at hrun
      simp [execOp, resolve, hq, e1, e2, Deferred.ofValue, invoke, hrun, AM.idxB], .d _ _ (.one _ rfl)⟩
end
theorem idxL_ge (c : UInt8) : ∀ (l : List UInt8), (0 ≤ Lib.indexByte l c) ↔ c ∈ l
  | [] => by simp [Lib.indexByte]
  | b :: l => by
    have ih := idxL_ge c l
    have h1 := Lib.indexByte_ge l c
    simp only [Lib.indexByte, List.mem_cons, ← ih]
    by_cases hb : b = c
    · simp [hb]
    · have : ¬ c = b := fun e => hb e.symm
      simp only [beq_iff_eq, hb, this, if_false, false_or]
      split <;> omega
end Go.AM
