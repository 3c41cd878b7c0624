/- A machine over pure data: part 48: nil slices in a cell; a negative number as one without sign. -/
import Derived.Test.YtagdffkagpeomaaAM47
set_option linter.unusedVariables false
set_option linter.unusedSimpArgs false
namespace Go.AM
open Go Go.RowKit

section
variable {P : Program} {l rest : List Oper} {Q : Exit → St → Prop} {n d clk : Nat} {T : List (Nat × AV)} {H : List (Nat × Option Blk)} {Hp : List Blk} {x y lo hi : Operand} {t t2 ty : TypeId} {tys : Array TypeId} {pos : String} {aft : Array Edge} {g : Option (Nat × Bool)} {ts : List (Nat × TI)} {code : Code}

theorem nilB_imp (i : Nat) {e : TypeId} {cs cs' : List AV} (hi : hk ⟨n, T, H, Hp, clk⟩ (.loc i) = some (.box e cs)) (hy : cs.map nd1 = cs') : Imp ⟨n, T, H, Hp, clk⟩ ⟨n, T, (i, some (.box e cs')) :: H, Hp, clk⟩ := by
  refine retell hi fun ρ O w h => ?_
  obtain ⟨g, vs, h1, h2, h3, h4⟩ := h
  subst hy
  refine ⟨g, vs, h1, h2, by simpa using h3, fun k x v hx hv => ?_⟩
  rw [List.getElem?_map, Option.map_eq_some_iff] at hx
  obtain ⟨z, hz, rfl⟩ := hx
  exact ⟨nd1_vr (h4 k z v hz hv).1, (h4 k z v hz hv).2⟩
theorem AW.nilB (i : Nat) {e : TypeId} {cs cs' : List AV} (hi : hk ⟨n, T, H, Hp, clk⟩ (.loc i) = some (.box e cs)) (hy : cs.map nd1 = cs') (h : AW P code Q ⟨n, T, (i, some (.box e cs')) :: H, Hp, clk⟩) : AW P code Q ⟨n, T, H, Hp, clk⟩ := AW.imp (nilB_imp i hi hy) h
theorem AL.nilB (i : Nat) {e : TypeId} {cs cs' : List AV} (hi : hk ⟨n, T, H, Hp, clk⟩ (.loc i) = some (.box e cs)) (hy : cs.map nd1 = cs') (h : AL P l Q rest ⟨n, T, (i, some (.box e cs')) :: H, Hp, clk⟩) : AL P l Q rest ⟨n, T, H, Hp, clk⟩ := AL.imp (nilB_imp i hi hy) h
theorem wrap_neg {a : Int} (h0 : -9223372036854775808 ≤ a) (h1 : a < 0) : IntKind.u64.wrap a = a + 18446744073709551616 := by
  simp only [IntKind.wrap, IntKind.bits, IntKind.signed]
  simp
  omega
theorem qv28 (hT : TOK P ts) {o : Option Tmp} {σ : St} {k' : IntKind} {a : Int} {i1 : TI} {s b : Nat} {z : List AV} (hx : ev σ x = some (.d (.one (.int k' a))) := by rfl) (h1 : lk ts t = some i1 := by rfl) (h2 : lk ts t2 = some ⟨.int .u64, s, b, z⟩ := by rfl) (h3 : -9223372036854775808 ≤ a := by omega) (h4 : a < 0 := by omega) :
    VOp P σ ⟨o, .convert t t2 x, ty, pos, aft, g⟩ (.d (.one (.int .u64 (a + 18446744073709551616)))) := .conv hT hx h1 h2 (wrap_neg h3 h4)
end
end Go.AM
