/- A machine over pure data: part 75: arrays of two numbers built, and compared. -/
import Derived.Test.YtagdffkagpeomaaAM74
set_option linter.unusedVariables false
set_option linter.unusedSimpArgs false
namespace Go.AM
open Go Go.RowKit

section
variable {P : Program} {σ : St} {x y : Operand} {t t2 ty : TypeId} {pos : String} {aft : Array Edge} {g : Option (Nat × Bool)} {ts : List (Nat × TI)} {o : Option Tmp}
theorem zall_len : ∀ {a : List Value} {b : List AV}, zall a b = true → a.length = b.length
  | [], [], _ => rfl
  | x :: a, y :: b, h => by
    simp only [zall, Bool.and_eq_true] at h
    simp [zall_len h.2]
  | [], y :: b, h => by simp [zall] at h
  | x :: a, [], h => by simp [zall] at h
theorem VOp.buildA2 (hT : TOK P ts) {p q : Int} {e s s0 b1 : Nat} {z0 z1' : AV} {z1 : List AV} (hx : ev σ x = some (i64 p) := by rfl) (hy : ev σ y = some (i64 q) := by rfl) (ht : lk ts t = some ⟨.arr 2 e, s, s0, [z0, z1']⟩ := by rfl) (he : lk ts e = some ⟨.int .i64, 1, b1, z1⟩ := by rfl) :
    VOp P σ ⟨o, .build t #[(0, x), (1, y)], ty, pos, aft, g⟩ (.agg [i64 p, i64 q]) := by
  refine VOp.mk fun c ac w ρ O hs => ⟨.agg #[.int .i64 p, .int .i64 q], fun w' _ => ?_, .agg _ _ rfl fun k u v hu hv => ?_⟩
  · have q1 := one_of (ev_sound hs hx)
    have q2 := one_of (ev_sound hs hy)
    obtain ⟨zv, hz, hzl⟩ := (hT.facts ht).zero w'
    have hlen := (zall_sound hzl).1
    have hsz := (hT.facts he).sizeOf w'
    have hun := und_arr hT ht
    generalize hC : zv.cells = C at *
    obtain ⟨L⟩ := C
    match L, hlen with
    | [u0, u1], _ =>
      simp only [execOp, Instr.build, Sem.run_bind, hz, Result.andThen_ok, hC, run_underlying hun, hsz]
      simp [q1, q2, Instr.fill, Value.cells, List.zipIdx]
  · match k with
    | 0 =>
      simp at hu hv
      subst hu; subst hv
      exact .d _ _ (.one _ rfl)
    | 1 =>
      simp at hu hv
      subst hu; subst hv
      exact .d _ _ (.one _ rfl)
    | k + 2 => simp at hu
theorem VOp.neA2 (hT : TOK P ts) {a b c e1 : Int} {e s s0 b1 : Nat} {z z1 : List AV} (hx : ev σ x = some (.agg [i64 a, i64 b]) := by rfl) (hy : ev σ y = some (.agg [i64 c, i64 e1]) := by rfl)
    (ht : lk ts t = some ⟨.arr 2 e, s, s0, z⟩ := by rfl) (he : lk ts e = some ⟨.int .i64, 1, b1, z1⟩ := by rfl) (hE : P.eqGuardType P.depth t = false := by first | rfl | decide +kernel) : VOp P σ ⟨o, .binOp .neq t x y t2, ty, pos, aft, g⟩ (bo (!(decide (a = c) && decide (b = e1)))) := by
  refine VOp.mk fun cc ac w ρ O hs => ⟨.bool (!(decide (a = c) && decide (b = e1))), fun w' _ => ?_, .d _ _ (.one _ rfl)⟩
  have q1 := agg2_of (ev_sound hs hx)
  have q2 := agg2_of (ev_sound hs hy)
  have hue := und_int hT he
  have heq : (Op.equalIn 10000 t (.agg #[.int .i64 a, .int .i64 b]) (.agg #[.int .i64 c, .int .i64 e1])).run P w' = .ok (decide (a = c) && decide (b = e1)) w' := eq2_run (und_arr hT ht) hue (hT.facts he).sizeOf (fun w => by simp [isAgg, run_underlying hue]) 9998 w'
  simp only [execOp, q1, q2]
  have hg : (eqGuard .neq t x y (.agg #[.int .i64 a, .int .i64 b]) (.agg #[.int .i64 c, .int .i64 e1])).run P w' = .ok () w' := run_eqGuard_agg w' .neq t x y _ _ hE
  have hb := run_neq_struct (P := P) w' t #[.int .i64 a, .int .i64 b] #[.int .i64 c, .int .i64 e1]
  rw [heq] at hb
  rw [Sem.run_bind, Sem.run_bind, hg]
  simp only [Result.andThen_ok]
  rw [hb]
  rfl
end
end Go.AM
