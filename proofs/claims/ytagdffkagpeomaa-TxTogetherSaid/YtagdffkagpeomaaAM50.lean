/- A machine over pure data: part 50: maps that tell which numbers were seen. -/
import Derived.Test.YtagdffkagpeomaaAM49
import Derived.MapKept
set_option linter.unusedVariables false
set_option linter.unusedSimpArgs false
namespace Go.AM
open Go Go.RowKit Go.MapKept

/-- The entries of a map that tells which numbers were seen. -/
def mkE : List Int → Nat → List MapEntry
  | [], _ => []
  | x :: r, b => ⟨.int .i64 x, .bool true, b⟩ :: mkE r (b + 1)
def setE (l : List Int) : Array MapEntry := (mkE l 0).toArray
theorem mkE_app : ∀ (l : List Int) (x : Int) (b : Nat), mkE (l ++ [x]) b = mkE l b ++ [⟨.int .i64 x, .bool true, b + l.length⟩]
  | [], x, b => rfl
  | y :: l, x, b => by
    simp only [List.cons_append, mkE, mkE_app l x (b + 1), List.length_cons]
    rw [show b + 1 + l.length = b + (l.length + 1) by omega]
theorem setE_push (l : List Int) (x : Int) : (setE l).push ⟨.int .i64 x, .bool true, l.length⟩ = setE (l ++ [x]) := by
  simp [setE, mkE_app]
theorem setE_find (q : Int) : ∀ (l : List Int) (b i : Nat), (q ∈ l → ∃ j, Instr.findNow (.int .i64) (.int .i64 q) (mkE l b) i = some (some (j, .bool true))) ∧ (q ∉ l → Instr.findNow (.int .i64) (.int .i64 q) (mkE l b) i = some none)
  | [], b, i => ⟨fun h => by simp at h, fun _ => rfl⟩
  | y :: l, b, i => by
    obtain ⟨h1, h2⟩ := setE_find q l (b + 1) (i + 1)
    by_cases e : q = y
    · subst e
      exact ⟨fun _ => ⟨i, by simp [mkE, Instr.findNow, Instr.sameNow]⟩, fun h => by simp at h⟩
    · have hs : Instr.sameNow (.int .i64) (.int .i64 q) (.int .i64 y) = some false := by simp [Instr.sameNow, e]
      refine ⟨fun h => ?_, fun h => ?_⟩
      · obtain ⟨j, hj⟩ := h1 (by simpa [e] using h)
        exact ⟨j, by simp [mkE, Instr.findNow, hs, hj]⟩
      · have := h2 (by simpa [e] using h)
        simp [mkE, Instr.findNow, hs, this]

section
variable {P : Program} {l rest : List Oper} {Q : Exit → St → Prop} {n d clk : Nat} {T : List (Nat × AV)} {H : List (Nat × Option Blk)} {Hp : List Blk} {x y z m k : Operand} {t t2 ty : TypeId} {tys : Array TypeId} {pos : String} {aft : Array Edge} {g : Option (Nat × Bool)} {ts : List (Nat × TI)}

/-- A new map. -/
theorem AL.makeMap (hT : TOK P ts) (h : AL P l Q rest ⟨n, (d, .own (.loc clk)) :: T, (clk, some (.mp (setE []) 0)) :: H, Hp, clk + 1⟩)
    (hw : wantedA l ⟨some d, .makeMap t none, ty, pos, aft, g⟩ ⟨n, T, H, Hp, clk⟩ = some true := by rfl) (hd : Nat.blt d n = true := by rfl) : AL P l Q (⟨some d, .makeMap t none, ty, pos, aft, g⟩ :: rest) ⟨n, T, H, Hp, clk⟩ := by
  refine AL.step (σ' := ⟨n, (d, .own (.loc clk)) :: T, (clk, some (.mp (setE []) 0)) :: H, Hp, clk + 1⟩) hw ?_ h
  rintro c a w ⟨ρ, O, hs⟩ K Q' hK
  have hk0 : Keeps O w (fun k => O k ∨ k = w.heap.size) (w.alloc (.map #[] 0)) := ⟨by simp, fun k hk _ => Below.heap_alloc w _ k hk, fun k hk => by
    rcases hk with hk | hk
    · exact .inl hk
    · exact .inr (by omega)⟩
  have hm := mk_sat hs (.mp (setE []) 0) (.map (some w.heap.size)) (.inl rfl) hk0 (by simp) (fun k hk => Below.heap_alloc w _ k hk) rfl rfl rfl
    ⟨w.heap.size, upd_self _ _ _, heap_alloc_new w _⟩
  unfold Oper.wp
  have hrun : (execOp a.eval ⟨some d, .makeMap t none, ty, pos, aft, g⟩).run P w = .ok (.value (.map (some w.heap.size))) (w.alloc (.map #[] 0)) := rfl
  rw [hrun]
  exact hK _ _ ⟨_, _, put_sat hm (.own (.loc clk) _ (upd_self _ _ _) rfl) (by simp [put, mk, hd])⟩

theorem und_map {t kt et : Nat} {s b : Nat} {z : List AV} (hT : TOK P ts) (ht : lk ts t = some ⟨.map kt et, s, b, z⟩) : P.underlying t = some (.map kt et) := by
  obtain ⟨du, h1, h2⟩ := (hT.facts ht).und
  cases du <;> simp [tkOf] at h2
  rw [h1, h2.1, h2.2]
theorem und_i {t : Nat} {kk : IntKind} {s b : Nat} {z : List AV} (hT : TOK P ts) (ht : lk ts t = some ⟨.int kk, s, b, z⟩) : P.underlying t = some (.int kk) := by
  obtain ⟨du, h1, h2⟩ := (hT.facts ht).und
  cases du <;> simp [tkOf] at h2
  rw [h1, h2]

/-- Whether a number was seen. -/
theorem qv29 (hT : TOK P ts) {o : Option Tmp} {σ : St} {id : Id} {c : Nat} {q : Int} {us : List Int} {kt et s b s1 b1 : Nat} {z z1 : List AV}
    (hx : ev σ x = some (.own id) := by rfl) (hid : hk σ id = some (.mp (setE us) c) := by rfl) (hk : ev σ k = some (i64 q) := by rfl)
    (ht : lk ts t = some ⟨.map kt et, s, b, z⟩ := by rfl) (hkt : lk ts kt = some ⟨.int .i64, s1, b1, z1⟩ := by rfl) (hz : ∃ ti z', P.info? et = some ti ∧ ti.zero = some z' ∧ z' = .bool false := by exact ⟨_, _, rfl, rfl, rfl⟩) : VOp P σ ⟨o, .lookup t x k false, ty, pos, aft, g⟩ (bo (decide (q ∈ us))) := by
  refine VOp.mk fun _ ac w ρ O hs => ⟨.bool (decide (q ∈ us)), fun w' hw' => ?_, .d _ _ (.one _ rfl)⟩
  have e1 := ev_sound hs hx
  have e2 := one_of (ev_sound hs hk)
  obtain ⟨gb, h1, h2⟩ := hs.H.ok id _ hid
  generalize hq : ac.eval x = v at e1
  cases e1 with
  | own _ _ h3 h4 =>
    rw [h1] at h3
    cases h3
    have h2' : w'.heap[gb]? = some (.map (setE us) c) := by
      rw [← h2]
      exact hw'.block gb (Array.getElem?_eq_some_iff.1 h2).1
    have hfind : Instr.findNow (.int .i64) (.int .i64 q) (setE us).toList 0 = some none ∧ q ∉ us ∨ ∃ j, Instr.findNow (.int .i64) (.int .i64 q) (setE us).toList 0 = some (some (j, .bool true)) ∧ q ∈ us := by
      obtain ⟨f1, f2⟩ := setE_find q us 0 0
      by_cases hm : q ∈ us
      · obtain ⟨j, hj⟩ := f1 hm
        exact .inr ⟨j, by simpa [setE] using hj, hm⟩
      · exact .inl ⟨by simpa [setE] using f2 hm, hm⟩
    have hun := und_map hT ht
    have huk := und_int hT hkt
    have hck := run_checkKey (P := P) (w := w') huk (k := .int .i64 q) (show IsKey (.int .i64) (.int .i64 q) from rfl) ((setE us).isEmpty) 9999
    have hzr : (zeroValue et).run P w' = .ok (.bool false) w' := by
      obtain ⟨ti, z', i1, i2, rfl⟩ := hz
      simp [zeroValue, typeInfo, Sem.run, i1, i2]
    rcases hfind with ⟨hf, hm⟩ | ⟨j, hf, hm⟩
    · have hfk := run_findKey (w := w') huk hf
      simp [execOp, hq, e2, Instr.lookup, run_underlying hun, Go.MapKept.run_getObj_map h2', hck, hfk, hzr, Result.andThen, hm]
    · have hfk := run_findKey (w := w') huk hf
      simp [execOp, hq, e2, Instr.lookup, run_underlying hun, Go.MapKept.run_getObj_map h2', hck, hfk, Result.andThen, hm]

/-- A number is seen. -/
theorem AL.addS (hT : TOK P ts) {i : Nat} {q : Int} {us : List Int} {kt et s b s1 b1 : Nat} {z z1 : List AV} (hq : q ∉ us)
    (h : AL P l Q rest ⟨n, T, (i, some (.mp (setE (us ++ [q])) (us.length + 1))) :: H, Hp, clk⟩)
    (hw : wantedA l ⟨none, .mapUpdate t x k (.const (.bool true)), ty, pos, aft, g⟩ ⟨n, T, H, Hp, clk⟩ = some true := by rfl)
    (hx : ev ⟨n, T, H, Hp, clk⟩ x = some (.own (.loc i)) := by rfl) (hid : hk ⟨n, T, H, Hp, clk⟩ (.loc i) = some (.mp (setE us) us.length) := by rfl) (hk : ev ⟨n, T, H, Hp, clk⟩ k = some (i64 q) := by rfl)
    (ht : lk ts t = some ⟨.map kt et, s, b, z⟩ := by rfl) (hkt : lk ts kt = some ⟨.int .i64, s1, b1, z1⟩ := by rfl) :
    AL P l Q (⟨none, .mapUpdate t x k (.const (.bool true)), ty, pos, aft, g⟩ :: rest) ⟨n, T, H, Hp, clk⟩ := by
  refine AL.step (σ' := ⟨n, T, (i, some (.mp (setE (us ++ [q])) (us.length + 1))) :: H, Hp, clk⟩) hw ?_ h
  rintro c' a w ⟨ρ, O, hs⟩ K Q' hK
  obtain ⟨gb, h1, h2⟩ := hs.H.ok (.loc i) _ hid
  have e1 := ev_sound hs hx
  have e2 := one_of (ev_sound hs hk)
  generalize hq' : a.eval x = v at e1
  cases e1 with
  | own _ _ h3 h4 =>
    rw [h1] at h3
    cases h3
    have hsat := chg_sat hs hid (b := .mp (setE (us ++ [q])) (us.length + 1)) (σ' := ⟨n, T, (i, some (.mp (setE (us ++ [q])) (us.length + 1))) :: H, Hp, clk⟩) rfl (g := gb) (w' := { w with heap := w.heap.setIfInBounds gb (.map (setE (us ++ [q])) (us.length + 1)) })
      (by rw [h1]; rfl) (fun k hk => heap_set_ne w gb k _ hk) (by simp) rfl rfl rfl ⟨gb, h1, by have := (Array.getElem?_eq_some_iff.1 h2).1; simp [this]⟩
    have hun := und_map hT ht
    have huk := und_int hT hkt
    have hck := run_checkKey (P := P) (w := w) huk (k := .int .i64 q) (show IsKey (.int .i64) (.int .i64 q) from rfl) false 9999
    have hfk := run_findKey (w := w) huk (show Instr.findNow (.int .i64) (.int .i64 q) (setE us).toList 0 = some none by simpa [setE] using (setE_find q us 0 0).2 hq)
    unfold Oper.wp
    have hev : a.eval (.const (.bool true)) = .bool true := rfl
    have hrun : (execOp a.eval ⟨none, .mapUpdate t x k (.const (.bool true)), ty, pos, aft, g⟩).run P w = .ok .skip { w with heap := w.heap.setIfInBounds gb (.map (setE (us ++ [q])) (us.length + 1)) } := by
      simp [execOp, hq', e2, hev, Instr.mapUpdate, run_underlying hun, Go.MapKept.run_getObj_map h2, hck, hfk, Go.MapKept.run_setObj_map _ h2, Result.andThen, setE_push]
    rw [hrun]
    exact hK _ _ ⟨_, _, hsat⟩
end
end Go.AM
