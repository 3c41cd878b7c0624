/- A machine over pure data: part 61: arrays that are indexed; arrays of five numbers compared; maps from texts to five numbers. -/
import Derived.Test.YtagdffkagpeomaaAMD
import Derived.Laws.StructEq
set_option linter.unusedVariables false
set_option linter.unusedSimpArgs false
namespace Go.AM
open Go Go.RowKit Go.MapKept

/-- Five numbers. -/
structure C5 where
  c0 : Int
  c1 : Int
  c2 : Int
  c3 : Int
  c4 : Int
  deriving DecidableEq
def C5.vals (c : C5) : List Int := [c.c0, c.c1, c.c2, c.c3, c.c4]
def C5.v (c : C5) : Value := .agg #[.int .i64 c.c0, .int .i64 c.c1, .int .i64 c.c2, .int .i64 c.c3, .int .i64 c.c4]
abbrev agg5 (c : C5) : AV := .agg [i64 c.c0, i64 c.c1, i64 c.c2, i64 c.c3, i64 c.c4]
def C5.zero : C5 := ⟨0, 0, 0, 0, 0⟩
theorem agg5_vr (ρ : Env) (O : Nat → Prop) (w : World) (c : C5) : VR ρ O w (agg5 c) c.v := by
  refine .agg _ _ rfl fun k x v hx hv => ?_
  match k with
  | 0 => simp at hx hv; subst hx; subst hv; exact .d _ _ (.one _ rfl)
  | 1 => simp at hx hv; subst hx; subst hv; exact .d _ _ (.one _ rfl)
  | 2 => simp at hx hv; subst hx; subst hv; exact .d _ _ (.one _ rfl)
  | 3 => simp at hx hv; subst hx; subst hv; exact .d _ _ (.one _ rfl)
  | 4 => simp at hx hv; subst hx; subst hv; exact .d _ _ (.one _ rfl)
  | k + 5 => simp at hx
theorem agg5_of {ρ : Env} {O : Nat → Prop} {w : World} {c : C5} {v : Value} (h : VR ρ O w (agg5 c) v) : v = c.v := by
  cases h with
  | agg _ vs hl hc =>
    have hs5 : vs.size = 5 := by simpa using hl.symm
    have h0 := hc 0 (i64 c.c0) vs[0] rfl (by simp)
    have h1 := hc 1 (i64 c.c1) vs[1] rfl (by simp)
    have h2 := hc 2 (i64 c.c2) vs[2] rfl (by simp)
    have h3 := hc 3 (i64 c.c3) vs[3] rfl (by simp)
    have h4 := hc 4 (i64 c.c4) vs[4] rfl (by simp)
    have e0 := one_of h0
    have e1 := one_of h1
    have e2 := one_of h2
    have e3 := one_of h3
    have e4 := one_of h4
    unfold C5.v
    congr 1
    apply Array.ext
    · simpa using hl.symm
    · intro i hi1 hi2
      simp at hi2
      have : i = 0 ∨ i = 1 ∨ i = 2 ∨ i = 3 ∨ i = 4 := by omega
      rcases this with rfl | rfl | rfl | rfl | rfl <;> simp [*]
def mkC : List (ByteArray × C5) → Nat → List MapEntry
  | [], _ => []
  | p :: r, b => ⟨.string p.1, p.2.v, b⟩ :: mkC r (b + 1)
def mapC (l : List (ByteArray × C5)) : Array MapEntry := (mkC l 0).toArray
def getC : List (ByteArray × C5) → ByteArray → Option C5
  | [], _ => none
  | p :: r, k => if k = p.1 then some p.2 else getC r k
def setC : List (ByteArray × C5) → ByteArray → C5 → List (ByteArray × C5)
  | [], k, v => [(k, v)]
  | p :: r, k, v => if k = p.1 then (k, v) :: r else p :: setC r k v
def cntC (l : List (ByteArray × C5)) (k : ByteArray) : C5 := (getC l k).getD C5.zero
theorem getC_setC (k : ByteArray) (v : C5) (q : ByteArray) : ∀ (l : List (ByteArray × C5)), getC (setC l k v) q = if q = k then some v else getC l q
  | [] => rfl
  | p :: r => by
    by_cases h : k = p.1
    · rw [setC, if_pos h, getC]
      by_cases e : q = k
      · simp [e]
      · rw [if_neg e, if_neg e, getC, if_neg (by rw [← h]; exact e)]
    · rw [setC, if_neg h, getC]
      by_cases e : q = p.1
      · rw [if_pos e, getC, if_pos e, if_neg (by rw [e]; exact fun h' => h h'.symm)]
      · rw [if_neg e, getC_setC k v q r, getC, if_neg e]
theorem cntC_setC (l : List (ByteArray × C5)) (k : ByteArray) (v : C5) (q : ByteArray) : cntC (setC l k v) q = if q = k then v else cntC l q := by
  unfold cntC
  rw [getC_setC]
  split <;> rfl
theorem mkC_len : ∀ (l : List (ByteArray × C5)) (b : Nat), (mkC l b).length = l.length
  | [], _ => rfl
  | p :: r, b => by simp [mkC, mkC_len r]
theorem same_str {a b : ByteArray} : Instr.sameNow .string (.string a) (.string b) = some (decide (a = b)) := by
  obtain ⟨r, h1, h2⟩ := sameNow_of_keys (d := .string) (a := .string a) (b := .string b) (by simp [IsKey]) (by simp [IsKey])
  rw [h1]
  congr 1
  rw [Bool.eq_iff_iff, h2]
  simp
theorem mkC_find (k : ByteArray) (v : C5) : ∀ (l : List (ByteArray × C5)) (b i : Nat),
    (getC l k = none → Instr.findNow .string (.string k) (mkC l b) i = some none ∧ mkC (setC l k v) b = mkC l b ++ [⟨.string k, v.v, b + l.length⟩] ∧ (setC l k v).length = l.length + 1) ∧
    (∀ c, getC l k = some c → ∃ j, Instr.findNow .string (.string k) (mkC l b) i = some (some (i + j, c.v)) ∧ ((mkC l b)[j]?).map (·.key) = some (.string k) ∧ mkC (setC l k v) b = (mkC l b).modify j (fun e => { e with key := .string k, val := v.v }) ∧ (setC l k v).length = l.length)
  | [], b, i => ⟨fun _ => ⟨rfl, rfl, rfl⟩, fun c h => by cases h⟩
  | p :: r, b, i => by
    obtain ⟨h1, h2⟩ := mkC_find k v r (b + 1) (i + 1)
    by_cases e : k = p.1
    · refine ⟨fun h => (by rw [getC, if_pos e] at h; cases h), fun c h => ⟨0, ?_⟩⟩
      rw [getC, if_pos e] at h
      cases h
      rw [setC, if_pos e]
      refine ⟨?_, ?_, ?_, rfl⟩
      · simp [mkC, Instr.findNow, same_str, e]
      · simp [mkC, e]
      · simp [mkC]
    · have hs : Instr.sameNow .string (.string k) (.string p.1) = some false := by simp [same_str, e]
      rw [getC, if_neg e, setC, if_neg e]
      refine ⟨fun h => ?_, fun c h => ?_⟩
      · obtain ⟨a1, a2, a3⟩ := h1 h
        refine ⟨by simp [mkC, Instr.findNow, hs, a1], ?_, by simp [a3]⟩
        rw [mkC, a2, mkC, List.cons_append, List.length_cons, show b + 1 + r.length = b + (r.length + 1) by omega]
      · obtain ⟨j, a1, a2, a3, a4⟩ := h2 c h
        refine ⟨j + 1, ?_, ?_, ?_, by simp [a4]⟩
        · simp only [mkC, Instr.findNow, hs, a1]
          rw [show i + 1 + j = i + (j + 1) by omega]
        · simpa [mkC] using a2
        · rw [mkC, a3, mkC, List.modify_succ_cons]

section
variable {P : Program} {l rest : List Oper} {Q : Exit → St → Prop} {n d clk : Nat} {T : List (Nat × AV)} {H : List (Nat × Option Blk)} {Hp : List Blk} {x y z m k : Operand} {t t2 ty : TypeId} {tys : Array TypeId} {pos : String} {aft : Array Edge} {g : Option (Nat × Bool)} {ts : List (Nat × TI)}

theorem und_arr (hT : TOK P ts) {t len e s b : Nat} {z : List AV} (ht : lk ts t = some ⟨.arr len e, s, b, z⟩) : P.underlying t = some (.array len e) := by
  obtain ⟨du, h1, h2⟩ := (hT.facts ht).und
  cases du <;> simp [tkOf] at h2
  rw [h1, h2.1, h2.2]
/-- &a[i], a an array in a variable, i known. -/
theorem qv30 (hT : TOK P ts) {o : Option Tmp} {σ : St} {id : Id} {off len e s b : Nat} {kk : IntKind} {i : Int} {z : List AV} {ie : TI} (hx : ev σ x = some (.ptr id off) := by rfl) (hy : ev σ y = some (.d (.one (.int kk i))) := by rfl)
    (ht : lk ts t = some ⟨.arr len e, s, b, z⟩ := by rfl) (he : lk ts e = some ie := by rfl) (h0 : 0 ≤ i := by decide) (h1 : i < len := by decide) : VOp P σ ⟨o, .indexAddr t x y, ty, pos, aft, g⟩ (.ptr id (off + i.toNat * ie.size)) := by
  refine VOp.mk fun c ac w ρ O hs => ?_
  have e1 := ev_sound hs hx
  have e2 := one_of (ev_sound hs hy)
  generalize hq : ac.eval x = v at e1
  cases e1 with
  | ptr _ _ gb hg =>
    refine ⟨.pointer (some ⟨gb, off + i.toNat * ie.size, none⟩), fun w' _ => ?_, .ptr _ _ gb hg⟩
    have hun := und_arr hT ht
    have hsize := (hT.facts he).sizeOf (P := P)
    have hc : 0 ≤ i ∧ i < (len : Int) := ⟨h0, h1⟩
    simp [execOp, hq, e2, Instr.indexAt, run_underlying hun, Instr.sureAddr, asIntOf, hsize, hc, add_ptr]
set_option maxHeartbeats 4000000 in
theorem eq5_run {e : TypeId} {a b : C5} (hun : P.underlying t = some (.array 5 e)) (hue : P.underlying e = some (.int .i64)) (hsize : ∀ w, (sizeOf e).run P w = .ok 1 w) (hagg : ∀ w, (isAgg e).run P w = .ok false w) (dd : Nat) (w' : World) : (Op.equalIn (dd + 2) t a.v b.v).run P w' = .ok (decide (a = b)) w' := by
  have hi : ∀ (p q : Int) (w : World), (Op.equalIn (dd + 1) e (.int .i64 p) (.int .i64 q)).run P w = .ok (p == q) w := fun p q w => run_equalIn_int w dd e .i64 .i64 p q hue
  have hdec : decide (a = b) = (a.c0 == b.c0 && (a.c1 == b.c1 && (a.c2 == b.c2 && (a.c3 == b.c3 && a.c4 == b.c4)))) := by
    cases a; cases b
    simp only [C5.mk.injEq]
    rw [Bool.eq_iff_iff]
    simp
  rw [hdec]
  unfold C5.v
  rw [Op.equalIn]
  simp only [Sem.run_bind, run_underlying hun, Result.andThen_ok, hsize]
  by_cases h0 : a.c0 = b.c0
  · by_cases h1 : a.c1 = b.c1
    · by_cases h2 : a.c2 = b.c2
      · by_cases h3 : a.c3 = b.c3
        · by_cases h4 : a.c4 = b.c4
          · simp [Std.Legacy.Range.forIn_eq_forIn_range', List.range', part, hagg, hi, Result.andThen, h0, h1, h2, h3, h4]
          · simp [Std.Legacy.Range.forIn_eq_forIn_range', List.range', part, hagg, hi, Result.andThen, h0, h1, h2, h3, h4]
        · simp [Std.Legacy.Range.forIn_eq_forIn_range', List.range', part, hagg, hi, Result.andThen, h0, h1, h2, h3]
      · simp [Std.Legacy.Range.forIn_eq_forIn_range', List.range', part, hagg, hi, Result.andThen, h0, h1, h2]
    · simp [Std.Legacy.Range.forIn_eq_forIn_range', List.range', part, hagg, hi, Result.andThen, h0, h1]
  · simp [Std.Legacy.Range.forIn_eq_forIn_range', List.range', part, hagg, hi, Result.andThen, h0]
/-- Arrays of five numbers compared. -/
theorem qv31 (hT : TOK P ts) {o : Option Tmp} {σ : St} {a b : C5} {e s s0 b1 : Nat} {z z1 : List AV} (hx : ev σ x = some (agg5 a) := by rfl) (hy : ev σ y = some (agg5 b) := by rfl)
    (ht : lk ts t = some ⟨.arr 5 e, s, s0, z⟩ := by rfl) (he : lk ts e = some ⟨.int .i64, 1, b1, z1⟩ := by rfl) (hE : P.eqGuardType P.depth t = false := by first | rfl | decide +kernel) : VOp P σ ⟨o, .binOp .eql t x y t2, ty, pos, aft, g⟩ (bo (decide (a = b))) := by
  refine VOp.mk fun c ac w ρ O hs => ⟨.bool (decide (a = b)), fun w' _ => ?_, .d _ _ (.one _ rfl)⟩
  have e1 := agg5_of (ev_sound hs hx)
  have e2 := agg5_of (ev_sound hs hy)
  have hun := und_arr hT ht
  have hue := und_int hT he
  have hsize := (hT.facts he).sizeOf (P := P)
  have hagg : ∀ w, (isAgg e).run P w = .ok false w := fun w => by simp [isAgg, run_underlying hue]
  have heq : (Op.equalIn 10000 t a.v b.v).run P w' = .ok (decide (a = b)) w' := eq5_run hun hue hsize hagg 9998 w'
  simp only [execOp, e1, e2]
  have hg : (eqGuard .eql t x y a.v b.v).run P w' = .ok () w' := run_eqGuard_agg w' .eql t x y _ _ hE
  have hb : (binOp .eql t a.v b.v).run P w' = .ok (.bool (decide (a = b))) w' := by
    have := run_eql_struct (P := P) w' t #[.int .i64 a.c0, .int .i64 a.c1, .int .i64 a.c2, .int .i64 a.c3, .int .i64 a.c4] #[.int .i64 b.c0, .int .i64 b.c1, .int .i64 b.c2, .int .i64 b.c3, .int .i64 b.c4]
    refine this.trans ?_
    rw [show (Op.equalIn 10000 t (.agg #[.int .i64 a.c0, .int .i64 a.c1, .int .i64 a.c2, .int .i64 a.c3, .int .i64 a.c4]) (.agg #[.int .i64 b.c0, .int .i64 b.c1, .int .i64 b.c2, .int .i64 b.c3, .int .i64 b.c4])).run P w' = .ok (decide (a = b)) w' from heq]
    rfl
  rw [Sem.run_bind, Sem.run_bind, hg]
  simp only [Result.andThen_ok, hb]
  rfl
/-- m[k], m a map from texts to five numbers. -/
theorem qv32 (hT : TOK P ts) {o : Option Tmp} {σ : St} {id : Id} {c : Nat} {q : ByteArray} {us : List (ByteArray × C5)} {kt et s b s1 b1 : Nat} {z z1 : List AV}
    (hx : ev σ x = some (.own id) := by rfl) (hid : hk σ id = some (.mp (mapC us) c) := by rfl) (hk : ev σ k = some (st q) := by rfl)
    (ht : lk ts t = some ⟨.map kt et, s, b, z⟩ := by rfl) (hkt : lk ts kt = some ⟨.str, s1, b1, z1⟩ := by rfl) (hz : ∃ ti z', P.info? et = some ti ∧ ti.zero = some z' ∧ z' = C5.zero.v := by exact ⟨_, _, rfl, rfl, rfl⟩) :
    VOp P σ ⟨o, .lookup t x k false, ty, pos, aft, g⟩ (agg5 (cntC us q)) := by
  refine VOp.mk fun _ ac w ρ O hs => ⟨(cntC us q).v, fun w' hw' => ?_, agg5_vr _ _ _ _⟩
  have e1 := ev_sound hs hx
  have e2 := one_of (ev_sound hs hk)
  obtain ⟨gb, h1, h2⟩ := hs.H.ok id _ hid
  generalize hq : ac.eval x = v at e1
  cases e1 with
  | own _ _ h3 h4 =>
    rw [h1] at h3
    cases h3
    have h2' : w'.heap[gb]? = some (.map (mapC us) c) := by
      rw [← h2]
      exact hw'.block gb (Array.getElem?_eq_some_iff.1 h2).1
    have hun := und_map hT ht
    have huk := und_str hT hkt
    have hck := run_checkKey (P := P) (w := w') huk (k := .string q) (show IsKey .string (.string q) by simp [IsKey]) ((mapC us).isEmpty) 9999
    have hzr : (zeroValue et).run P w' = .ok C5.zero.v w' := by
      obtain ⟨ti, z', i1, i2, rfl⟩ := hz
      simp [zeroValue, typeInfo, Sem.run, i1, i2]
    obtain ⟨f1, f2⟩ := mkC_find q C5.zero us 0 0
    cases hg : getC us q with
    | none =>
      have hfk := run_findKey (P := P) (w := w') (kt := kt) huk (show Instr.findNow .string (.string q) (mapC us).toList 0 = some none by simpa [mapC] using (f1 hg).1)
      simp [execOp, hq, e2, Instr.lookup, run_underlying hun, Go.MapKept.run_getObj_map h2', hck, hfk, hzr, Result.andThen, cntC, hg]
    | some c5 =>
      obtain ⟨j, hj, _⟩ := f2 c5 hg
      have hfk := run_findKey (P := P) (w := w') (kt := kt) huk (show Instr.findNow .string (.string q) (mapC us).toList 0 = some (some (0 + j, c5.v)) by simpa [mapC] using hj)
      simp [execOp, hq, e2, Instr.lookup, run_underlying hun, Go.MapKept.run_getObj_map h2', hck, hfk, Result.andThen, cntC, hg]
theorem AL.makeMapC (hT : TOK P ts) (h : AL P l Q rest ⟨n, (d, .own (.loc clk)) :: T, (clk, some (.mp (mapC []) 0)) :: H, Hp, clk + 1⟩)
    (hw : wantedA l ⟨some d, .makeMap t none, ty, pos, aft, g⟩ ⟨n, T, H, Hp, clk⟩ = some true := by rfl) (hd : Nat.blt d n = true := by rfl) : AL P l Q (⟨some d, .makeMap t none, ty, pos, aft, g⟩ :: rest) ⟨n, T, H, Hp, clk⟩ :=
  AL.makeMap hT h hw hd
/-- m[k] = v, m a map from texts to five numbers. -/
theorem AL.updC (hT : TOK P ts) {i : Nat} {q : ByteArray} {v : C5} {us : List (ByteArray × C5)} {kt et s b s1 b1 : Nat} {z z1 : List AV}
    (h : AL P l Q rest ⟨n, T, (i, some (.mp (mapC (setC us q v)) (setC us q v).length)) :: H, Hp, clk⟩)
    (hw : wantedA l ⟨none, .mapUpdate t x k y, ty, pos, aft, g⟩ ⟨n, T, H, Hp, clk⟩ = some true := by rfl)
    (hx : ev ⟨n, T, H, Hp, clk⟩ x = some (.own (.loc i)) := by rfl) (hid : hk ⟨n, T, H, Hp, clk⟩ (.loc i) = some (.mp (mapC us) us.length) := by rfl) (hk : ev ⟨n, T, H, Hp, clk⟩ k = some (st q) := by rfl) (hy : ev ⟨n, T, H, Hp, clk⟩ y = some (agg5 v) := by rfl)
    (ht : lk ts t = some ⟨.map kt et, s, b, z⟩ := by rfl) (hkt : lk ts kt = some ⟨.str, s1, b1, z1⟩ := by rfl) :
    AL P l Q (⟨none, .mapUpdate t x k y, ty, pos, aft, g⟩ :: rest) ⟨n, T, H, Hp, clk⟩ := by
  refine AL.step (σ' := ⟨n, T, (i, some (.mp (mapC (setC us q v)) (setC us q v).length)) :: H, Hp, clk⟩) hw ?_ h
  rintro c' a w ⟨ρ, O, hs⟩ K Q' hK
  obtain ⟨gb, h1, h2⟩ := hs.H.ok (.loc i) _ hid
  have e1 := ev_sound hs hx
  have e2 := one_of (ev_sound hs hk)
  have e3 := agg5_of (ev_sound hs hy)
  generalize hq' : a.eval x = u at e1
  cases e1 with
  | own _ _ h3 h4 =>
    rw [h1] at h3
    cases h3
    have hsat := chg_sat hs hid (b := .mp (mapC (setC us q v)) (setC us q v).length) (σ' := ⟨n, T, (i, some (.mp (mapC (setC us q v)) (setC us q v).length)) :: H, Hp, clk⟩) rfl (g := gb) (w' := { w with heap := w.heap.setIfInBounds gb (.map (mapC (setC us q v)) (setC us q v).length) })
      (by rw [h1]; rfl) (fun k hk => heap_set_ne w gb k _ hk) (by simp) rfl rfl rfl ⟨gb, h1, by have := (Array.getElem?_eq_some_iff.1 h2).1; simp [this]⟩
    have hun := und_map hT ht
    have huk := und_str hT hkt
    have hck := run_checkKey (P := P) (w := w) huk (k := .string q) (show IsKey .string (.string q) by simp [IsKey]) false 9999
    obtain ⟨f1, f2⟩ := mkC_find q v us 0 0
    have hrun : (execOp a.eval ⟨none, .mapUpdate t x k y, ty, pos, aft, g⟩).run P w = .ok .skip { w with heap := w.heap.setIfInBounds gb (.map (mapC (setC us q v)) (setC us q v).length) } := by
      cases hg : getC us q with
      | none =>
        obtain ⟨a1, a2, a3⟩ := f1 hg
        have hfk := run_findKey (P := P) (w := w) (kt := kt) huk (show Instr.findNow .string (.string q) (mapC us).toList 0 = some none by simpa [mapC] using a1)
        have hpush : (mapC us).push ⟨.string q, v.v, us.length⟩ = mapC (setC us q v) := by
          unfold mapC
          rw [a2]
          simp
        simp [execOp, hq', e2, e3, Instr.mapUpdate, run_underlying hun, Go.MapKept.run_getObj_map h2, hck, hfk, Go.MapKept.run_setObj_map _ h2, Result.andThen, hpush, a3]
      | some c5 =>
        obtain ⟨j, a1, a2, a3, a4⟩ := f2 c5 hg
        have hfk := run_findKey (P := P) (w := w) (kt := kt) huk (show Instr.findNow .string (.string q) (mapC us).toList 0 = some (some (0 + j, c5.v)) by simpa [mapC] using a1)
        have hmod : (mapC us).modify j (fun e => { e with key := .string q, val := v.v }) = mapC (setC us q v) := by
          unfold mapC
          rw [a3]
          simp
        have hkey : (((mapC us)[j]?).map (·.key)).getD (.string q) = .string q := by
          have : (mapC us)[j]? = (mkC us 0)[j]? := by simp [mapC]
          rw [this, a2]
          rfl
        have hstay : (Instr.keyThatStays (.string q) (.string q)).run P w = .ok (.string q) w := run_keyThatStays (d := .string) (by simp [IsKey])
        simp [execOp, hq', e2, e3, Instr.mapUpdate, run_underlying hun, Go.MapKept.run_getObj_map h2, hck, hfk, Go.MapKept.run_setObj_map _ h2, Result.andThen, hkey, hstay, hmod, a4]
    unfold Oper.wp
    rw [hrun]
    exact hK _ _ ⟨_, _, hsat⟩
end
end Go.AM
