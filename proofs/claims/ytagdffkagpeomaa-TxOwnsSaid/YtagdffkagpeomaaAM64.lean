/- A machine over pure data: part 64: maps from texts to maps of seen ints. -/
import Derived.Test.YtagdffkagpeomaaAM63
set_option linter.unusedVariables false
set_option linter.unusedSimpArgs false
namespace Go.AM
open Go Go.RowKit Go.MapKept

/-- The entries of a map from texts to maps, which are told by the numbers of their blocks. -/
def mmE : List (ByteArray × Nat) → Nat → List MapEntry
  | [], _ => []
  | p :: r, b => ⟨.string p.1, .map (some p.2), b⟩ :: mmE r (b + 1)
def mmA (l : List (ByteArray × Nat)) : Array MapEntry := (mmE l 0).toArray
def mmG : List (ByteArray × Nat) → ByteArray → Option Nat
  | [], _ => none
  | p :: r, k => if k = p.1 then some p.2 else mmG r k
theorem mmE_app : ∀ (l : List (ByteArray × Nat)) (x : ByteArray × Nat) (b : Nat), mmE (l ++ [x]) b = mmE l b ++ [⟨.string x.1, .map (some x.2), b + l.length⟩]
  | [], x, b => rfl
  | y :: l, x, b => by
    simp only [List.cons_append, mmE, mmE_app l x (b + 1), List.length_cons]
    rw [show b + 1 + l.length = b + (l.length + 1) by omega]
theorem mmA_push (l : List (ByteArray × Nat)) (s : ByteArray) (g : Nat) : (mmA l).push ⟨.string s, .map (some g), l.length⟩ = mmA (l ++ [(s, g)]) := by
  simp [mmA, mmE_app]
theorem mmE_find (k : ByteArray) : ∀ (l : List (ByteArray × Nat)) (b i : Nat),
    (mmG l k = none → Instr.findNow .string (.string k) (mmE l b) i = some none) ∧ (∀ g, mmG l k = some g → ∃ j, Instr.findNow .string (.string k) (mmE l b) i = some (some (j, .map (some g))))
  | [], b, i => ⟨fun _ => rfl, fun g h => by cases h⟩
  | p :: r, b, i => by
    obtain ⟨h1, h2⟩ := mmE_find k r (b + 1) (i + 1)
    by_cases e : k = p.1
    · refine ⟨fun h => (by rw [mmG, if_pos e] at h; cases h), fun g h => ⟨i, ?_⟩⟩
      rw [mmG, if_pos e] at h
      cases h
      simp [mmE, Instr.findNow, same_str, e]
    · have hs : Instr.sameNow .string (.string k) (.string p.1) = some false := by simp [same_str, e]
      rw [mmG, if_neg e]
      refine ⟨fun h => by simp [mmE, Instr.findNow, hs, h1 h], fun g h => ?_⟩
      obtain ⟨j, hj⟩ := h2 g h
      exact ⟨j, by simp [mmE, Instr.findNow, hs, hj]⟩
/-- A map, by its block's number. -/
abbrev mv (o : Option Nat) : AV := .d (.one (.map o))

section
variable {P : Program} {l rest : List Oper} {Q : Exit → St → Prop} {n d clk : Nat} {T : List (Nat × AV)} {H : List (Nat × Option Blk)} {Hp : List Blk} {x y z m k : Operand} {t t2 ty : TypeId} {tys : Array TypeId} {pos : String} {aft : Array Edge} {g : Option (Nat × Bool)} {ts : List (Nat × TI)}

/-- A new map, told by the number of its block. -/
theorem AL.makeMapR (h : ∀ gb : Nat, AL P l Q rest ⟨n, (d, mv (some gb)) :: T, (clk, some (.mpr gb (setE []) 0)) :: H, Hp, clk + 1⟩)
    (hw : wantedA l ⟨some d, .makeMap t none, ty, pos, aft, g⟩ ⟨n, T, H, Hp, clk⟩ = some true := by rfl) (hd : Nat.blt d n = true := by rfl) : AL P l Q (⟨some d, .makeMap t none, ty, pos, aft, g⟩ :: rest) ⟨n, T, H, Hp, clk⟩ := by
  rintro c a w ⟨ρ, O, hs⟩
  refine wpList_step fun K hK => ?_
  rw [if_pos (wantedA_sound hw ⟨ρ, O, hs⟩)]
  have hk0 : Keeps O w (fun k => O k ∨ k = w.heap.size) (w.alloc (.map #[] 0)) := ⟨by simp, fun k hk _ => Below.heap_alloc w _ k hk, fun k hk => by
    rcases hk with hk | hk
    · exact .inl hk
    · exact .inr (by omega)⟩
  have hm := mk_sat hs (.mpr w.heap.size (setE []) 0) (.map (some w.heap.size)) (.inl rfl) hk0 (by simp) (fun k hk => Below.heap_alloc w _ k hk) rfl rfl rfl
    ⟨w.heap.size, upd_self _ _ _, heap_alloc_new w _, rfl⟩
  unfold Oper.wp
  have hrun : (execOp a.eval ⟨some d, .makeMap t none, ty, pos, aft, g⟩).run P w = .ok (.value (.map (some w.heap.size))) (w.alloc (.map #[] 0)) := rfl
  rw [hrun]
  exact hK _ _ (h w.heap.size c _ _ ⟨_, _, put_sat hm (x := mv (some w.heap.size)) (v := .map (some w.heap.size)) (.d _ _ (.one _ rfl)) (by simp [put, mk, hd])⟩)

/-- m[k], m a map from texts to maps. -/
theorem qv37 (hT : TOK P ts) {o : Option Tmp} {σ : St} {id : Id} {c : Nat} {q : ByteArray} {us : List (ByteArray × Nat)} {kt et s b s1 b1 : Nat} {z z1 : List AV}
    (hx : ev σ x = some (.own id) := by rfl) (hid : hk σ id = some (.mp (mmA us) c) := by rfl) (hk : ev σ k = some (st q) := by rfl)
    (ht : lk ts t = some ⟨.map kt et, s, b, z⟩ := by rfl) (hkt : lk ts kt = some ⟨.str, s1, b1, z1⟩ := by rfl) (hz : ∃ ti z', P.info? et = some ti ∧ ti.zero = some z' ∧ z' = .map none := by exact ⟨_, _, rfl, rfl, rfl⟩) :
    VOp P σ ⟨o, .lookup t x k false, ty, pos, aft, g⟩ (mv (mmG us q)) := by
  refine VOp.mk fun _ ac w ρ O hs => ⟨.map (mmG us q), fun w' hw' => ?_, .d _ _ (.one _ rfl)⟩
  have e1 := ev_sound hs hx
  have e2 := one_of (ev_sound hs hk)
  obtain ⟨gb, h1, h2⟩ := hs.H.ok id _ hid
  generalize hq : ac.eval x = v at e1
  cases e1 with
  | own _ _ h3 h4 =>
    rw [h1] at h3
    cases h3
    have h2' : w'.heap[gb]? = some (.map (mmA us) c) := by
      rw [← h2]
      exact hw'.block gb (Array.getElem?_eq_some_iff.1 h2).1
    have hun := und_map hT ht
    have huk := und_str hT hkt
    have hck := run_checkKey (P := P) (w := w') huk (k := .string q) (show IsKey .string (.string q) by simp [IsKey]) ((mmA us).isEmpty) 9999
    have hzr : (zeroValue et).run P w' = .ok (.map none) w' := by
      obtain ⟨ti, z', i1, i2, rfl⟩ := hz
      simp [zeroValue, typeInfo, Sem.run, i1, i2]
    obtain ⟨f1, f2⟩ := mmE_find q us 0 0
    cases hg : mmG us q with
    | none =>
      have hfk := run_findKey (P := P) (w := w') (kt := kt) huk (show Instr.findNow .string (.string q) (mmA us).toList 0 = some none by simpa [mmA] using f1 hg)
      simp [execOp, hq, e2, Instr.lookup, run_underlying hun, Go.MapKept.run_getObj_map h2', hck, hfk, hzr, Result.andThen]
    | some c5 =>
      obtain ⟨j, hj⟩ := f2 c5 hg
      have hfk := run_findKey (P := P) (w := w') (kt := kt) huk (show Instr.findNow .string (.string q) (mmA us).toList 0 = some (some (j, .map (some c5))) by simpa [mmA] using hj)
      simp [execOp, hq, e2, Instr.lookup, run_underlying hun, Go.MapKept.run_getObj_map h2', hck, hfk, Result.andThen]
theorem run_equalIn_map_nil (w : World) (d : Nat) {kt et : TypeId} (r : Option Nat) (h : P.underlying t = some (.map kt et)) : (Op.equalIn (d + 1) t (.map r) (.map none)).run P w = .ok r.isNone w := by
  cases r <;> simp [Op.equalIn, run_underlying h]
/-- A map compared with nil. -/
theorem qv38 (hT : TOK P ts) {o : Option Tmp} {σ : St} {r : Option Nat} {kt et s b : Nat} {z : List AV} (hx : ev σ x = some (mv r) := by rfl) (hy : ev σ y = some (mv none) := by rfl)
    (ht : lk ts t = some ⟨.map kt et, s, b, z⟩ := by rfl) : VOp P σ ⟨o, .binOp .eql t x y t2, ty, pos, aft, g⟩ (bo r.isNone) := by
  refine VOp.mk fun c ac w ρ O hs => ⟨.bool r.isNone, fun w' _ => ?_, .d _ _ (.one _ rfl)⟩
  have e1 := one_of (ev_sound hs hx)
  have e2 := one_of (ev_sound hs hy)
  have hun := und_map hT ht
  have h1 := run_equalIn_map_nil (P := P) w' 9999 r hun
  have h2 : (Op.equal t (.map r) (.map none)).run P w' = .ok r.isNone w' := h1
  have hg : (eqGuard .eql t x y (.map r) (.map none)).run P w' = .ok () w' := by simp [eqGuard]
  simp only [execOp, e1, e2]
  rw [Sem.run_bind, Sem.run_bind, hg]
  simp only [Result.andThen_ok, binOp, Sem.run_bind, h2, Sem.run_pure]
/-- m[k], m a map of seen ints that is told by its block's number. -/
theorem VOp.seenR (hT : TOK P ts) {o : Option Tmp} {σ : St} {id : Id} {c gb : Nat} {q : Int} {us : List Int} {kt et s b s1 b1 : Nat} {z z1 : List AV}
    (hid : hk σ id = some (.mpr gb (setE us) c)) (hx : ev σ x = some (mv (some gb)) := by rfl) (hk : ev σ k = some (i64 q) := by rfl)
    (ht : lk ts t = some ⟨.map kt et, s, b, z⟩ := by rfl) (hkt : lk ts kt = some ⟨.int .i64, s1, b1, z1⟩ := by rfl) (hz : ∃ ti z', P.info? et = some ti ∧ ti.zero = some z' ∧ z' = .bool false := by exact ⟨_, _, rfl, rfl, rfl⟩) : VOp P σ ⟨o, .lookup t x k false, ty, pos, aft, g⟩ (bo (decide (q ∈ us))) := by
  refine VOp.mk fun _ ac w ρ O hs => ⟨.bool (decide (q ∈ us)), fun w' hw' => ?_, .d _ _ (.one _ rfl)⟩
  have e1 := one_of (ev_sound hs hx)
  have e2 := one_of (ev_sound hs hk)
  obtain ⟨_, h1, h2, rfl⟩ := hs.H.ok id _ hid
  rename_i gb
  have h2' : w'.heap[gb]? = some (.map (setE us) c) := by
    rw [← h2]
    exact hw'.block gb (Array.getElem?_eq_some_iff.1 h2).1
  have hfind : Instr.findNow (.int .i64) (.int .i64 q) (setE us).toList 0 = some none ∧ q ∉ us ∨ ∃ j, Instr.findNow (.int .i64) (.int .i64 q) (setE us).toList 0 = some (some (j, .bool true)) ∧ q ∈ us := by
    obtain ⟨f1, f2⟩ := setE_find q us 0 0
    by_cases hm : q ∈ us
    · obtain ⟨j, hj⟩ := f1 hm
      exact .inr ⟨j, by simpa [setE] using hj, hm⟩
    · exact .inl ⟨by simpa [setE] using f2 hm, hm⟩
  have hun := und_map hT ht
  have huk := und_int hT hkt
  have hck := run_checkKey (P := P) (w := w') huk (k := .int .i64 q) (show IsKey (.int .i64) (.int .i64 q) from rfl) ((setE us).isEmpty) 9999
  have hzr : (zeroValue et).run P w' = .ok (.bool false) w' := by
    obtain ⟨ti, z', i1, i2, rfl⟩ := hz
    simp [zeroValue, typeInfo, Sem.run, i1, i2]
  rcases hfind with ⟨hf, hm⟩ | ⟨j, hf, hm⟩
  · have hfk := run_findKey (w := w') huk hf
    simp [execOp, e1, e2, Instr.lookup, run_underlying hun, Go.MapKept.run_getObj_map h2', hck, hfk, hzr, Result.andThen, hm]
  · have hfk := run_findKey (w := w') huk hf
    simp [execOp, e1, e2, Instr.lookup, run_underlying hun, Go.MapKept.run_getObj_map h2', hck, hfk, Result.andThen, hm]
/-- A number is seen, in a map told by its block's number. -/
theorem AL.addR (hT : TOK P ts) {i gb : Nat} {q : Int} {us : List Int} {kt et s b s1 b1 : Nat} {z z1 : List AV} (hq : q ∉ us) (hid : hk ⟨n, T, H, Hp, clk⟩ (.loc i) = some (.mpr gb (setE us) us.length))
    (h : AL P l Q rest ⟨n, T, (i, some (.mpr gb (setE (us ++ [q])) (us.length + 1))) :: H, Hp, clk⟩)
    (hw : wantedA l ⟨none, .mapUpdate t x k (.const (.bool true)), ty, pos, aft, g⟩ ⟨n, T, H, Hp, clk⟩ = some true := by rfl)
    (hx : ev ⟨n, T, H, Hp, clk⟩ x = some (mv (some gb)) := by rfl) (hk : ev ⟨n, T, H, Hp, clk⟩ k = some (i64 q) := by rfl)
    (ht : lk ts t = some ⟨.map kt et, s, b, z⟩ := by rfl) (hkt : lk ts kt = some ⟨.int .i64, s1, b1, z1⟩ := by rfl) :
    AL P l Q (⟨none, .mapUpdate t x k (.const (.bool true)), ty, pos, aft, g⟩ :: rest) ⟨n, T, H, Hp, clk⟩ := by
  refine AL.step (σ' := ⟨n, T, (i, some (.mpr gb (setE (us ++ [q])) (us.length + 1))) :: H, Hp, clk⟩) hw ?_ h
  rintro c' a w ⟨ρ, O, hs⟩ K Q' hK
  obtain ⟨_, h1, h2, rfl⟩ := hs.H.ok (.loc i) _ hid
  rename_i gb
  have e1 := one_of (ev_sound hs hx)
  have e2 := one_of (ev_sound hs hk)
  have hsat := chg_sat hs hid (b := .mpr gb (setE (us ++ [q])) (us.length + 1)) (σ' := ⟨n, T, (i, some (.mpr gb (setE (us ++ [q])) (us.length + 1))) :: H, Hp, clk⟩) rfl (g := gb) (w' := { w with heap := w.heap.setIfInBounds gb (.map (setE (us ++ [q])) (us.length + 1)) })
    (by rw [h1]; rfl) (fun k hk => heap_set_ne w gb k _ hk) (by simp) rfl rfl rfl ⟨gb, h1, by have := (Array.getElem?_eq_some_iff.1 h2).1; simp [this], rfl⟩
  have hun := und_map hT ht
  have huk := und_int hT hkt
  have hck := run_checkKey (P := P) (w := w) huk (k := .int .i64 q) (show IsKey (.int .i64) (.int .i64 q) from rfl) false 9999
  have hfk := run_findKey (w := w) huk (show Instr.findNow (.int .i64) (.int .i64 q) (setE us).toList 0 = some none by simpa [setE] using (setE_find q us 0 0).2 hq)
  unfold Oper.wp
  have hev : a.eval (.const (.bool true)) = .bool true := rfl
  have hrun : (execOp a.eval ⟨none, .mapUpdate t x k (.const (.bool true)), ty, pos, aft, g⟩).run P w = .ok .skip { w with heap := w.heap.setIfInBounds gb (.map (setE (us ++ [q])) (us.length + 1)) } := by
    simp [execOp, e1, e2, hev, Instr.mapUpdate, run_underlying hun, Go.MapKept.run_getObj_map h2, hck, hfk, Go.MapKept.run_setObj_map _ h2, Result.andThen, setE_push]
  rw [hrun]
  exact hK _ _ ⟨_, _, hsat⟩
/-- m[k] = x, m a map from texts to maps that has no k. -/
theorem AL.updR (hT : TOK P ts) {i gb : Nat} {q : ByteArray} {us : List (ByteArray × Nat)} {kt et s b s1 b1 : Nat} {z z1 : List AV} (hg : mmG us q = none)
    (h : AL P l Q rest ⟨n, T, (i, some (.mp (mmA (us ++ [(q, gb)])) (us.length + 1))) :: H, Hp, clk⟩)
    (hw : wantedA l ⟨none, .mapUpdate t x k y, ty, pos, aft, g⟩ ⟨n, T, H, Hp, clk⟩ = some true := by rfl)
    (hx : ev ⟨n, T, H, Hp, clk⟩ x = some (.own (.loc i)) := by rfl) (hid : hk ⟨n, T, H, Hp, clk⟩ (.loc i) = some (.mp (mmA us) us.length) := by rfl) (hk : ev ⟨n, T, H, Hp, clk⟩ k = some (st q) := by rfl) (hy : ev ⟨n, T, H, Hp, clk⟩ y = some (mv (some gb)) := by rfl)
    (ht : lk ts t = some ⟨.map kt et, s, b, z⟩ := by rfl) (hkt : lk ts kt = some ⟨.str, s1, b1, z1⟩ := by rfl) :
    AL P l Q (⟨none, .mapUpdate t x k y, ty, pos, aft, g⟩ :: rest) ⟨n, T, H, Hp, clk⟩ := by
  refine AL.step (σ' := ⟨n, T, (i, some (.mp (mmA (us ++ [(q, gb)])) (us.length + 1))) :: H, Hp, clk⟩) hw ?_ h
  rintro c' a w ⟨ρ, O, hs⟩ K Q' hK
  obtain ⟨go, h1, h2⟩ := hs.H.ok (.loc i) _ hid
  have e1 := ev_sound hs hx
  have e2 := one_of (ev_sound hs hk)
  have e3 := one_of (ev_sound hs hy)
  generalize hq' : a.eval x = u at e1
  cases e1 with
  | own _ _ h3 h4 =>
    rw [h1] at h3
    cases h3
    have hsat := chg_sat hs hid (b := .mp (mmA (us ++ [(q, gb)])) (us.length + 1)) (σ' := ⟨n, T, (i, some (.mp (mmA (us ++ [(q, gb)])) (us.length + 1))) :: H, Hp, clk⟩) rfl (g := go) (w' := { w with heap := w.heap.setIfInBounds go (.map (mmA (us ++ [(q, gb)])) (us.length + 1)) })
      (by rw [h1]; rfl) (fun k hk => heap_set_ne w go k _ hk) (by simp) rfl rfl rfl ⟨go, h1, by have := (Array.getElem?_eq_some_iff.1 h2).1; simp [this]⟩
    have hun := und_map hT ht
    have huk := und_str hT hkt
    have hck := run_checkKey (P := P) (w := w) huk (k := .string q) (show IsKey .string (.string q) by simp [IsKey]) false 9999
    have hfk := run_findKey (P := P) (w := w) (kt := kt) huk (show Instr.findNow .string (.string q) (mmA us).toList 0 = some none by simpa [mmA] using (mmE_find q us 0 0).1 hg)
    have hrun : (execOp a.eval ⟨none, .mapUpdate t x k y, ty, pos, aft, g⟩).run P w = .ok .skip { w with heap := w.heap.setIfInBounds go (.map (mmA (us ++ [(q, gb)])) (us.length + 1)) } := by
      simp [execOp, hq', e2, e3, Instr.mapUpdate, run_underlying hun, Go.MapKept.run_getObj_map h2, hck, hfk, Go.MapKept.run_setObj_map _ h2, Result.andThen, mmA_push]
    unfold Oper.wp
    rw [hrun]
    exact hK _ _ ⟨_, _, hsat⟩
end
/-- A state that tells the blocks in another list. -/
theorem Imp.sub {n clk : Nat} {T T' : List (Nat × AV)} {H H' : List (Nat × Option Blk)} {Hp : List Blk} (hT : ∀ t x, lk T' t = some x → lk T t = some x) (hH : ∀ k b, lk H' k = some (some b) → lk H k = some (some b)) : Imp ⟨n, T, H, Hp, clk⟩ ⟨n, T', H', Hp, clk⟩ := by
  rintro c a w ⟨ρ, O, hs⟩
  have hh : ∀ i b, hk ⟨n, T', H', Hp, clk⟩ i = some b → hk ⟨n, T, H, Hp, clk⟩ i = some b := by
    intro i b hb
    cases i with
    | par k => exact hb
    | loc k =>
      simp only [hk] at hb ⊢
      split at hb
      · rename_i b' hb'
        rw [hH k b' hb']
        exact hb
      · cases hb
  exact ⟨ρ, O, hs.defers, hs.n, hs.par, hs.fresh, fun t x h => hs.T t x (hT t x h), ⟨fun i b h => hs.H.ok i b (hh i b h), fun i b g h => hs.H.own i b g (hh i b h), fun i j bi bj g h1 h2 => hs.H.inj i j bi bj g (hh i bi h1) (hh j bj h2)⟩, hs.F⟩
end Go.AM
