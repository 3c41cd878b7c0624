/- A machine over pure data: part 82: slices of things that name blocks of the call's own: built, indexed, appended to a row that has just been made. -/
import Derived.Test.YtagdffkagpeomaaAM81
set_option linter.unusedVariables false
set_option linter.unusedSimpArgs false
namespace Go.AM
open Go Go.RowKit

theorem flat_get {α : Type} {sz : Nat} : ∀ {L : List (List α)}, (∀ x ∈ L, x.length = sz) → L.flatten.length = L.length * sz ∧ ∀ (i : Nat) v, L.flatten[i]? = some v → ∃ (j k : Nat) (x : List α), i = j * sz + k ∧ L[j]? = some x ∧ x[k]? = some v
  | [], _ => ⟨by simp, fun i v h => by simp at h⟩
  | x :: L, h => by
    obtain ⟨h1, h2⟩ := flat_get (L := L) (fun y hy => h y (List.mem_cons_of_mem _ hy))
    have hx := h x List.mem_cons_self
    refine ⟨by simp only [List.flatten_cons, List.length_append, h1, hx, List.length_cons, Nat.succ_mul]; omega, fun i v hi => ?_⟩
    rw [List.flatten_cons, List.getElem?_append] at hi
    split at hi
    · exact ⟨0, i, x, by simp, rfl, hi⟩
    · rename_i hge
      obtain ⟨j, k, y, e1, e2, e3⟩ := h2 _ _ hi
      refine ⟨j + 1, k, y, ?_, by simpa using e2, e3⟩
      rw [hx] at e1 hge
      rw [Nat.succ_mul]
      omega
section
variable {P : Program} {l rest : List Oper} {Q : Exit → St → Prop} {n d clk : Nat} {T : List (Nat × AV)} {H : List (Nat × Option Blk)} {Hp : List Blk} {x y : Operand} {args : Array Operand} {tys : Array TypeId} {t t2 ty : TypeId} {pos : String} {aft : Array Edge} {g : Option (Nat × Bool)} {ts : List (Nat × TI)}
/-- []T{x, y, ..}, whose parts may name blocks of the call's own. -/
theorem AL.buildBox (hT : TOK P ts) {len : Nat} {parts : Array (Nat × Operand)} {fs cells : List AV} {e s b : Nat} {z : List AV} {ie : TI} (hw : wantedA l ⟨some d, .buildSlice t len parts, ty, pos, aft, g⟩ ⟨n, T, H, Hp, clk⟩ = some true) (hd : Nat.blt d n = true)
    (ht : lk ts t = some ⟨.slice e, s, b, z⟩) (he : lk ts e = some ie) (hs0 : Nat.blt 0 ie.size = true) (hix : parts.toList.map (·.1) = List.range len) (hfs : aevs ⟨n, T, H, Hp, clk⟩ (parts.toList.map (·.2)) some = some fs) (hfn : fs.all (fun f => (cellsV f).all isCell && Nat.beq (cellsV f).length ie.size) = true) (hcl : (fs.map cellsV).flatten = cells) (hl0 : Nat.blt 0 len = true) (hsl : Nat.ble (len * ie.size) 16777216 = true)
    (h : AL P l Q rest ⟨n, (d, .bsl (.loc clk) len) :: T, (clk, some (.box e cells)) :: H, Hp, clk + 1⟩) : AL P l Q (⟨some d, .buildSlice t len parts, ty, pos, aft, g⟩ :: rest) ⟨n, T, H, Hp, clk⟩ := by
  refine AL.step (σ' := ⟨n, (d, .bsl (.loc clk) len) :: T, (clk, some (.box e cells)) :: H, Hp, clk + 1⟩) hw ?_ h
  rintro c a w ⟨ρ, O, hs⟩ K Q hK
  subst hcl
  have hs0 : 0 < ie.size := by simpa using hs0
  have hsl := Nat.le_of_ble_eq_true hsl
  have hl0 : 0 < len := by simpa using hl0
  obtain ⟨fs', hx1, hx2, hx3⟩ := aevs_spec hfs
  cases hx1
  have hpl : parts.toList.length = len := by have := congrArg List.length hix; simpa using this
  have hfl : fs.length = len := by rw [hx2, List.length_map, hpl]
  obtain ⟨zv, hz1, _⟩ := (hT.facts he).zero w
  have hsz := (hT.facts he).sizeOf w
  have hff : ∀ f ∈ fs, (cellsV f).all isCell = true ∧ (cellsV f).length = ie.size := fun f hf => by
    have := List.all_eq_true.1 hfn f hf
    rw [Bool.and_eq_true] at this
    exact ⟨this.1, Nat.eq_of_beq_eq_true this.2⟩
  have hval : ∀ (k : Nat) f o', fs[k]? = some f → (parts.toList.map (·.2))[k]? = some o' → (a.eval o').cells.size = ie.size ∧ ∀ (k : Nat) y u, (cellsV f)[k]? = some y → (a.eval o').cells[k]? = some u → VR ρ O w y u ∧ u.oneCell' = true := by
    intro k f o' hf ho
    obtain ⟨h1, h2⟩ := hff f (List.mem_of_getElem? hf)
    obtain ⟨h3, h4⟩ := (ev_sound hs (hx3 k f o' hf ho)).cells h1
    exact ⟨by rw [h3, h2], h4⟩
  have hrun : ∃ us, Instr.fill (fun i => some (i * ie.size, ie.size)) ((Array.range (len * ie.size)).map (zv.cells[· % zv.cells.size]!)) (parts.map fun (i, x) => (i, a.eval x)).toList = some us ∧ us.size = len * ie.size ∧
      ∀ (k i : Nat) o' u, (parts.toList.map (·.2))[k]? = some o' → (a.eval o').cells[i]? = some u → us[k * ie.size + i]? = some u := by
    obtain ⟨us, g1, g2, _, g4⟩ := fillS (O := O) (w := w) (sz := ie.size) (parts.map fun (i, x) => (i, a.eval x)).toList (parts.toList.map fun p => (a.eval p.2).cells.toList.map D.one) 0 ((Array.range (len * ie.size)).map (zv.cells[· % zv.cells.size]!)) (by simp) (fun k p x hp hx => by
      rw [Array.toList_map, List.getElem?_map, Option.map_eq_some_iff] at hp
      obtain ⟨q, hq, rfl⟩ := hp
      rw [List.getElem?_map, hq] at hx
      cases hx
      have hkl : k < fs.length := by rw [hfl, ← hpl]; exact (List.getElem?_eq_some_iff.1 hq).1
      obtain ⟨h2, h3⟩ := hval k fs[k] q.2 (List.getElem?_eq_getElem hkl) (by simp [hq])
      have h4 : q.1 = k := by
        have e := congrArg (fun l => l[k]?) hix
        simp only [List.getElem?_map, hq, Option.map_some] at e
        rw [List.getElem?_range (by omega)] at e
        exact Option.some.inj e
      refine ⟨by simp [h4], by simp [h2], h2, fun i d u hd hu => ?_⟩
      rw [List.getElem?_map, Array.getElem?_toList, hu] at hd
      cases hd
      have hi : i < (cellsV fs[k]).length := by rw [(hff _ (List.getElem_mem hkl)).2, ← h2]; exact (Array.getElem?_eq_some_iff.1 hu).1
      have h5 := (h3 i _ u (List.getElem?_eq_getElem hi) hu).2
      exact ⟨.one _ h5, h5⟩) (by simp [hpl])
    refine ⟨us, g1, by rw [g2]; simp, fun k i o' u ho hu => ?_⟩
    rw [List.getElem?_map, Option.map_eq_some_iff] at ho
    obtain ⟨p, hp, rfl⟩ := ho
    obtain ⟨u', u1, u2, _⟩ := g4 k i ((a.eval p.2).cells.toList.map D.one) (D.one u) (by simp [hp]) (by rw [List.getElem?_map, Array.getElem?_toList, hu]; rfl)
    cases u2
    simpa using u1
  obtain ⟨us, hr, hus, hcl⟩ := hrun
  have hrb : (Instr.buildSlice t len (parts.map fun (i, x) => (i, a.eval x))).run P w = .ok (.slice (some ⟨w.heap.size, 0, none⟩) len len) (w.alloc (.cells us e)) := by
    have hns : ¬ len * ie.size > 2 ^ 24 := by omega
    have h0 : ¬ len * ie.size = 0 := fun h => by rcases Nat.mul_eq_zero.1 h with h | h <;> omega
    simp only [Instr.buildSlice, Sem.run_bind, run_underlying (und_slice hT ht), Result.andThen_ok, hsz, Sem.run_ite, hns, if_false, Sem.run_pure, h0, hz1, hr, newRow, run_newObj, World.alloc_eq]
  have hk0 : Keeps O w (fun k => O k ∨ k = w.heap.size) (w.alloc (.cells us e)) := ⟨by simp, fun k hk _ => Below.heap_alloc w _ k hk, fun k hk => by
    rcases hk with hk | hk
    · exact .inl hk
    · exact .inr (by omega)⟩
  obtain ⟨hfl1, hfl2⟩ := flat_get (L := fs.map cellsV) (sz := ie.size) (fun x hx => by
    obtain ⟨f, hf, rfl⟩ := List.mem_map.1 hx
    exact (hff f hf).2)
  have hm := mk_sat hs (.box e (fs.map cellsV).flatten) (.pointer (some ⟨w.heap.size, 0, none⟩)) (.inl rfl) hk0 (by simp) (fun k hk => Below.heap_alloc w _ k hk) rfl rfl rfl
    ⟨w.heap.size, us, upd_self _ _ _, heap_alloc_new w _, by rw [hus, hfl1, List.length_map, hfl], fun k x v hx hv => by
      obtain ⟨j, i, xs, rfl, e2, e3⟩ := hfl2 k x hx
      rw [List.getElem?_map, Option.map_eq_some_iff] at e2
      obtain ⟨f, hf, rfl⟩ := e2
      have hjl : j < (parts.toList.map (·.2)).length := by rw [List.length_map, hpl, ← hfl]; exact (List.getElem?_eq_some_iff.1 hf).1
      have ho := List.getElem?_eq_getElem hjl
      obtain ⟨h1, h2⟩ := hval j f _ hf ho
      have hi : i < (a.eval (parts.toList.map (·.2))[j]).cells.size := by rw [h1, ← (hff f (List.mem_of_getElem? hf)).2]; exact (List.getElem?_eq_some_iff.1 e3).1
      rw [hcl j i _ _ ho (Array.getElem?_eq_getElem hi)] at hv
      cases hv
      obtain ⟨q1, q2⟩ := h2 i x _ e3 (Array.getElem?_eq_getElem hi)
      exact ⟨q1.keep (upd_ext (hs.fresh clk (Nat.le_refl _))) hk0, q2⟩⟩
  unfold Oper.wp
  simp only [execOp, Sem.run_bind, hrb, Result.andThen_ok, Sem.run_pure]
  refine hK _ _ ⟨_, _, put_sat hm (x := .bsl (.loc clk) len) (.bsl _ _ w.heap.size (by rw [show (upd ρ clk (Value.pointer (some ⟨w.heap.size, 0, none⟩))) (.loc clk) = some (Value.pointer (some ⟨w.heap.size, 0, none⟩)) from upd_self _ _ _]; rfl)) ?_⟩
  simp [mk, put, hd]
theorem qbB (hT : TOK P ts) {len : Nat} {parts : Array (Nat × Operand)} {fs cells : List AV} {e s b : Nat} {z : List AV} {ie : TI} (h : AL P l Q rest ⟨n, (d, .bsl (.loc clk) len) :: T, (clk, some (.box e cells)) :: H, Hp, clk + 1⟩)
    (hw : wantedA l ⟨some d, .buildSlice t len parts, ty, pos, aft, g⟩ ⟨n, T, H, Hp, clk⟩ = some true := by rfl) (hd : Nat.blt d n = true := by rfl) (hfs : aevs ⟨n, T, H, Hp, clk⟩ (parts.toList.map (·.2)) some = some fs := by rfl)
    (ht : lk ts t = some ⟨.slice e, s, b, z⟩ := by rfl) (he : lk ts e = some ie := by rfl) (hs0 : Nat.blt 0 ie.size = true := by rfl) (hix : parts.toList.map (·.1) = List.range len := by rfl) (hfn : fs.all (fun f => (cellsV f).all isCell && Nat.beq (cellsV f).length ie.size) = true := by rfl) (hcl : (fs.map cellsV).flatten = cells := by rfl) (hl0 : Nat.blt 0 len = true := by rfl) (hsl : Nat.ble (len * ie.size) 16777216 = true := by rfl) :
    AL P l Q (⟨some d, .buildSlice t len parts, ty, pos, aft, g⟩ :: rest) ⟨n, T, H, Hp, clk⟩ := AL.buildBox hT hw hd ht he hs0 hix hfs hfn hcl hl0 hsl h
theorem qbL (hT : TOK P ts) {i : Id} {m e s b : Nat} {z : List AV} (h : AL P l Q rest ⟨n, (d, i64 m) :: T, H, Hp, clk⟩)
    (hw : wantedA l ⟨some d, .call ⟨.builtin .len, #[x], #[t]⟩, ty, pos, aft, g⟩ ⟨n, T, H, Hp, clk⟩ = some true := by rfl) (hd : Nat.blt d n = true := by rfl) (hx : ev ⟨n, T, H, Hp, clk⟩ x = some (.bsl i m) := by rfl) (ht : lk ts t = some ⟨.slice e, s, b, z⟩ := by rfl) :
    AL P l Q (⟨some d, .call ⟨.builtin .len, #[x], #[t]⟩, ty, pos, aft, g⟩ :: rest) ⟨n, T, H, Hp, clk⟩ := AL.v hw hd (VOp.lenB hT hx ht) h
/-- An element of such a slice. -/
theorem VOp.idxBx (hT : TOK P ts) {o : Option Tmp} {σ : St} {i : Id} {m e s b : Nat} {z : List AV} {ie : TI} {k : IntKind} {j : Nat} (hx : ev σ x = some (.bsl i m) := by rfl) (hy : ev σ y = some (.d (.one (.int k (j : Int)))) := by rfl) (ht : lk ts t = some ⟨.slice e, s, b, z⟩ := by rfl) (he : lk ts e = some ie := by rfl) (hj : j < m := by first | omega | decide) :
    VOp P σ ⟨o, .indexAddr t x y, ty, pos, aft, g⟩ (.ptr i (j * ie.size)) := by
  refine VOp.mk fun c ac w ρ O hs => ?_
  have e1 := ev_sound hs hx
  have e2 := one_of (ev_sound hs hy)
  have hsize := (hT.facts he).sizeOf (P := P)
  generalize hq : ac.eval x = q at e1
  cases e1 with
  | bsl _ _ gb h1 =>
    refine ⟨.pointer (some ⟨gb, j * ie.size, none⟩), fun w' _ => ?_, .ptr _ _ gb h1⟩
    simp [execOp, hq, e2, Instr.indexAt, asIntOf, run_underlying (und_slice hT ht), hsize, hj, add_ptr]
/-- make, whose capacity is told. -/
theorem AL.makeCap (hT : TOK P ts) (hw : wantedA l ⟨some d, .makeSlice t x y, ty, pos, aft, g⟩ ⟨n, T, H, Hp, clk⟩ = some true) (hd : Nat.blt d n = true)
    {k1 k2 : IntKind} {cn : Nat} (hx : ev ⟨n, T, H, Hp, clk⟩ x = some (.d (.one (.int k1 0)))) (hy : ev ⟨n, T, H, Hp, clk⟩ y = some (.d (.one (.int k2 (cn : Int)))))
    {e s bb : Nat} {z : List AV} (ht : lk ts t = some ⟨.slice e, s, bb, z⟩) {ie : TI} (he : lk ts e = some ie) (hb : (ie.bytes : Int) * cn ≤ 281474976710656) (h63 : (cn : Int) ≤ 9223372036854775807)
    (h : AL P l Q rest ⟨n, (d, .own (.loc clk)) :: T, (clk, some (.rowc e ie.size [] 0 cn)) :: H, Hp, clk + 1⟩) : AL P l Q (⟨some d, .makeSlice t x y, ty, pos, aft, g⟩ :: rest) ⟨n, T, H, Hp, clk⟩ := by
  refine AL.step (σ' := ⟨n, (d, .own (.loc clk)) :: T, (clk, some (.rowc e ie.size [] 0 cn)) :: H, Hp, clk + 1⟩) hw ?_ h
  rintro c ac w ⟨ρ, O, hs⟩ K Q hK
  have e1 := one_of (ev_sound hs hx)
  have e2 := one_of (ev_sound hs hy)
  obtain ⟨ti, zv, i1, i2, i3, i4, i5⟩ := (hT.facts he).info
  have hrun := run_make (P := P) w t e ti zv (und_slice hT ht) i1 i4 k1 k2 0 (cn : Int) (by omega) (by omega) (by rw [i3]; exact hb) h63
  rw [i2] at hrun
  simp only [Int.toNat_natCast, Int.toNat_zero] at hrun
  generalize hus : madeCells zv.cells (cn * ie.size) = us at hrun
  have hsz : us.size = cn * ie.size := by rw [← hus]; exact size_madeCells _ _
  have hk0 : Keeps O w (fun k => O k ∨ k = w.heap.size) (w.alloc (.cells us e)) := ⟨by simp, fun k hk _ => Below.heap_alloc w _ k hk, fun k hk => by
    rcases hk with hk | hk
    · exact .inl hk
    · exact .inr (by omega)⟩
  have hm := mk_sat hs (.rowc e ie.size [] 0 cn) (.slice (some ⟨w.heap.size, 0, none⟩) 0 cn) (.inl rfl) hk0 (by simp) (fun k hk => Below.heap_alloc w _ k hk) rfl rfl rfl
    ⟨w.heap.size, us, upd_self _ _ _, heap_alloc_new w _, hsz, Nat.zero_le _, Nat.zero_le _, by unfold maxLen; omega, fun x hx => (by cases hx), fun j k x d' hx => by simp at hx⟩
  unfold Oper.wp
  have hex : (execOp ac.eval ⟨some d, .makeSlice t x y, ty, pos, aft, g⟩).run P w = .ok (.value (.slice (some ⟨w.heap.size, 0, none⟩) 0 cn)) (w.alloc (.cells us e)) := by
    simp only [execOp, e1, e2, Sem.run_bind, hrun, Result.andThen_ok, Sem.run_pure]
  rw [hex]
  refine hK _ _ ⟨_, _, put_sat hm (x := .own (.loc clk)) (.own _ _ (upd_self _ _ _) rfl) ?_⟩
  simp [mk, put, hd]
theorem qmC (cn : Nat) (hT : TOK P ts) {k1 k2 : IntKind} {e s bb : Nat} {z : List AV} {ie : TI} (h : AL P l Q rest ⟨n, (d, .own (.loc clk)) :: T, (clk, some (.rowc e ie.size [] 0 cn)) :: H, Hp, clk + 1⟩)
    (hw : wantedA l ⟨some d, .makeSlice t x y, ty, pos, aft, g⟩ ⟨n, T, H, Hp, clk⟩ = some true := by rfl) (hd : Nat.blt d n = true := by rfl) (hx : ev ⟨n, T, H, Hp, clk⟩ x = some (.d (.one (.int k1 0))) := by rfl) (hy : ev ⟨n, T, H, Hp, clk⟩ y = some (.d (.one (.int k2 (cn : Int)))) := by rfl)
    (ht : lk ts t = some ⟨.slice e, s, bb, z⟩ := by rfl) (he : lk ts e = some ie := by rfl) (hb : (ie.bytes : Int) * cn ≤ 281474976710656 := by decide) (h63 : (cn : Int) ≤ 9223372036854775807 := by decide) : AL P l Q (⟨some d, .makeSlice t x y, ty, pos, aft, g⟩ :: rest) ⟨n, T, H, Hp, clk⟩ := AL.makeCap hT hw hd hx hy ht he hb h63 h
/-- One thing, which names blocks of the call's own, appended to a row that was made for it. -/
theorem AL.appBox (hT : TOK P ts) {i j sz e : Nat} {cells : List AV} (hw : wantedA l ⟨some d, .call ⟨.builtin .append, #[x, y], #[t, t]⟩, ty, pos, aft, g⟩ ⟨n, T, H, Hp, clk⟩ = some true) (hd : Nat.blt d n = true) (hx : ev ⟨n, T, H, Hp, clk⟩ x = some (.own (.loc i))) (hxi : hk ⟨n, T, H, Hp, clk⟩ (.loc i) = some (.rowc e sz [] 0 1))
    (hy : ev ⟨n, T, H, Hp, clk⟩ y = some (.bsl (.loc j) 1)) (hyj : hk ⟨n, T, H, Hp, clk⟩ (.loc j) = some (.box e cells)) (hc : Nat.beq cells.length sz = true) {s b : Nat} {z : List AV} (ht : lk ts t = some ⟨.slice e, s, b, z⟩) {ie : TI} (he : lk ts e = some ie) (hsz : Nat.beq ie.size sz = true)
    (h : AL P l Q rest ⟨n, (d, .bsl (.loc clk) 1) :: T, (clk, some (.box e cells)) :: (i, none) :: H, Hp, clk + 1⟩) : AL P l Q (⟨some d, .call ⟨.builtin .append, #[x, y], #[t, t]⟩, ty, pos, aft, g⟩ :: rest) ⟨n, T, H, Hp, clk⟩ := by
  refine AL.step (σ' := ⟨n, (d, .bsl (.loc clk) 1) :: T, (clk, some (.box e cells)) :: (i, none) :: H, Hp, clk + 1⟩) hw ?_ h
  rintro c ac w ⟨ρ, O, hs⟩ K Q hK
  have hsz := Nat.eq_of_beq_eq_true hsz
  have hc := Nat.eq_of_beq_eq_true hc
  obtain ⟨gi, cur, q1, q2, q3, _, _, _, _, _⟩ := hs.H.ok _ _ hxi
  obtain ⟨gj, vs, r1, r2, r3, r4⟩ := hs.H.ok _ _ hyj
  have hij : gi ≠ gj := fun e => by
    subst e
    have := hs.H.inj (.loc i) (.loc j) _ _ gi hxi hyj (by rw [q1]; rfl) (by rw [r1]; rfl)
    injection this with this
    subst this
    rw [hxi] at hyj
    cases hyj
  obtain ⟨ti, zv, i1, i2, i3, i4, i5⟩ := (hT.facts he).info
  have e1 := ev_sound hs hx
  have e2 := ev_sound hs hy
  generalize hqx : ac.eval x = vx at e1
  generalize hqy : ac.eval y = vy at e2
  cases e1 with
  | own _ _ e1 _ =>
  rw [q1] at e1
  cases e1
  cases e2 with
  | bsl _ _ g' e2 =>
  rw [r1] at e2
  simp only [Option.bind_some, vblk, Option.some.injEq] at e2
  subst e2
  have hvl : vs.toList.length = 1 * ti.size := by rw [i2, hsz, Array.length_toList, r3, hc]; omega
  have hone : ∀ u ∈ vs.toList, u.oneCell' = true := fun u hu => by
    obtain ⟨k, hk⟩ := List.getElem?_of_mem hu
    have hkl : k < cells.length := by rw [← r3, ← Array.length_toList]; exact (List.getElem?_eq_some_iff.1 hk).1
    exact (r4 k _ u (List.getElem?_eq_getElem hkl) (by simpa using hk)).2
  have hrun := run_append_room (P := P) w t ty e ti (und_slice hT ht) i1 gi 0 1 cur q2 ⟨gj, 0, none⟩ 1 1 vs.toList hvl (fun k u hk => by
    rw [add_ptr, Nat.zero_add, cell_of_row w gj k vs e (0, 0) r2]
    simpa using hk) hone (by omega) (by rw [hvl, q3, i2, hsz]; omega)
  have hnew : (cur.toList.take (0 * ti.size) ++ vs.toList ++ cur.toList.drop (0 * ti.size + vs.toList.length)).toArray = vs := by
    rw [Nat.zero_mul, List.take_zero, List.nil_append, Nat.zero_add, hvl, i2, hsz, List.drop_of_length_le (by rw [Array.length_toList, q3]; omega), List.append_nil]
  rw [hnew] at hrun
  have hO : O gi := (hs.H.own (.loc i) _ gi hxi (by rw [q1]; rfl)).1
  have hsz' : (w.setRow gi vs).heap.size = w.heap.size := by simp
  have hsat := rerow_sat hs hxi (v1 := .pointer (some ⟨gi, 0, none⟩)) (w1 := w.setRow gi vs) (b := .box e cells) q1 (fun g hg => .inl hg) (by omega) (fun k _ hne => setRow_other w gi k vs (fun e => hne (by rw [e]; rfl))) rfl rfl rfl
    ⟨gi, vs, upd_self _ _ _, setRow_heap w gi cur vs e (0, 0) q2, r3, fun k u v hu hv => by
      obtain ⟨f1, f2⟩ := r4 k u v hu hv
      exact ⟨f1.keep (upd_ext (hs.fresh clk (Nat.le_refl _))) ⟨by omega, fun k _ hk => setRow_other w gi k vs (fun e => hk (e ▸ hO)), fun k hk => by
        rcases hk with hk | hk
        · exact .inl hk
        · exact .inr (by omega)⟩, f2⟩⟩
  unfold Oper.wp
  have hex : (execOp ac.eval ⟨some d, .call ⟨.builtin .append, #[x, y], #[t, t]⟩, ty, pos, aft, g⟩).run P w = .ok (.value (.slice (some ⟨gi, 0, none⟩) 1 1)) (w.setRow gi vs) := by
    simp [execOp, resolve, invoke, builtin, hqx, hqy, hrun]
  rw [hex]
  refine hK _ _ ⟨_, _, put_sat hsat (x := .bsl (.loc clk) 1) (.bsl _ _ gi (by rw [show (upd ρ clk (Value.pointer (some ⟨gi, 0, none⟩))) (.loc clk) = some (Value.pointer (some ⟨gi, 0, none⟩)) from upd_self _ _ _]; rfl)) ?_⟩
  simp [put, hd]
theorem qaB (i j : Nat) (hT : TOK P ts) {sz e : Nat} {cells : List AV} {s b : Nat} {z : List AV} {ie : TI} (h : AL P l Q rest ⟨n, (d, .bsl (.loc clk) 1) :: T, (clk, some (.box e cells)) :: (i, none) :: H, Hp, clk + 1⟩)
    (hw : wantedA l ⟨some d, .call ⟨.builtin .append, #[x, y], #[t, t]⟩, ty, pos, aft, g⟩ ⟨n, T, H, Hp, clk⟩ = some true := by rfl) (hd : Nat.blt d n = true := by rfl) (hx : ev ⟨n, T, H, Hp, clk⟩ x = some (.own (.loc i)) := by rfl) (hxi : hk ⟨n, T, H, Hp, clk⟩ (.loc i) = some (.rowc e sz [] 0 1) := by rfl)
    (hy : ev ⟨n, T, H, Hp, clk⟩ y = some (.bsl (.loc j) 1) := by rfl) (hyj : hk ⟨n, T, H, Hp, clk⟩ (.loc j) = some (.box e cells) := by rfl) (hc : Nat.beq cells.length sz = true := by rfl) (ht : lk ts t = some ⟨.slice e, s, b, z⟩ := by rfl) (he : lk ts e = some ie := by rfl) (hsz : Nat.beq ie.size sz = true := by rfl) :
    AL P l Q (⟨some d, .call ⟨.builtin .append, #[x, y], #[t, t]⟩, ty, pos, aft, g⟩ :: rest) ⟨n, T, H, Hp, clk⟩ := AL.appBox hT hw hd hx hxi hy hyj hc ht he hsz h
end
end Go.AM
