/- A machine over pure data: part 13: rows of the call's own: made, appended to, looked into, handed on. -/
import Derived.Test.YtpohebmofcdeiaaAM12
namespace Go.AM
open Go Go.RowKit

theorem VR.cast {ρ : Env} {O : Nat → Prop} {w : World} {x : AV} {v v' : Value} (h : VR ρ O w x v) (e : v = v') : VR ρ O w x v' := e ▸ h

/-- A row of the call's own reads as pure data, for whoever looks into no block of O'. -/
theorem own_reads {ρ : Env} {O O' : Nat → Prop} {w : World} {i : Id} {e sz : Nat} {xs : List (List D)} {v : Value} (h : BOK ρ O w i (.row e sz xs)) (hv : ρ i = some v) (hO : ∀ k, O' k → O k) (hn : ∀ g, vblk v = some g → ¬ O' g) : Reads O' w (.row xs) v := by
  obtain ⟨v', vs, h1, h2, h3, h4⟩ := h
  rw [hv] at h1
  injection h1 with h1
  subst h1
  obtain ⟨hl, h2⟩ := h2
  rcases h2 with ⟨rfl, h5⟩ | ⟨g, cap, cur, rfl, _, hh, hnc, hcm, hcs, htk⟩
  · obtain rfl : xs = [] := List.eq_nil_of_length_eq_zero h5
    exact .none none 0
  · have hk : Keeps O w O' w := ⟨Nat.le_refl _, fun _ _ _ => rfl, fun k hk => .inl (hO k hk)⟩
    refine .row xs sz cap ⟨g, 0, none⟩ (fun j k => vs.getD (j * sz + k) undef) h3 hnc (by simp only [maxLen] at hcm; omega) (hn g rfl) (Array.getElem?_eq_some_iff.1 hh).1 (fun j k x d hx hd => ?_) (fun j k x d hx hd => ?_)
    · obtain ⟨u, e1, e2⟩ := h4 j k x d hx hd
      rw [add_ptr, Nat.zero_add, cell_of_row w g _ cur e (0, 0) hh]
      rw [List.getD_eq_getElem?_getD, e1]
      rw [← htk, List.getElem?_take] at e1
      split at e1
      · simpa using e1
      · cases e1
    · obtain ⟨u, e1, e2⟩ := h4 j k x d hx hd
      rw [List.getD_eq_getElem?_getD, e1]
      exact e2.keep hk

/-! ### a slice's literal -/
def toDs {β : Type} : List AV → (List D → Option β) → Option β
  | [], k => k []
  | x :: r, k => match x with
    | .d y => toDs r fun l => k (y :: l)
    | .nilrow => toDs r fun l => k (.row [] :: l)
    | _ => none
def aslice {β : Type} (σ : St) (sz : Nat) : Nat → List (Nat × Operand) → (List (List D) → Option β) → Option β
  | _, [], k => k []
  | j, (i, x) :: r, k => bif Nat.beq i j then match ev σ x with
    | some (.agg xs) => toDs xs fun ds => bif Nat.beq ds.length sz then aslice σ sz (j + 1) r (fun l => k (ds :: l)) else none
    | some y => toDs [y] fun ds => bif Nat.beq ds.length sz then aslice σ sz (j + 1) r (fun l => k (ds :: l)) else none
    | none => none else none

theorem toDs_spec {β : Type} {r : β} : ∀ {xs : List AV} {k : List D → Option β}, toDs xs k = some r → ∃ ds, k ds = some r ∧ ds.length = xs.length ∧ xs.all isCell = true ∧
    ∀ (ρ : Env) (O : Nat → Prop) (w : World) (j : Nat) x d v, xs[j]? = some x → ds[j]? = some d → VR ρ O w x v → Reads O w d v
  | [], k, h => ⟨[], by simpa [toDs] using h, rfl, rfl, fun ρ O w j x d v h => by simp at h⟩
  | x :: xs, k, h => by
    simp only [toDs] at h
    split at h
    · rename_i y
      obtain ⟨ds, h1, h2, h3, h4⟩ := toDs_spec h
      refine ⟨y :: ds, h1, by simp [h2], by simp [h3, isCell], fun ρ O w j x d v hx hd hv => ?_⟩
      cases j with
      | zero =>
        simp at hx hd
        subst hx; subst hd
        cases hv with
        | d _ _ h => exact h
      | succ j => exact h4 ρ O w j x d v (by simpa using hx) (by simpa using hd) hv
    · obtain ⟨ds, h1, h2, h3, h4⟩ := toDs_spec h
      refine ⟨.row [] :: ds, h1, by simp [h2], by simp [h3, isCell], fun ρ O w j x d v hx hd hv => ?_⟩
      cases j with
      | zero =>
        simp at hx hd
        subst hx; subst hd
        cases hv
        exact .none none 0
      | succ j => exact h4 ρ O w j x d v (by simpa using hx) (by simpa using hd) hv
    · cases h

theorem aslice_spec {c : Ctx} {σ : St} {a : Act} {w : World} {ρ : Env} {O : Nat → Prop} (hs : SatAt c σ a w ρ O) {β : Type} {r : β} {sz : Nat} :
    ∀ {parts : List (Nat × Operand)} {j : Nat} {k : List (List D) → Option β}, aslice σ sz j parts k = some r → ∃ xs, k xs = some r ∧ xs.length = parts.length ∧
      ∀ (i : Nat) p x, parts[i]? = some p → xs[i]? = some x → p.1 = j + i ∧ x.length = sz ∧ (a.eval p.2).cells.size = sz ∧ ∀ (q : Nat) d u, x[q]? = some d → (a.eval p.2).cells[q]? = some u → Reads O w d u ∧ u.oneCell' = true
  | [], j, k, h => ⟨[], by simpa [aslice] using h, rfl, fun i p x h => by simp at h⟩
  | (i, y) :: parts, j, k, h => by
    simp only [aslice] at h
    cases hij : Nat.beq i j with
    | false => rw [hij] at h; cases h
    | true =>
      rw [hij] at h
      simp only [cond_true] at h
      have hij := Nat.eq_of_beq_eq_true hij
      have go : ∀ v, ev σ y = some v → toDs (cellsV v) (fun ds => bif Nat.beq ds.length sz then aslice σ sz (j + 1) parts (fun l => k (ds :: l)) else none) = some r →
          ∃ xs, k xs = some r ∧ xs.length = parts.length + 1 ∧ ∀ (i' : Nat) p x, ((i, y) :: parts)[i']? = some p → xs[i']? = some x → p.1 = j + i' ∧ x.length = sz ∧ (a.eval p.2).cells.size = sz ∧
            ∀ (q : Nat) d u, x[q]? = some d → (a.eval p.2).cells[q]? = some u → Reads O w d u ∧ u.oneCell' = true := by
        intro v hv hd
        obtain ⟨ds, h1, h2, h3, h4⟩ := toDs_spec hd
        cases hb : Nat.beq ds.length sz with
        | false => rw [hb] at h1; cases h1
        | true =>
          rw [hb] at h1
          simp only [cond_true] at h1
          have hb := Nat.eq_of_beq_eq_true hb
          obtain ⟨xs, g1, g2, g3⟩ := aslice_spec hs h1
          obtain ⟨c1, c2⟩ := (ev_sound hs hv).cells h3
          refine ⟨ds :: xs, g1, by simp [g2], fun i' p x hp hx => ?_⟩
          cases i' with
          | zero =>
            simp at hp hx
            subst hp; subst hx
            refine ⟨by simp [hij], hb, by rw [c1, ← h2, hb], fun q d u hq hu => ?_⟩
            have hq' : q < (cellsV v).length := by rw [← h2]; exact (List.getElem?_eq_some_iff.1 hq).1
            obtain ⟨e1, e2⟩ := c2 q _ u (List.getElem?_eq_getElem hq') hu
            exact ⟨h4 ρ O w q _ d u (List.getElem?_eq_getElem hq') hq e1, e2⟩
          | succ i' =>
            obtain ⟨f1, f2⟩ := g3 i' p x (by simpa using hp) (by simpa using hx)
            exact ⟨by omega, f2⟩
      split at h
      · rename_i xs hv
        obtain ⟨a1, a2, a3, a4⟩ := go _ hv h
        exact ⟨a1, a2, a3, a4⟩
      · rename_i v hne hv
        have : cellsV v = [v] := by cases v <;> first | rfl | exact (hne _ rfl).elim
        obtain ⟨a1, a2, a3, a4⟩ := go v hv (by rw [this]; exact h)
        exact ⟨a1, a2, a3, a4⟩
      · cases h

theorem fillS {O : Nat → Prop} {w : World} {sz : Nat} : ∀ (ps : List (Nat × Value)) (xs : List (List D)) (j : Nat) (vs : Array Value), ps.length = xs.length →
    (∀ (k : Nat) p x, ps[k]? = some p → xs[k]? = some x → p.1 = j + k ∧ x.length = sz ∧ p.2.cells.size = sz ∧ ∀ (i : Nat) d u, x[i]? = some d → p.2.cells[i]? = some u → Reads O w d u ∧ u.oneCell' = true) → (j + xs.length) * sz ≤ vs.size →
    ∃ us, Instr.fill (fun i => some (i * sz, sz)) vs ps = some us ∧ us.size = vs.size ∧ (∀ m : Nat, m < j * sz → us[m]? = vs[m]?) ∧
      ∀ (k i : Nat) x d, xs[k]? = some x → x[i]? = some d → ∃ u, us[(j + k) * sz + i]? = some u ∧ Reads O w d u ∧ u.oneCell' = true
  | [], xs, j, vs, hl, _, _ => by
    obtain rfl : xs = [] := List.eq_nil_of_length_eq_zero (by simpa using hl.symm)
    exact ⟨vs, rfl, rfl, fun _ _ => rfl, fun k i x d h => by simp at h⟩
  | p :: ps, [], j, vs, hl, _, _ => by simp at hl
  | p :: ps, x :: xs, j, vs, hl, h, hsz => by
    obtain ⟨h1, h2, h3, h4⟩ := h 0 p x rfl rfl
    have hmul : (j + (xs.length + 1)) * sz = j * sz + sz + xs.length * sz := by rw [Nat.add_mul, Nat.add_mul, Nat.one_mul]; omega
    simp only [List.length_cons] at hsz
    have hle : j * sz + p.2.cells.size ≤ vs.size := by rw [h3]; omega
    obtain ⟨f1, f2⟩ := fill_fold p.2.cells (j * sz) vs hle
    have hj1 : (j + 1) * sz = j * sz + sz := by rw [Nat.add_mul, Nat.one_mul]
    obtain ⟨us, g1, g2, g3, g4⟩ := fillS ps xs (j + 1) (p.2.cells.zipIdx.foldl (fun cs x => cs.setIfInBounds (j * sz + x.2) x.1) vs) (by simpa using hl)
      (fun k p' x' hp hx => by
        obtain ⟨a, b⟩ := h (k + 1) p' x' (by simpa using hp) (by simpa using hx)
        exact ⟨by omega, b⟩) (by rw [f1, Nat.add_mul, hj1]; omega)
    have hp1 : p.1 = j := by simpa using h1
    refine ⟨us, ?_, by rw [g2, f1], fun m hm => ?_, fun k i x' d hx hd => ?_⟩
    · obtain ⟨pi, pv⟩ := p
      simp only at hp1 h3 f1 f2 g1 hle
      subst hp1
      simp only [Instr.fill]
      rw [if_neg (by rw [h3]; simp; rw [h3] at hle; exact hle)]
      exact g1
    · rw [g3 m (by omega), f2, if_neg (by omega)]
    · cases k with
      | zero =>
        simp at hx
        subst hx
        have hi : i < sz := by rw [← h2]; exact (List.getElem?_eq_some_iff.1 hd).1
        have hi' : i < p.2.cells.size := by rw [h3]; exact hi
        obtain ⟨r1, r2⟩ := h4 i d p.2.cells[i] hd (by simp [hi'])
        refine ⟨p.2.cells[i], ?_, r1, r2⟩
        rw [Nat.add_zero, g3 _ (by omega), f2, if_pos (by omega)]
        have : j * sz + i - j * sz = i := by omega
        rw [this]
        simp [hi']
      | succ k =>
        obtain ⟨u, r1, r2⟩ := g4 k i x' d (by simpa using hx) hd
        refine ⟨u, ?_, r2⟩
        have : j + (k + 1) = j + 1 + k := by omega
        rw [this]
        exact r1

section
variable {P : Program} {l rest : List Oper} {Q : Exit → St → Prop} {n d clk : Nat} {T : List (Nat × AV)} {H : List (Nat × Option Blk)} {Hp : List Blk} {x y : Operand} {t t2 ty : TypeId} {pos : String} {aft : Array Edge} {g : Option (Nat × Bool)}

theorem AL.buildSlice {ts : List (Nat × TI)} (hT : TOK P ts) {len : Nat} {parts : Array (Nat × Operand)} (hw : wantedA l ⟨some d, .buildSlice t len parts, ty, pos, aft, g⟩ ⟨n, T, H, Hp, clk⟩ = some true) (hd : Nat.blt d n = true)
    {e s b : Nat} {z : List AV} (ht : lk ts t = some ⟨.slice e, s, b, z⟩) {ie : TI} (he : lk ts e = some ie) {xs : List (List D)} (hxs : aslice ⟨n, T, H, Hp, clk⟩ ie.size 0 parts.toList some = some xs) (hlen : Nat.beq parts.size len = true)
    (hsm : Nat.ble (len * ie.size) 16777216 = true) (hsl : Nat.ble len 16777216 = true) (h : AL P l Q rest ⟨n, (d, .own (.loc clk)) :: T, (clk, some (.row e ie.size xs)) :: H, Hp, clk + 1⟩) : AL P l Q (⟨some d, .buildSlice t len parts, ty, pos, aft, g⟩ :: rest) ⟨n, T, H, Hp, clk⟩ := by
  refine AL.step (σ' := ⟨n, (d, .own (.loc clk)) :: T, (clk, some (.row e ie.size xs)) :: H, Hp, clk + 1⟩) hw ?_ h
  rintro c a w ⟨ρ, O, hs⟩ K Q hK
  obtain ⟨xs', hx1, hx2, hx3⟩ := aslice_spec hs hxs
  cases hx1
  have hlen := Nat.eq_of_beq_eq_true hlen
  have hsm := Nat.le_of_ble_eq_true hsm
  have hsl := Nat.le_of_ble_eq_true hsl
  obtain ⟨du, hu1, hu2⟩ := (hT.facts ht).und
  have hu3 : du = .slice e := by
    cases du <;> simp [tkOf] at hu2
    rw [hu2]
  subst hu3
  obtain ⟨zv, hz1, _⟩ := (hT.facts he).zero w
  have hsz := (hT.facts he).sizeOf w
  have hxl : xs.length = len := by rw [hx2]; simpa using hlen
  have hrun : ∀ zs : Array Value, zs.size = len * ie.size → ∃ us, Instr.fill (fun i => some (i * ie.size, ie.size)) zs (parts.map fun (i, x) => (i, a.eval x)).toList = some us ∧ us.size = len * ie.size ∧
      ∀ (k i : Nat) x d, xs[k]? = some x → x[i]? = some d → ∃ u, us[k * ie.size + i]? = some u ∧ Reads O w d u ∧ u.oneCell' = true := by
    intro zs hzs
    obtain ⟨us, g1, g2, _, g4⟩ := fillS (O := O) (w := w) (sz := ie.size) (parts.map fun (i, x) => (i, a.eval x)).toList xs 0 zs (by simp [hx2]) (fun k p x hp hx => by
      rw [Array.toList_map, List.getElem?_map, Option.map_eq_some_iff] at hp
      obtain ⟨q, hq, rfl⟩ := hp
      exact hx3 k q x hq hx) (by rw [hzs, hxl]; simp)
    exact ⟨us, g1, by rw [g2, hzs], fun k i x d hx hd => by simpa using g4 k i x d hx hd⟩
  have hcells : ∃ us, (Instr.buildSlice t len (parts.map fun (i, x) => (i, a.eval x))).run P w = .ok (.slice (some ⟨w.heap.size, 0, none⟩) len len) (w.alloc (.cells us e)) ∧ us.size = len * ie.size ∧
      ∀ (k i : Nat) x d, xs[k]? = some x → x[i]? = some d → ∃ u, us[k * ie.size + i]? = some u ∧ Reads O w d u ∧ u.oneCell' = true := by
    have hns : ¬ len * ie.size > 2 ^ 24 := by omega
    by_cases h0 : len * ie.size = 0
    · obtain ⟨us, g1, g2, g3⟩ := hrun ((Array.range (len * ie.size)).map ((#[] : Array Value)[· % (#[] : Array Value).size]!)) (by simp)
      refine ⟨us, ?_, g2, g3⟩
      simp only [Instr.buildSlice, Sem.run_bind, run_underlying hu1, Result.andThen_ok, hsz, Sem.run_ite, Sem.run_pure, h0, if_true]
      rw [h0] at g1
      simp only [g1, Sem.run_bind, newRow, run_newObj, Result.andThen_ok, Sem.run_pure, World.alloc_eq]
      simp
    · obtain ⟨us, g1, g2, g3⟩ := hrun ((Array.range (len * ie.size)).map (zv.cells[· % zv.cells.size]!)) (by simp)
      refine ⟨us, ?_, g2, g3⟩
      simp only [Instr.buildSlice, Sem.run_bind, run_underlying hu1, Result.andThen_ok, hsz, Sem.run_ite, hns, if_false, Sem.run_pure, h0, hz1, g1, newRow, run_newObj, World.alloc_eq]
  obtain ⟨us, hr, hus, hcl⟩ := hcells
  have hml : len ≤ maxLen := by unfold maxLen; omega
  have hus2 : us.toList.take (xs.length * ie.size) = us.toList := by rw [hxl, ← hus]; exact List.take_of_length_le (by simp)
  have hus3 : us.toList.length = xs.length * ie.size := by rw [hxl, ← hus]; simp
  have hk0 : Keeps O w (fun k => O k ∨ k = w.heap.size) (w.alloc (.cells us e)) := ⟨by simp, fun k hk _ => Below.heap_alloc w _ k hk, fun k hk => by
    rcases hk with hk | hk
    · exact .inl hk
    · exact .inr (by omega)⟩
  have hm := mk_sat hs (.row e ie.size xs) (.slice (some ⟨w.heap.size, 0, none⟩) len len) (.inl rfl) hk0 (by simp) (fun k hk => Below.heap_alloc w _ k hk) rfl rfl rfl
    ⟨_, us.toList, upd_self _ _ _, ⟨hus3, .inr ⟨w.heap.size, len, us, by rw [hxl], Nat.zero_le _, heap_alloc_new w _, by omega, hml, hus, hus2⟩⟩,
      fun x hx => by
        obtain ⟨k, hk⟩ := List.getElem?_of_mem hx
        have hk' : k < parts.toList.length := by rw [← hx2]; exact (List.getElem?_eq_some_iff.1 hk).1
        exact (hx3 k _ x (List.getElem?_eq_getElem hk') hk).2.1,
      fun j k x d' hx hd' => by
        obtain ⟨u, e1, e2, _⟩ := hcl j k x d' hx hd'
        exact ⟨u, by simpa using e1, e2.keep hk0⟩⟩
  unfold Oper.wp
  simp only [execOp, Sem.run_bind, hr, Result.andThen_ok, Sem.run_pure]
  refine hK _ _ ⟨_, _, put_sat hm (x := .own (.loc clk)) (.own _ _ (upd_self _ _ _) rfl) ?_⟩
  simp [mk, put, hd]
end

end Go.AM
