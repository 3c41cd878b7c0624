/- A machine over pure data, and what it says of Go's machine: parts 13 to 23. -/
import Derived.Test.YtagdffkagpeomaaAMA
import Derived.WalkSpells
import Derived.Deep.Quiet
import Derived.OpenShut
import Derived.ShutString
import Derived.DataReads
import Derived.ChangeArms
import Derived.WideShapes
import Derived.Carry
import Derived.Laws.StructEq
/- A machine over pure data: part 13: rows of the call's own: made, appended to, looked into, handed on. -/
namespace Go.AM
open Go Go.RowKit

theorem VR.cast {ρ : Env} {O : Nat → Prop} {w : World} {x : AV} {v v' : Value} (h : VR ρ O w x v) (e : v = v') : VR ρ O w x v' := e ▸ h

/-- A row of the call's own reads as pure data, for whoever looks into no block of O'. -/
theorem own_reads {ρ : Env} {O O' : Nat → Prop} {w : World} {i : Id} {e sz : Nat} {xs : List (List D)} {v : Value} (h : BOK ρ O w i (.row e sz xs)) (hv : ρ i = some v) (hO : ∀ k, O' k → O k) (hn : ∀ g, vblk v = some g → ¬ O' g) : Reads O' w (.row xs) v := by
  obtain ⟨v', vs, h1, h2, h3, h4⟩ := h
  rw [hv] at h1
  injection h1 with h1
  subst h1
  obtain ⟨hl, h2⟩ := h2
  rcases h2 with ⟨rfl, h5⟩ | ⟨g, cap, cur, rfl, _, hh, hnc, hcm, hcs, htk⟩
  · obtain rfl : xs = [] := List.eq_nil_of_length_eq_zero h5
    exact .none none 0
  · have hk : Keeps O w O' w := ⟨Nat.le_refl _, fun _ _ _ => rfl, fun k hk => .inl (hO k hk)⟩
    refine .row xs sz cap ⟨g, 0, none⟩ (fun j k => vs.getD (j * sz + k) undef) h3 hnc (by simp only [maxLen] at hcm; omega) (hn g rfl) (Array.getElem?_eq_some_iff.1 hh).1 (fun j k x d hx hd => ?_) (fun j k x d hx hd => ?_)
    · obtain ⟨u, e1, e2⟩ := h4 j k x d hx hd
      rw [add_ptr, Nat.zero_add, cell_of_row w g _ cur e (0, 0) hh]
      rw [List.getD_eq_getElem?_getD, e1]
      rw [← htk, List.getElem?_take] at e1
      split at e1
      · simpa using e1
      · cases e1
    · obtain ⟨u, e1, e2⟩ := h4 j k x d hx hd
      rw [List.getD_eq_getElem?_getD, e1]
      exact e2.keep hk

/-! ### a slice's literal -/
def toDs {β : Type} : List AV → (List D → Option β) → Option β
  | [], k => k []
  | x :: r, k => match x with
    | .d y => toDs r fun l => k (y :: l)
    | .nilrow => toDs r fun l => k (.row [] :: l)
    | _ => none
def aslice {β : Type} (σ : St) (sz : Nat) : Nat → List (Nat × Operand) → (List (List D) → Option β) → Option β
  | _, [], k => k []
  | j, (i, x) :: r, k => bif Nat.beq i j then match ev σ x with
    | some (.agg xs) => toDs xs fun ds => bif Nat.beq ds.length sz then aslice σ sz (j + 1) r (fun l => k (ds :: l)) else none
    | some y => toDs [y] fun ds => bif Nat.beq ds.length sz then aslice σ sz (j + 1) r (fun l => k (ds :: l)) else none
    | none => none else none

theorem toDs_spec {β : Type} {r : β} : ∀ {xs : List AV} {k : List D → Option β}, toDs xs k = some r → ∃ ds, k ds = some r ∧ ds.length = xs.length ∧ xs.all isCell = true ∧
    ∀ (ρ : Env) (O : Nat → Prop) (w : World) (j : Nat) x d v, xs[j]? = some x → ds[j]? = some d → VR ρ O w x v → Reads O w d v
  | [], k, h => ⟨[], by simpa [toDs] using h, rfl, rfl, fun ρ O w j x d v h => by simp at h⟩
  | x :: xs, k, h => by
    simp only [toDs] at h
    split at h
    · rename_i y
      obtain ⟨ds, h1, h2, h3, h4⟩ := toDs_spec h
      refine ⟨y :: ds, h1, by simp [h2], by simp [h3, isCell], fun ρ O w j x d v hx hd hv => ?_⟩
      cases j with
      | zero =>
        simp at hx hd
        subst hx; subst hd
        cases hv with
        | d _ _ h => exact h
      | succ j => exact h4 ρ O w j x d v (by simpa using hx) (by simpa using hd) hv
    · obtain ⟨ds, h1, h2, h3, h4⟩ := toDs_spec h
      refine ⟨.row [] :: ds, h1, by simp [h2], by simp [h3, isCell], fun ρ O w j x d v hx hd hv => ?_⟩
      cases j with
      | zero =>
        simp at hx hd
        subst hx; subst hd
        cases hv
        exact .none none 0
      | succ j => exact h4 ρ O w j x d v (by simpa using hx) (by simpa using hd) hv
    · cases h

theorem aslice_spec {c : Ctx} {σ : St} {a : Act} {w : World} {ρ : Env} {O : Nat → Prop} (hs : SatAt c σ a w ρ O) {β : Type} {r : β} {sz : Nat} :
    ∀ {parts : List (Nat × Operand)} {j : Nat} {k : List (List D) → Option β}, aslice σ sz j parts k = some r → ∃ xs, k xs = some r ∧ xs.length = parts.length ∧
      ∀ (i : Nat) p x, parts[i]? = some p → xs[i]? = some x → p.1 = j + i ∧ x.length = sz ∧ (a.eval p.2).cells.size = sz ∧ ∀ (q : Nat) d u, x[q]? = some d → (a.eval p.2).cells[q]? = some u → Reads O w d u ∧ u.oneCell' = true
  | [], j, k, h => ⟨[], by simpa [aslice] using h, rfl, fun i p x h => by simp at h⟩
  | (i, y) :: parts, j, k, h => by
    simp only [aslice] at h
    cases hij : Nat.beq i j with
    | false => rw [hij] at h; cases h
    | true =>
      rw [hij] at h
      simp only [cond_true] at h
      have hij := Nat.eq_of_beq_eq_true hij
      have go : ∀ v, ev σ y = some v → toDs (cellsV v) (fun ds => bif Nat.beq ds.length sz then aslice σ sz (j + 1) parts (fun l => k (ds :: l)) else none) = some r →
          ∃ xs, k xs = some r ∧ xs.length = parts.length + 1 ∧ ∀ (i' : Nat) p x, ((i, y) :: parts)[i']? = some p → xs[i']? = some x → p.1 = j + i' ∧ x.length = sz ∧ (a.eval p.2).cells.size = sz ∧
            ∀ (q : Nat) d u, x[q]? = some d → (a.eval p.2).cells[q]? = some u → Reads O w d u ∧ u.oneCell' = true := by
        intro v hv hd
        obtain ⟨ds, h1, h2, h3, h4⟩ := toDs_spec hd
        cases hb : Nat.beq ds.length sz with
        | false => rw [hb] at h1; cases h1
        | true =>
          rw [hb] at h1
          simp only [cond_true] at h1
          have hb := Nat.eq_of_beq_eq_true hb
          obtain ⟨xs, g1, g2, g3⟩ := aslice_spec hs h1
          obtain ⟨c1, c2⟩ := (ev_sound hs hv).cells h3
          refine ⟨ds :: xs, g1, by simp [g2], fun i' p x hp hx => ?_⟩
          cases i' with
          | zero =>
            simp at hp hx
            subst hp; subst hx
            refine ⟨by simp [hij], hb, by rw [c1, ← h2, hb], fun q d u hq hu => ?_⟩
            have hq' : q < (cellsV v).length := by rw [← h2]; exact (List.getElem?_eq_some_iff.1 hq).1
            obtain ⟨e1, e2⟩ := c2 q _ u (List.getElem?_eq_getElem hq') hu
            exact ⟨h4 ρ O w q _ d u (List.getElem?_eq_getElem hq') hq e1, e2⟩
          | succ i' =>
            obtain ⟨f1, f2⟩ := g3 i' p x (by simpa using hp) (by simpa using hx)
            exact ⟨by omega, f2⟩
      split at h
      · rename_i xs hv
        obtain ⟨a1, a2, a3, a4⟩ := go _ hv h
        exact ⟨a1, a2, a3, a4⟩
      · rename_i v hne hv
        have : cellsV v = [v] := by cases v <;> first | rfl | exact (hne _ rfl).elim
        obtain ⟨a1, a2, a3, a4⟩ := go v hv (by rw [this]; exact h)
        exact ⟨a1, a2, a3, a4⟩
      · cases h

theorem fillS {O : Nat → Prop} {w : World} {sz : Nat} : ∀ (ps : List (Nat × Value)) (xs : List (List D)) (j : Nat) (vs : Array Value), ps.length = xs.length →
    (∀ (k : Nat) p x, ps[k]? = some p → xs[k]? = some x → p.1 = j + k ∧ x.length = sz ∧ p.2.cells.size = sz ∧ ∀ (i : Nat) d u, x[i]? = some d → p.2.cells[i]? = some u → Reads O w d u ∧ u.oneCell' = true) → (j + xs.length) * sz ≤ vs.size →
    ∃ us, Instr.fill (fun i => some (i * sz, sz)) vs ps = some us ∧ us.size = vs.size ∧ (∀ m : Nat, m < j * sz → us[m]? = vs[m]?) ∧
      ∀ (k i : Nat) x d, xs[k]? = some x → x[i]? = some d → ∃ u, us[(j + k) * sz + i]? = some u ∧ Reads O w d u ∧ u.oneCell' = true
  | [], xs, j, vs, hl, _, _ => by
    obtain rfl : xs = [] := List.eq_nil_of_length_eq_zero (by simpa using hl.symm)
    exact ⟨vs, rfl, rfl, fun _ _ => rfl, fun k i x d h => by simp at h⟩
  | p :: ps, [], j, vs, hl, _, _ => by simp at hl
  | p :: ps, x :: xs, j, vs, hl, h, hsz => by
    obtain ⟨h1, h2, h3, h4⟩ := h 0 p x rfl rfl
    have hmul : (j + (xs.length + 1)) * sz = j * sz + sz + xs.length * sz := by rw [Nat.add_mul, Nat.add_mul, Nat.one_mul]; omega
    simp only [List.length_cons] at hsz
    have hle : j * sz + p.2.cells.size ≤ vs.size := by rw [h3]; omega
    obtain ⟨f1, f2⟩ := fill_fold p.2.cells (j * sz) vs hle
    have hj1 : (j + 1) * sz = j * sz + sz := by rw [Nat.add_mul, Nat.one_mul]
    obtain ⟨us, g1, g2, g3, g4⟩ := fillS ps xs (j + 1) (p.2.cells.zipIdx.foldl (fun cs x => cs.setIfInBounds (j * sz + x.2) x.1) vs) (by simpa using hl)
      (fun k p' x' hp hx => by
        obtain ⟨a, b⟩ := h (k + 1) p' x' (by simpa using hp) (by simpa using hx)
        exact ⟨by omega, b⟩) (by rw [f1, Nat.add_mul, hj1]; omega)
    have hp1 : p.1 = j := by simpa using h1
    refine ⟨us, ?_, by rw [g2, f1], fun m hm => ?_, fun k i x' d hx hd => ?_⟩
    · obtain ⟨pi, pv⟩ := p
      simp only at hp1 h3 f1 f2 g1 hle
      subst hp1
      simp only [Instr.fill]
      rw [if_neg (by rw [h3]; simp; rw [h3] at hle; exact hle)]
      exact g1
    · rw [g3 m (by omega), f2, if_neg (by omega)]
    · cases k with
      | zero =>
        simp at hx
        subst hx
        have hi : i < sz := by rw [← h2]; exact (List.getElem?_eq_some_iff.1 hd).1
        have hi' : i < p.2.cells.size := by rw [h3]; exact hi
        obtain ⟨r1, r2⟩ := h4 i d p.2.cells[i] hd (by simp [hi'])
        refine ⟨p.2.cells[i], ?_, r1, r2⟩
        rw [Nat.add_zero, g3 _ (by omega), f2, if_pos (by omega)]
        have : j * sz + i - j * sz = i := by omega
        rw [this]
        simp [hi']
      | succ k =>
        obtain ⟨u, r1, r2⟩ := g4 k i x' d (by simpa using hx) hd
        refine ⟨u, ?_, r2⟩
        have : j + (k + 1) = j + 1 + k := by omega
        rw [this]
        exact r1

section
variable {P : Program} {l rest : List Oper} {Q : Exit → St → Prop} {n d clk : Nat} {T : List (Nat × AV)} {H : List (Nat × Option Blk)} {Hp : List Blk} {x y : Operand} {t t2 ty : TypeId} {pos : String} {aft : Array Edge} {g : Option (Nat × Bool)}

theorem AL.buildSlice {ts : List (Nat × TI)} (hT : TOK P ts) {len : Nat} {parts : Array (Nat × Operand)} (hw : wantedA l ⟨some d, .buildSlice t len parts, ty, pos, aft, g⟩ ⟨n, T, H, Hp, clk⟩ = some true) (hd : Nat.blt d n = true)
    {e s b : Nat} {z : List AV} (ht : lk ts t = some ⟨.slice e, s, b, z⟩) {ie : TI} (he : lk ts e = some ie) {xs : List (List D)} (hxs : aslice ⟨n, T, H, Hp, clk⟩ ie.size 0 parts.toList some = some xs) (hlen : Nat.beq parts.size len = true)
    (hsm : Nat.ble (len * ie.size) 16777216 = true) (hsl : Nat.ble len 16777216 = true) (h : AL P l Q rest ⟨n, (d, .own (.loc clk)) :: T, (clk, some (.row e ie.size xs)) :: H, Hp, clk + 1⟩) : AL P l Q (⟨some d, .buildSlice t len parts, ty, pos, aft, g⟩ :: rest) ⟨n, T, H, Hp, clk⟩ := by
  refine AL.step (σ' := ⟨n, (d, .own (.loc clk)) :: T, (clk, some (.row e ie.size xs)) :: H, Hp, clk + 1⟩) hw ?_ h
  rintro c a w ⟨ρ, O, hs⟩ K Q hK
  obtain ⟨xs', hx1, hx2, hx3⟩ := aslice_spec hs hxs
  cases hx1
  have hlen := Nat.eq_of_beq_eq_true hlen
  have hsm := Nat.le_of_ble_eq_true hsm
  have hsl := Nat.le_of_ble_eq_true hsl
  obtain ⟨du, hu1, hu2⟩ := (hT.facts ht).und
  have hu3 : du = .slice e := by
    cases du <;> simp [tkOf] at hu2
    rw [hu2]
  subst hu3
  obtain ⟨zv, hz1, _⟩ := (hT.facts he).zero w
  have hsz := (hT.facts he).sizeOf w
  have hxl : xs.length = len := by rw [hx2]; simpa using hlen
  have hrun : ∀ zs : Array Value, zs.size = len * ie.size → ∃ us, Instr.fill (fun i => some (i * ie.size, ie.size)) zs (parts.map fun (i, x) => (i, a.eval x)).toList = some us ∧ us.size = len * ie.size ∧
      ∀ (k i : Nat) x d, xs[k]? = some x → x[i]? = some d → ∃ u, us[k * ie.size + i]? = some u ∧ Reads O w d u ∧ u.oneCell' = true := by
    intro zs hzs
    obtain ⟨us, g1, g2, _, g4⟩ := fillS (O := O) (w := w) (sz := ie.size) (parts.map fun (i, x) => (i, a.eval x)).toList xs 0 zs (by simp [hx2]) (fun k p x hp hx => by
      rw [Array.toList_map, List.getElem?_map, Option.map_eq_some_iff] at hp
      obtain ⟨q, hq, rfl⟩ := hp
      exact hx3 k q x hq hx) (by rw [hzs, hxl]; simp)
    exact ⟨us, g1, by rw [g2, hzs], fun k i x d hx hd => by simpa using g4 k i x d hx hd⟩
  have hcells : ∃ us, (Instr.buildSlice t len (parts.map fun (i, x) => (i, a.eval x))).run P w = .ok (.slice (some ⟨w.heap.size, 0, none⟩) len len) (w.alloc (.cells us e)) ∧ us.size = len * ie.size ∧
      ∀ (k i : Nat) x d, xs[k]? = some x → x[i]? = some d → ∃ u, us[k * ie.size + i]? = some u ∧ Reads O w d u ∧ u.oneCell' = true := by
    have hns : ¬ len * ie.size > 2 ^ 24 := by omega
    by_cases h0 : len * ie.size = 0
    · obtain ⟨us, g1, g2, g3⟩ := hrun ((Array.range (len * ie.size)).map ((#[] : Array Value)[· % (#[] : Array Value).size]!)) (by simp)
      refine ⟨us, ?_, g2, g3⟩
      simp only [Instr.buildSlice, Sem.run_bind, run_underlying hu1, Result.andThen_ok, hsz, Sem.run_ite, Sem.run_pure, h0, if_true]
      rw [h0] at g1
      simp only [g1, Sem.run_bind, newRow, run_newObj, Result.andThen_ok, Sem.run_pure, World.alloc_eq]
      simp
    · obtain ⟨us, g1, g2, g3⟩ := hrun ((Array.range (len * ie.size)).map (zv.cells[· % zv.cells.size]!)) (by simp)
      refine ⟨us, ?_, g2, g3⟩
      simp only [Instr.buildSlice, Sem.run_bind, run_underlying hu1, Result.andThen_ok, hsz, Sem.run_ite, hns, if_false, Sem.run_pure, h0, hz1, g1, newRow, run_newObj, World.alloc_eq]
  obtain ⟨us, hr, hus, hcl⟩ := hcells
  have hml : len ≤ maxLen := by unfold maxLen; omega
  have hus2 : us.toList.take (xs.length * ie.size) = us.toList := by rw [hxl, ← hus]; exact List.take_of_length_le (by simp)
  have hus3 : us.toList.length = xs.length * ie.size := by rw [hxl, ← hus]; simp
  have hk0 : Keeps O w (fun k => O k ∨ k = w.heap.size) (w.alloc (.cells us e)) := ⟨by simp, fun k hk _ => Below.heap_alloc w _ k hk, fun k hk => by
    rcases hk with hk | hk
    · exact .inl hk
    · exact .inr (by omega)⟩
  have hm := mk_sat hs (.row e ie.size xs) (.slice (some ⟨w.heap.size, 0, none⟩) len len) (.inl rfl) hk0 (by simp) (fun k hk => Below.heap_alloc w _ k hk) rfl rfl rfl
    ⟨_, us.toList, upd_self _ _ _, ⟨hus3, .inr ⟨w.heap.size, len, us, by rw [hxl], Nat.zero_le _, heap_alloc_new w _, by omega, hml, hus, hus2⟩⟩,
      fun x hx => by
        obtain ⟨k, hk⟩ := List.getElem?_of_mem hx
        have hk' : k < parts.toList.length := by rw [← hx2]; exact (List.getElem?_eq_some_iff.1 hk).1
        exact (hx3 k _ x (List.getElem?_eq_getElem hk') hk).2.1,
      fun j k x d' hx hd' => by
        obtain ⟨u, e1, e2, _⟩ := hcl j k x d' hx hd'
        exact ⟨u, by simpa using e1, e2.keep hk0⟩⟩
  unfold Oper.wp
  simp only [execOp, Sem.run_bind, hr, Result.andThen_ok, Sem.run_pure]
  refine hK _ _ ⟨_, _, put_sat hm (x := .own (.loc clk)) (.own _ _ (upd_self _ _ _) rfl) ?_⟩
  simp [mk, put, hd]
end

end Go.AM

/- A machine over pure data: part 14: append; a row handed on; a row looked into. -/
namespace Go.AM
open Go Go.RowKit

/-- The slice in slot t and its elements. -/
def rowOf (σ : St) : AV → Option (List (List D))
  | .d (.row xs) => some xs
  | .nilrow => some []
  | .own i => match hk σ i with
    | some (.row _ _ xs) => some xs
    | _ => none
  | _ => none

/-- What reads as a row, for whoever looks into no block at all. -/
theorem row_reads {c : Ctx} {σ : St} {a : Act} {w : World} {ρ : Env} {O : Nat → Prop} (hs : SatAt c σ a w ρ O) {x : AV} {xs : List (List D)} (hx : rowOf σ x = some xs) {v : Value} (hv : VR ρ O w x v) : Reads (fun _ => False) w (.row xs) v := by
  have hk : Keeps O w (fun _ => False) w := ⟨Nat.le_refl _, fun _ _ _ => rfl, fun k hk => hk.elim⟩
  cases x with
  | d y =>
    cases y with
    | one => simp [rowOf] at hx
    | row ys =>
      simp only [rowOf] at hx
      cases hx
      cases hv with
      | d _ _ h => exact h.keep hk
  | nilrow =>
    simp only [rowOf] at hx
    cases hx
    cases hv
    exact .none none 0
  | own i =>
    simp only [rowOf] at hx
    split at hx
    · rename_i e sz ys hb
      cases hx
      cases hv with
      | own _ _ h h1 => exact own_reads (hs.H.ok i _ hb) h (fun k hk => hk.elim) (fun _ _ h => h)
    · cases hx
  | _ => simp [rowOf] at hx

/-- A row's cells, as append takes them. -/
theorem reads_cells {w : World} {xs : List (List D)} {v : Value} (h : Reads (fun _ => False) w (.row xs) v) {sz : Nat} (hsz : ∀ x ∈ xs, x.length = sz) (hs0 : 0 < sz) :
    ∃ (A : Option Addr) (c : Nat) (news : List Value), v = .slice A xs.length c ∧ news.length = xs.length * sz ∧ (∀ ad, A = some ad → ∀ (k : Nat) u, news[k]? = some u → w.cell? (ad.add k) = some u) ∧ (A = none → xs = []) ∧ (∀ u ∈ news, u.oneCell' = true) ∧
      (∀ (j k : Nat) x d, xs[j]? = some x → x[k]? = some d → ∃ u : Value, news[j * sz + k]? = some u ∧ u.oneCell' = true) ∧ ∀ (O : Nat → Prop), Reads O w (.row xs) v → ∀ (j k : Nat) x d u, xs[j]? = some x → x[k]? = some d → news[j * sz + k]? = some u → Reads O w d u := by
  cases h with
  | none a c => exact ⟨a, c, [], rfl, by simp, fun ad _ k u h => by simp at h, fun _ => rfl, fun u h => by simp at h, fun j k x d h => by simp at h, fun O _ j k x d u h => by simp at h⟩
  | row _ sz' c ad u hl hc hm hO hb hcell hsub =>
    have hdiv : ∀ j k : Nat, k < sz → (j * sz + k) / sz = j ∧ (j * sz + k) % sz = k := by
      intro j k hk
      constructor
      · rw [Nat.mul_comm, Nat.mul_add_div hs0, Nat.div_eq_of_lt hk, Nat.add_zero]
      · rw [Nat.mul_comm, Nat.mul_add_mod, Nat.mod_eq_of_lt hk]
    have hel : ∀ q, q < xs.length * sz → ∃ x d, xs[q / sz]? = some x ∧ x[q % sz]? = some d ∧ sz' = sz := by
      intro q hq
      have h1 : q / sz < xs.length := (Nat.div_lt_iff_lt_mul hs0).2 hq
      have hmem : xs[q / sz] ∈ xs := List.getElem_mem h1
      have h2 := hsz _ hmem
      have h3 := hl _ hmem
      have h4 : q % sz < (xs[q / sz]).length := by rw [h2]; exact Nat.mod_lt _ hs0
      exact ⟨xs[q / sz], (xs[q / sz])[q % sz], List.getElem?_eq_getElem h1, List.getElem?_eq_getElem h4, by omega⟩
    have hnews : ∀ q, ((List.range (xs.length * sz)).map fun q => u (q / sz) (q % sz))[q]? = if q < xs.length * sz then some (u (q / sz) (q % sz)) else none := by
      intro q
      rw [List.getElem?_map]
      by_cases hq : q < xs.length * sz
      · rw [List.getElem?_range hq, if_pos hq]; rfl
      · rw [if_neg hq, List.getElem?_eq_none (by simp; omega)]; rfl
    have hpos : ∀ (j k : Nat) x d, xs[j]? = some x → x[k]? = some d → j * sz + k < xs.length * sz ∧ (j * sz + k) / sz = j ∧ (j * sz + k) % sz = k := by
      intro j k x d hx hd
      have hj := (List.getElem?_eq_some_iff.1 hx).1
      have hk : k < sz := by rw [← hsz x (List.mem_of_getElem? hx)]; exact (List.getElem?_eq_some_iff.1 hd).1
      obtain ⟨a, b⟩ := hdiv j k hk
      refine ⟨?_, a, b⟩
      have : (j + 1) * sz ≤ xs.length * sz := Nat.mul_le_mul_right _ hj
      rw [Nat.add_mul, Nat.one_mul] at this
      omega
    refine ⟨some ad, c, (List.range (xs.length * sz)).map fun q => u (q / sz) (q % sz), rfl, by simp, fun ad' he k v hv => ?_, fun h => (by cases h), fun v hv => ?_, fun j k x d hx hd => ?_, fun O hR j k x d v hx hd hv => ?_⟩
    · cases he
      rw [hnews] at hv
      split at hv
      · rename_i hq
        cases hv
        obtain ⟨x, d, h1, h2, h3⟩ := hel k hq
        have := hcell _ _ x d h1 h2
        rw [h3, Nat.div_add_mod' k sz] at this
        exact this
      · cases hv
    · obtain ⟨q, hq⟩ := List.getElem?_of_mem hv
      rw [hnews] at hq
      split at hq
      · rename_i hlt
        cases hq
        obtain ⟨x, d, h1, h2, h3⟩ := hel q hlt
        exact (hsub _ _ x d h1 h2).oneCell
      · cases hq
    · obtain ⟨a, b, e⟩ := hpos j k x d hx hd
      refine ⟨u j k, by rw [hnews, if_pos a, b, e], (hsub j k x d hx hd).oneCell⟩
    · obtain ⟨a, b, e⟩ := hpos j k x d hx hd
      rw [hnews, if_pos a, b, e] at hv
      cases hv
      cases hR with
      | none => simp at hx
      | row _ sz2 _ _ u2 hl2 _ _ hO2 _ hcell2 hsub2 =>
        have h2 := hcell2 j k x d hx hd
        have h1 := hcell j k x d hx hd
        have he1 := hl x (List.mem_of_getElem? hx)
        have he2 := hl2 x (List.mem_of_getElem? hx)
        rw [← he1, he2] at h1
        rw [h1] at h2
        injection h2 with h2
        rw [h2]
        exact hsub2 j k x d hx hd

/-- A row in a slot is told anew: it may have been written, moved. -/
theorem rerow_sat {c : Ctx} {n clk i : Nat} {T : List (Nat × AV)} {H : List (Nat × Option Blk)} {Hp : List Blk} {a : Act} {w w1 : World} {ρ : Env} {O : Nat → Prop} (hs : SatAt c ⟨n, T, H, Hp, clk⟩ a w ρ O) {b0 b : Blk} (h0 : hk ⟨n, T, H, Hp, clk⟩ (.loc i) = some b0)
    {v v1 : Value} (hv : ρ (.loc i) = some v) (hat : ∀ g, vblk v1 = some g → vblk v = some g ∨ (g = w.heap.size ∧ g < w1.heap.size)) (hsize : w.heap.size ≤ w1.heap.size) (hold : ∀ k, k < w.heap.size → vblk v ≠ some k → w1.heap[k]? = w.heap[k]?)
    (hos : w1.os = w.os) (htape : w1.tape = w.tape) (hout : w1.output = w.output)
    (hb : BOK (upd ρ clk v1) (fun k => O k ∨ (k = w.heap.size ∧ k < w1.heap.size)) w1 (.loc clk) b) : SatAt c ⟨n, T, (clk, some b) :: (i, none) :: H, Hp, clk + 1⟩ a w1 (upd ρ clk v1) (fun k => O k ∨ (k = w.heap.size ∧ k < w1.heap.size)) := by
  have hf := hs.fresh clk (Nat.le_refl _)
  have he := upd_ext (v := v1) hf
  have hvO : ∀ g, vblk v = some g → O g ∧ g < w.heap.size ∧ Nw c g := fun g hg => hs.H.own (.loc i) b0 g h0 (by rw [hv]; exact hg)
  have hk0 : Keeps O w (fun k => O k ∨ (k = w.heap.size ∧ k < w1.heap.size)) w1 := ⟨hsize, fun k hk hO => hold k hk (fun e => hO (hvO k e).1), fun k hk => by
    rcases hk with hk | hk
    · exact .inl hk
    · exact .inr (by omega)⟩
  have hlk : ∀ j b', hk ⟨n, T, (clk, some b) :: (i, none) :: H, Hp, clk + 1⟩ j = some b' → (j = .loc clk ∧ b' = b) ∨ (j ≠ .loc clk ∧ j ≠ .loc i ∧ hk ⟨n, T, H, Hp, clk⟩ j = some b') := by
    intro j b' h
    cases j with
    | par k => exact .inr ⟨by simp, by simp, h⟩
    | loc k =>
      by_cases e1 : clk = k
      · subst e1
        simp only [hk, lk_cons_self] at h
        exact .inl ⟨rfl, by cases h; rfl⟩
      · by_cases e2 : i = k
        · subst e2
          simp only [hk, lk_cons_ne e1, lk_cons_self] at h
          cases h
        · simp only [hk, lk_cons_ne e1, lk_cons_ne e2] at h
          exact .inr ⟨fun e => by injection e with e; exact e1 e.symm, fun e => by injection e with e; exact e2 e.symm, h⟩
  have hρ : ∀ j g, j ≠ .loc clk → (upd ρ clk v1 j).bind vblk = some g → (ρ j).bind vblk = some g := by
    intro j g h1 h2
    simpa [upd, h1] using h2
  have hne : ∀ j b' g, j ≠ .loc i → hk ⟨n, T, H, Hp, clk⟩ j = some b' → (ρ j).bind vblk = some g → vblk v ≠ some g := by
    intro j b' g hj hb' hg hvg
    exact hj (hs.H.inj j (.loc i) b' b0 g hb' h0 hg (by rw [hv]; exact hvg))
  refine ⟨hs.defers, hs.n, fun k => ?_, fun k hk' => ?_, fun t x ht => ?_, ⟨fun j b' h => ?_, fun j b' g h hg => ?_, fun j k bj bk g hj hk' hgj hgk => ?_⟩, ?_⟩
  · simpa [upd] using hs.par k
  · simp only at hk'
    have : ρ (.loc k) = none := hs.fresh k (by simp only; omega)
    simp only [upd]
    rw [if_neg (by intro e; injection e with e; omega)]
    exact this
  · obtain ⟨u, h1, h2⟩ := hs.T t x ht
    exact ⟨u, h1, h2.keep he hk0⟩
  · rcases hlk j b' h with ⟨rfl, rfl⟩ | ⟨h1, h2, h3⟩
    · exact hb
    · refine (hs.H.ok j b' h3).keep he hk0 (fun g hg => hold g (hs.H.own j b' g h3 hg).2.1 (hne j b' g h2 h3 hg))
  · rcases hlk j b' h with ⟨rfl, rfl⟩ | ⟨h1, h2, h3⟩
    · rw [upd_self] at hg
      simp only [Option.bind_some] at hg
      rcases hat g hg with hg' | ⟨hg', hlt⟩
      · obtain ⟨e1, e2, e3⟩ := hvO g hg'
        exact ⟨.inl e1, by omega, e3⟩
      · subst hg'
        exact ⟨.inr ⟨rfl, hlt⟩, hlt, .inl hs.F.size⟩
    · obtain ⟨e1, e2, e3⟩ := hs.H.own j b' g h3 (hρ j g h1 hg)
      exact ⟨.inl e1, by omega, e3⟩
  · have newg : ∀ j b' g, j ≠ .loc clk → j ≠ .loc i → hk ⟨n, T, H, Hp, clk⟩ j = some b' → (upd ρ clk v1 j).bind vblk = some g → (upd ρ clk v1 (.loc clk)).bind vblk = some g → False := by
      intro j b' g h1 h2 h3 hg hg'
      rw [upd_self] at hg'
      simp only [Option.bind_some] at hg'
      have hgj := hρ j g h1 hg
      rcases hat g hg' with hv' | ⟨hv', _⟩
      · exact hne j b' g h2 h3 hgj hv'
      · have := (hs.H.own j b' g h3 hgj).2.1
        omega
    rcases hlk j bj hj with ⟨rfl, e1⟩ | ⟨h1, h2, h3⟩ <;> rcases hlk k bk hk' with ⟨rfl, e2⟩ | ⟨h1', h2', h3'⟩
    · rfl
    · exact (newg k bk g h1' h2' h3' hgk hgj).elim
    · exact (newg j bj g h1 h2 h3 hgj hgk).elim
    · exact hs.H.inj j k bj bk g h3 h3' (hρ j g h1 hgj) (hρ k g h1' hgk)
  · have hF := hs.F
    refine ⟨hos.trans hF.os, htape.trans hF.tape, hout.trans hF.output, Nat.le_trans hF.size hsize, fun k hk' hW hG => ?_, fun k hk' => .inl (hF.mono k hk'), fun k hk' => ?_, hF.wlt, fun k hk' => ?_, hF.olt0, hF.glt⟩
    · refine (hold k (Nat.lt_of_lt_of_le hk' hF.size) (fun e => ?_)).trans (hF.same k hk' hW hG)
      rcases (hvO k e).2.2 with h | h
      · omega
      · exact hG h
    · rcases hk' with hk' | ⟨hk', _⟩
      · exact hF.news k hk'
      · exact .inr (.inl (by rw [hk']; exact hF.size))
    · rcases hk' with hk' | ⟨_, hk'⟩
      · have := hF.olt k hk'; omega
      · exact hk'

section
variable {P : Program} {l rest : List Oper} {Q : Exit → St → Prop} {n d clk : Nat} {T : List (Nat × AV)} {H : List (Nat × Option Blk)} {Hp : List Blk} {x y : Operand} {t t2 ty : TypeId} {pos : String} {aft : Array Edge} {g : Option (Nat × Bool)}

/-- A nil slice is a row of the call's own, without elements. -/
theorem nilOwn_imp (s e sz : Nat) (hs : lk T s = some .nilrow) : Imp ⟨n, T, H, Hp, clk⟩ ⟨n, (s, .own (.loc clk)) :: T, (clk, some (.row e sz [])) :: H, Hp, clk + 1⟩ := by
  rintro c a w ⟨ρ, O, h⟩
  have hf := h.fresh clk (Nat.le_refl _)
  have he := upd_ext (v := .slice none 0 0) hf
  refine ⟨upd ρ clk (.slice none 0 0), O, h.defers, h.n, fun k => ?_, fun k hk' => ?_, fun t x ht => ?_, ⟨fun i b hb => ?_, fun i b g hb hg => ?_, fun i j bi bj g hi hj hgi hgj => ?_⟩, h.F⟩
  · simpa [upd] using h.par k
  · simp only at hk'
    have : ρ (.loc k) = none := h.fresh k (by simp only; omega)
    simp only [upd]
    rw [if_neg (by intro e; injection e with e; omega)]
    exact this
  · simp only [lk] at ht
    cases hb : Nat.beq s t with
    | true =>
      rw [hb] at ht
      have := Nat.eq_of_beq_eq_true hb
      subst this
      simp at ht
      subst ht
      obtain ⟨v, e1, e2⟩ := h.T s _ hs
      cases e2
      exact ⟨_, e1, .own _ _ (upd_self _ _ _) rfl⟩
    | false =>
      rw [hb] at ht
      obtain ⟨v, e1, e2⟩ := h.T t x ht
      exact ⟨v, e1, e2.keep he (Keeps.refl _ _)⟩
  all_goals
    have hlk : ∀ j b', hk ⟨n, (s, .own (.loc clk)) :: T, (clk, some (.row e sz [])) :: H, Hp, clk + 1⟩ j = some b' → (j = .loc clk ∧ b' = .row e sz []) ∨ (j ≠ .loc clk ∧ hk ⟨n, T, H, Hp, clk⟩ j = some b') := by
      intro j b' h
      cases j with
      | par k => exact .inr ⟨by simp, h⟩
      | loc k =>
        by_cases e1 : clk = k
        · subst e1
          simp only [hk, lk_cons_self] at h
          exact .inl ⟨rfl, by cases h; rfl⟩
        · simp only [hk, lk_cons_ne e1] at h
          exact .inr ⟨fun e => by injection e with e; exact e1 e.symm, h⟩
  · rcases hlk i b hb with ⟨rfl, rfl⟩ | ⟨h1, h2⟩
    · exact ⟨.slice none 0 0, [], upd_self _ _ _, ⟨by simp, .inl ⟨rfl, rfl⟩⟩, fun x hx => by simp at hx, fun j k x d hx => by simp at hx⟩
    · exact (h.H.ok i b h2).keep he (Keeps.refl _ _) (fun _ _ => rfl)
  · rcases hlk i b hb with ⟨rfl, rfl⟩ | ⟨h1, h2⟩
    · rw [upd_self] at hg; simp [vblk] at hg
    · exact h.H.own i b g h2 (by simpa [upd, h1] using hg)
  · rcases hlk i bi hi with ⟨rfl, e1⟩ | ⟨h1, h2⟩
    · rw [upd_self] at hgi; simp [vblk] at hgi
    · rcases hlk j bj hj with ⟨rfl, e2⟩ | ⟨h3, h4⟩
      · rw [upd_self] at hgj; simp [vblk] at hgj
      · exact h.H.inj i j bi bj g h2 h4 (by simpa [upd, h1] using hgi) (by simpa [upd, h3] using hgj)

/-- append(s, xs...), s a row of the call's own. -/
theorem AL.append {ts : List (Nat × TI)} (hT : TOK P ts) (hw : wantedA l ⟨some d, .call ⟨.builtin .append, #[x, y], #[t, t]⟩, ty, pos, aft, g⟩ ⟨n, T, H, Hp, clk⟩ = some true) (hd : Nat.blt d n = true)
    {i e sz : Nat} {xs ys : List (List D)} {vy : AV} (hx : ev ⟨n, T, H, Hp, clk⟩ x = some (.own (.loc i))) (hi : hk ⟨n, T, H, Hp, clk⟩ (.loc i) = some (.row e sz xs)) (hy : ev ⟨n, T, H, Hp, clk⟩ y = some vy) (hys : rowOf ⟨n, T, H, Hp, clk⟩ vy = some ys)
    {s b : Nat} {z : List AV} (ht : lk ts t = some ⟨.slice e, s, b, z⟩) {ie : TI} (he : lk ts e = some ie) (hsz : Nat.beq ie.size sz = true) (hz0 : Nat.beq ie.zero.length sz = true) (hs0 : Nat.blt 0 sz = true) (hel : ∀ x ∈ ys, x.length = sz)
    (hlen : (xs.length + ys.length) * ie.bytes ≤ 140737488355328) (hlen2 : xs.length + ys.length ≤ 9223372036854775807)
    (h : AL P l Q rest ⟨n, (d, .own (.loc clk)) :: T, (clk, some (.row e sz (xs ++ ys))) :: (i, none) :: H, Hp, clk + 1⟩) : AL P l Q (⟨some d, .call ⟨.builtin .append, #[x, y], #[t, t]⟩, ty, pos, aft, g⟩ :: rest) ⟨n, T, H, Hp, clk⟩ := by
  refine AL.step (σ' := ⟨n, (d, .own (.loc clk)) :: T, (clk, some (.row e sz (xs ++ ys))) :: (i, none) :: H, Hp, clk + 1⟩) hw ?_ h
  rintro c a w ⟨ρ, O, hs⟩ K Q hK
  have hsz := Nat.eq_of_beq_eq_true hsz
  have hs0 : 0 < sz := by simpa using hs0
  obtain ⟨du, hu1, hu2⟩ := (hT.facts ht).und
  have hu3 : du = .slice e := by
    cases du <;> simp [tkOf] at hu2
    rw [hu2]
  subst hu3
  obtain ⟨ti, zv, hinf, his, hib, hiz, hzall⟩ := (hT.facts he).info
  have hzs : zv.cells.size = sz := by
    have h1 := (zall_sound hzall).1
    have h2 := Nat.eq_of_beq_eq_true hz0
    rw [← h2, ← h1]
    simp
  obtain ⟨v, vs, hv, hown, hxl, hxc⟩ := hs.H.ok (.loc i) _ hi
  have hxv := ev_sound hs hx
  have hyv := ev_sound hs hy
  obtain ⟨A, cc, news, hye, hnl, hnc, hnA, hn1, hn2, hn3⟩ := reads_cells (row_reads hs hys hyv) hel hs0
  have hax : a.eval x = v := by
    generalize a.eval x = q at hxv
    cases hxv with
    | own _ _ h1 _ => rw [hv] at h1; injection h1 with h1; exact h1.symm
  have hrun : ∃ v1 w1, (Builtin.append_ #[t, t] ty #[v, .slice A ys.length cc]).run P w = .ok v1 w1 ∧ w1.ownsRow 0 e sz v1 (xs ++ ys).length (vs ++ news) ∧ w.grownBy w1 v.ownBlock ∧ (v1.ownBlock = v.ownBlock ∨ v1.ownBlock = some w.heap.size) := by
    cases A with
    | some ad =>
      obtain ⟨v1, w1, r1, r2, r3, _, r5⟩ := run_append_own_at (P := P) w 0 t ty e ti zv sz ie.bytes hu1 hinf hiz (by rw [his, hsz]) hib hzs hs0 v xs.length vs hown ad ys.length cc news hnl (fun j u => hnc ad rfl j u) hn1 (by simp only [maxLen]; omega) hlen (Nat.zero_le _)
      exact ⟨v1, w1, r1, by rw [List.length_append]; exact r2, r3, r5⟩
    | none =>
      obtain rfl := hnA rfl
      obtain rfl : news = [] := List.eq_nil_of_length_eq_zero (by simpa using hnl)
      refine ⟨v, w, ?_, by simpa using hown, ⟨rfl, rfl, rfl, Nat.le_refl _, fun _ _ _ => rfl⟩, .inl rfl⟩
      rcases hown.2 with ⟨rfl, hn⟩ | ⟨g', cap, cur, rfl, _, _, hnc', _⟩
      · simp [Builtin.append_, run_underlying hu1, sizeOf, typeInfo, hinf, Builtin.lenOf, Builtin.firstCells]
      · simp [Builtin.append_, run_underlying hu1, sizeOf, typeInfo, hinf, Builtin.lenOf, Builtin.firstCells, hnc', storeCells]
  obtain ⟨v1, w1, hr, hown1, hgrow, hat⟩ := hrun
  have hvb : vblk v = v.ownBlock := by
    rcases hown.2 with ⟨rfl, _⟩ | ⟨g', cap, cur, rfl, _⟩ <;> rfl
  have hvb1 : vblk v1 = v1.ownBlock := by
    rcases hown1.2 with ⟨rfl, _⟩ | ⟨g', cap, cur, rfl, _⟩ <;> rfl
  have hone : v1.oneCell' = true := by
    rcases hown1.2 with ⟨rfl, _⟩ | ⟨g', cap, cur, rfl, _⟩ <;> rfl
  have hlt1 : ∀ g', v1.ownBlock = some g' → g' < w1.heap.size := by
    intro g' hg'
    rcases hown1.2 with ⟨rfl, _⟩ | ⟨g2, cap, cur, rfl, _, hh, _⟩
    · simp [Value.ownBlock] at hg'
    · simp [Value.ownBlock] at hg'
      subst hg'
      exact (Array.getElem?_eq_some_iff.1 hh).1
  have hk0 : Keeps O w (fun k => O k ∨ (k = w.heap.size ∧ k < w1.heap.size)) w1 := ⟨hgrow.size, fun k hk hO => hgrow.block k hk (fun e => hO (hs.H.own (.loc i) _ k hi (by rw [hv]; simp only [Option.bind_some]; rw [hvb]; exact e.symm)).1), fun k hk => by
    rcases hk with hk | hk
    · exact .inl hk
    · exact .inr (by omega)⟩
  have hyO : Reads O w (.row ys) (a.eval y) ∨ True := .inr trivial
  have hcells : ∀ (j k : Nat) x d, ys[j]? = some x → x[k]? = some d → ∃ u, news[j * sz + k]? = some u ∧ Reads O w d u := by
    intro j k x' d' hj hk'
    obtain ⟨u, e1, e2⟩ := hn2 j k x' d' hj hk'
    refine ⟨u, e1, ?_⟩
    -- an element's own readings look into no block of O
    cases vy with
    | d yd =>
      cases yd with
      | one => simp [rowOf] at hys
      | row ys' =>
        simp only [rowOf] at hys
        cases hys
        cases hyv with
        | d _ _ hR => exact hn3 O hR j k x' d' u hj hk' e1
    | nilrow =>
      simp only [rowOf] at hys
      cases hys
      simp at hj
    | own iy =>
      simp only [rowOf] at hys
      split at hys
      · rename_i e' sz' ys' hb'
        cases hys
        obtain ⟨v2, vs2, f1, f2, f3, f4⟩ := hs.H.ok iy _ hb'
        obtain ⟨u2, g1, g2⟩ := f4 j k x' d' hj hk'
        have hsz' : sz' = sz := by rw [← f3 x' (List.mem_of_getElem? hj), hel x' (List.mem_of_getElem? hj)]
        subst hsz'
        have hv2 : a.eval y = v2 := by
          generalize a.eval y = q at hyv
          cases hyv with
          | own _ _ h1 _ => rw [f1] at h1; injection h1 with h1; exact h1.symm
        rw [hv2] at hye
        have hAd : ∃ ad, A = some ad := by
          cases A with
          | some ad => exact ⟨ad, rfl⟩
          | none => rw [hnA rfl] at hj; simp at hj
        obtain ⟨ad, rfl⟩ := hAd
        have e3 := hnc ad rfl _ _ e1
        rcases f2.2 with ⟨h5, h6⟩ | ⟨g2', cap, cur, h5, _, hh, _, _, _, htk⟩
        · rw [hye] at h5; cases h5
        · rw [hye] at h5
          injection h5 with h5
          injection h5 with h5
          subst h5
          rw [add_ptr, Nat.zero_add, cell_of_row w g2' _ cur e' (0, 0) hh] at e3
          rw [← htk, List.getElem?_take] at g1
          split at g1
          · rw [Array.getElem?_toList, e3] at g1
            injection g1 with g1
            rw [g1]
            exact g2
          · cases g1
      · cases hys
    | _ => simp [rowOf] at hys
  have hm := rerow_sat hs hi hv (v1 := v1) (w1 := w1) (b := .row e sz (xs ++ ys)) (fun g' hg' => by
      rw [hvb1] at hg'
      rcases hat with h1 | h1
      · rw [hvb, ← h1]; exact .inl hg'
      · rw [h1] at hg'
        injection hg' with hg'
        exact .inr ⟨hg'.symm, by rw [← hg']; exact hlt1 _ h1⟩) hgrow.size (fun k hk hne => hgrow.block k hk (fun e => hne (by rw [hvb]; exact e.symm))) hgrow.os hgrow.tape hgrow.output
    ⟨v1, vs ++ news, upd_self _ _ _, hown1, fun x hx => by
      rcases List.mem_append.1 hx with hx | hx
      · exact hxl x hx
      · exact hel x hx, fun j k x' d' hj hk' => by
      have hvl : vs.length = xs.length * sz := hown.1
      by_cases hjx : j < xs.length
      · rw [List.getElem?_append_left hjx] at hj
        obtain ⟨u, e1, e2⟩ := hxc j k x' d' hj hk'
        refine ⟨u, ?_, e2.keep hk0⟩
        rw [List.getElem?_append_left ((List.getElem?_eq_some_iff.1 e1).1)]
        exact e1
      · rw [List.getElem?_append_right (by omega)] at hj
        obtain ⟨u, e1, e2⟩ := hcells _ k x' d' hj hk'
        refine ⟨u, ?_, e2.keep hk0⟩
        have hmul : j * sz + k = xs.length * sz + ((j - xs.length) * sz + k) := by
          have : j * sz = xs.length * sz + (j - xs.length) * sz := by rw [← Nat.add_mul]; congr 1; omega
          omega
        rw [hmul, ← hvl, List.getElem?_append_right (Nat.le_add_right _ _), Nat.add_sub_cancel_left]
        exact e1⟩
  unfold Oper.wp
  have hex : (execOp a.eval ⟨some d, .call ⟨.builtin .append, #[x, y], #[t, t]⟩, ty, pos, aft, g⟩).run P w = .ok (.value v1) w1 := by
    simp only [execOp, resolve, invoke, builtin, Sem.run_bind, Sem.run_pure, Result.andThen_ok, List.map_toArray, List.map_cons, List.map_nil, hax, hye, hr]
  rw [hex]
  refine hK _ _ ⟨_, _, put_sat hm (x := .own (.loc clk)) (.own _ _ (upd_self _ _ _) hone) ?_⟩
  simp [put, hd]
end

end Go.AM

/- A machine over pure data: part 15: a row handed on; indexes, cuts, conversions. -/
namespace Go.AM
open Go Go.RowKit

theorem lk_shadow {α : Type} {T : List (Nat × α)} {s t : Nat} {x y : α} (h : lk ((s, y) :: T) t = some x) : (s = t ∧ y = x) ∨ (s ≠ t ∧ lk T t = some x) := by
  by_cases e : s = t
  · subst e
    rw [lk_cons_self] at h
    injection h with h
    exact .inl ⟨rfl, h⟩
  · rw [lk_cons_ne e] at h
    exact .inr ⟨e, h⟩

/-- A row of the call's own is written no more: it is pure data from here on. -/
theorem freeze_imp {n clk s i e sz : Nat} {T : List (Nat × AV)} {H : List (Nat × Option Blk)} {Hp : List Blk} {xs : List (List D)} (hs : lk T s = some (.own (.loc i))) (hi : hk ⟨n, T, H, Hp, clk⟩ (.loc i) = some (.row e sz xs)) :
    Imp ⟨n, T, H, Hp, clk⟩ ⟨n, (s, .d (.row xs)) :: T, (i, none) :: H, Hp, clk⟩ := by
  rintro c a w ⟨ρ, O, h⟩
  obtain ⟨v, vs, hv, hrest⟩ := h.H.ok (.loc i) _ hi
  have hvO : ∀ g, vblk v = some g → O g ∧ g < w.heap.size ∧ Nw c g := fun g hg => h.H.own (.loc i) _ g hi (by rw [hv]; exact hg)
  have hsub : ∀ k, (O k ∧ vblk v ≠ some k) → O k := fun k hk => hk.1
  have hk0 : Keeps O w (fun k => O k ∧ vblk v ≠ some k) w := ⟨Nat.le_refl _, fun _ _ _ => rfl, fun k hk => .inl hk.1⟩
  have hlk : ∀ j b', hk ⟨n, (s, .d (.row xs)) :: T, (i, none) :: H, Hp, clk⟩ j = some b' → j ≠ .loc i ∧ hk ⟨n, T, H, Hp, clk⟩ j = some b' := by
    intro j b' hb
    cases j with
    | par k => exact ⟨by simp, hb⟩
    | loc k =>
      by_cases e1 : i = k
      · subst e1
        simp only [hk, lk_cons_self] at hb
        cases hb
      · simp only [hk, lk_cons_ne e1] at hb
        exact ⟨fun e => by injection e with e; exact e1 e.symm, hb⟩
  refine ⟨ρ, fun k => O k ∧ vblk v ≠ some k, h.defers, h.n, h.par, h.fresh, fun t x ht => ?_, ⟨fun j b hb => ?_, fun j b g hb hg => ?_, fun j k bj bk g hj hk' => ?_⟩, ?_⟩
  · rcases lk_shadow ht with ⟨rfl, rfl⟩ | ⟨_, ht⟩
    · obtain ⟨u, e1, e2⟩ := h.T s _ hs
      cases e2 with
      | own _ _ h1 _ =>
        refine ⟨u, e1, .d _ _ (own_reads (h.H.ok (.loc i) _ hi) h1 hsub (fun g hg => fun hh => ?_))⟩
        rw [hv] at h1
        injection h1 with h1
        exact hh.2 (h1 ▸ hg)
    · obtain ⟨u, e1, e2⟩ := h.T t x ht
      exact ⟨u, e1, e2.keep (Ext.refl ρ) hk0⟩
  · obtain ⟨h1, h2⟩ := hlk j b hb
    exact (h.H.ok j b h2).keep (Ext.refl ρ) hk0 (fun _ _ => rfl)
  · obtain ⟨h1, h2⟩ := hlk j b hb
    obtain ⟨e1, e2, e3⟩ := h.H.own j b g h2 hg
    refine ⟨⟨e1, fun e => h1 ?_⟩, e2, e3⟩
    exact h.H.inj j (.loc i) b _ g h2 hi hg (by rw [hv]; exact e)
  · exact h.H.inj j k bj bk g (hlk j bj hj).2 (hlk k bk hk').2
  · have hF := h.F
    exact ⟨hF.os, hF.tape, hF.output, hF.size, hF.same, fun k hk' => ⟨hF.mono k hk', fun e => hF.nw (hvO k e).2.2 hk'⟩, fun k hk' => hF.news k hk'.1, hF.wlt, fun k hk' => hF.olt k hk'.1, hF.olt0, hF.glt⟩

/-- What is handed over is pure data; a row of the call's own is lent. -/
def lend1 (σ : St) : AV → AV
  | .own i => match hk σ i with
    | some (.row _ _ xs) => .d (.row xs)
    | _ => .own i
  | x => x
def lend (σ : St) : AV → AV
  | .agg xs => .agg (xs.map (lend1 σ))
  | x => lend1 σ x
theorem lend1_vr {c : Ctx} {σ : St} {a : Act} {w : World} {ρ : Env} {O : Nat → Prop} (hs : SatAt c σ a w ρ O) {z : AV} {v : Value} (hzv : VR ρ O w z v) : VR ρ (fun _ => False) w (lend1 σ z) v := by
  have hk0 : Keeps O w (fun _ => False) w := ⟨Nat.le_refl _, fun _ _ _ => rfl, fun k hk => hk.elim⟩
  cases z with
  | own i =>
    simp only [lend1]
    split
    · rename_i e sz xs hb
      exact .d _ _ (row_reads hs (x := .own i) (by simp [rowOf, hb]) hzv)
    · exact hzv.keep (Ext.refl ρ) hk0
  | _ => exact hzv.keep (Ext.refl ρ) hk0
theorem lend_vr {c : Ctx} {σ : St} {a : Act} {w : World} {ρ : Env} {O : Nat → Prop} (hs : SatAt c σ a w ρ O) {z : AV} {v : Value} (hzv : VR ρ O w z v) : VR ρ (fun _ => False) w (lend σ z) v := by
  cases z with
  | agg xs =>
    cases hzv with
    | agg _ vs hl hc =>
      refine .agg _ vs (by simpa using hl) fun k x u hx hu => ?_
      rw [List.getElem?_map, Option.map_eq_some_iff] at hx
      obtain ⟨y, hy, rfl⟩ := hx
      exact lend1_vr hs (hc k y u hy hu)
  | own i => exact lend1_vr hs hzv
  | d y => exact lend1_vr hs hzv
  | nilrow => exact lend1_vr hs hzv
  | ptr i off => exact lend1_vr hs hzv
  | eptr y => exact lend1_vr hs hzv
  | rptr i sz j f => exact lend1_vr hs hzv
  | sub i sz lo n full => exact lend1_vr hs hzv
  | bsl i n => exact lend1_vr hs hzv
  | tup y => exact lend1_vr hs hzv
  | fn f y => exact lend1_vr hs hzv
  | junk => exact lend1_vr hs hzv
def scal1 : AV → Bool
  | .d (.one _) => true
  | _ => false
def scal : AV → Bool
  | .tup xs => xs.all scal1
  | x => scal1 x
theorem scal1_vr {ρ ρ' : Env} {O O' : Nat → Prop} {w w' : World} {x : AV} (hx : scal1 x = true) {v : Value} (h : VR ρ O w x v) : VR ρ' O' w' x v := by
  cases x with
  | d y =>
    cases y with
    | one u => cases h with | d _ _ h => cases h with | one _ h => exact .d _ _ (.one _ h)
    | row => cases hx
  | _ => cases hx
theorem scal_vr {ρ ρ' : Env} {O O' : Nat → Prop} {w w' : World} {x : AV} (hx : scal x = true) {v : Value} (h : VR ρ O w x v) : VR ρ' O' w' x v := by
  cases x with
  | tup xs =>
    cases h with
    | tup _ vs hl hc => exact .tup _ vs hl fun k x v hx' hv => scal1_vr (List.all_eq_true.1 hx x (List.mem_of_getElem? hx')) (hc k x v hx' hv)
  | d y => exact scal1_vr (x := .d y) hx h
  | _ => cases hx

section
variable {P : Program} {l rest : List Oper} {Q : Exit → St → Prop} {n d clk : Nat} {T : List (Nat × AV)} {H : List (Nat × Option Blk)} {Hp : List Blk} {x y : Operand} {args : Array Operand} {tys : Array TypeId} {t t2 ty : TypeId} {pos : String} {aft : Array Edge} {g : Option (Nat × Bool)}

/-- A call that answers numbers, Bools, strings: rows of the call's own may be lent to it. -/
theorem AL.callB (hw : wantedA l ⟨some d, .call ⟨.value x, args, tys⟩, ty, pos, aft, g⟩ ⟨n, T, H, Hp, clk⟩ = some true) (hd : Nat.blt d n = true) {f : FuncId} {caps as_ : List AV} (hx : ev ⟨n, T, H, Hp, clk⟩ x = some (.fn f caps))
    (ha : aevs ⟨n, T, H, Hp, clk⟩ args.toList some = some as_) {ys : List AV} (hys : (as_.map (lend ⟨n, T, H, Hp, clk⟩)) ++ caps = ys) (hpk : ys.all (pk2 0) = true) {R : AV → Prop} (hc : ACallPR P f ys R)
    (h : ∀ r, R r → scal r = true ∧ AL P l Q rest ⟨n, (d, r) :: T, H, Hp, clk⟩) :
    AL P l Q (⟨some d, .call ⟨.value x, args, tys⟩, ty, pos, aft, g⟩ :: rest) ⟨n, T, H, Hp, clk⟩ := by
  rintro c a w ⟨ρ, O, hs⟩
  refine wpList_step fun K hK => ?_
  rw [if_pos (wantedA_sound hw ⟨ρ, O, hs⟩)]
  have hxv := ev_sound hs hx
  generalize hq : a.eval x = q at hxv
  cases hxv with
  | fn _ _ cvs hcl' hcv =>
    obtain ⟨ha1, ha2⟩ := aevs_vals hs ha
    unfold Oper.wp
    rw [run_call rfl hq hc.1 w]
    rw [Oper.upon_enter]
    have hk0 : Keeps O w (fun _ => False) w := ⟨Nat.le_refl _, fun _ _ _ => rfl, fun k hk => hk.elim⟩
    have hvr : ∀ y v, pk2 0 y = true → VR ρ (fun _ => False) w y v → VR (ρ0 ⟨fun _ => none, fun _ => False, fun _ => False, w, fun _ => False, []⟩) (fun _ => False) w y v := by
      intro y v hy hv
      refine rp2_vr (ρ := ρ) (m := []) (fun k => rfl) hy ?_
      rw [rp2_nil]
      exact hv
    have hini : Ini ⟨fun _ => none, fun _ => False, fun _ => False, w, fun _ => False, []⟩ ys [] (args.map a.eval ++ cvs) := by
      subst hys
      refine ⟨by simp [ha1, hcl'], fun k y v hy hv => ?_, ⟨fun i b hb => ?_, fun i b g hb => ?_, fun i j bi bj g hb => ?_⟩, fun k hk => hk.elim, fun k hk => hk.elim, fun k hk => hk, rfl⟩
      · refine hvr y v (List.all_eq_true.1 hpk y (List.mem_of_getElem? hy)) ?_
        rw [Array.getElem?_append] at hv
        simp only [Array.size_map] at hv
        rw [List.getElem?_append] at hy
        simp only [List.length_map] at hy
        by_cases hk' : k < args.size
        · rw [if_pos hk'] at hv
          rw [if_pos (by omega), List.getElem?_map, Option.map_eq_some_iff] at hy
          obtain ⟨z, hz, rfl⟩ := hy
          have hzv := ha2 k z v hz hv
          exact lend_vr hs hzv
        · rw [if_neg hk'] at hv
          rw [if_neg (by omega)] at hy
          rw [ha1] at hy
          exact (hcv _ _ v hy hv).keep (Ext.refl ρ) hk0
      · cases i <;> simp [hkp] at hb
      · cases i <;> simp [hkp] at hb
      · cases i <;> simp [hkp] at hb
    refine (hc.2 _ _ hini).mono ?_
    rintro e w2 ⟨r, Hp', Hr, v, ρ2, O2, ⟨hR, rfl⟩, rfl, hf⟩
    obtain ⟨hsc, h⟩ := h r hR
    have hF2 := hf.F
    have hall : ∀ k, k < w.heap.size → w2.heap[k]? = w.heap[k]? := fun k hk => hF2.same k hk (fun h => h) (fun h => h)
    have hkeep : Keeps O w O w2 := ⟨hF2.size, fun k hk _ => hall k hk, fun k hk => .inl hk⟩
    have hF := hs.F
    have hsat : SatAt c ⟨n, T, H, Hp, clk⟩ a w2 ρ O := by
      refine ⟨hs.defers, hs.n, hs.par, hs.fresh, fun t y ht => ?_, ⟨fun i b hb => ?_, fun i b g hb hg => ?_, hs.H.inj⟩, ?_⟩
      · obtain ⟨u, e1, e2⟩ := hs.T t y ht
        exact ⟨u, e1, e2.keep (Ext.refl ρ) hkeep⟩
      · exact (hs.H.ok i b hb).keep (Ext.refl ρ) hkeep (fun g hg => hall g (hs.H.own i b g hb hg).2.1)
      · obtain ⟨e1, e2, e3⟩ := hs.H.own i b g hb hg
        exact ⟨e1, Nat.lt_of_lt_of_le e2 hF2.size, e3⟩
      · exact ⟨hF2.os.trans hF.os, hF2.tape.trans hF.tape, hF2.output.trans hF.output, Nat.le_trans hF.size hF2.size, fun k hk' hkW hkG => (hall k (Nat.lt_of_lt_of_le hk' hF.size)).trans (hF.same k hk' hkW hkG), hF.mono, hF.news, hF.wlt,
          fun k hk' => Nat.lt_of_lt_of_le (hF.olt k hk') hF2.size, hF.olt0, hF.glt⟩
    exact hK _ _ (h c _ w2 ⟨ρ, O, put_sat hsat (v := v) (x := r) (scal_vr hsc hf.r) (by simp [put, hd])⟩)

theorem AL.mkv {op : Op} (hw : wantedA l ⟨some d, op, ty, pos, aft, g⟩ ⟨n, T, H, Hp, clk⟩ = some true) (hd : Nat.blt d n = true) {v : AV}
    (hv : ∀ c a w ρ O, SatAt c ⟨n, T, H, Hp, clk⟩ a w ρ O → ∃ u, (execOp a.eval ⟨some d, op, ty, pos, aft, g⟩).run P w = .ok (.value u) w ∧ VR ρ O w v u)
    (h : AL P l Q rest ⟨n, (d, v) :: T, H, Hp, clk⟩) : AL P l Q (⟨some d, op, ty, pos, aft, g⟩ :: rest) ⟨n, T, H, Hp, clk⟩ :=
  AL.step hw (AStep.value (x := v) (by simp [put, hd]) hv) h

theorem und_slice {ts : List (Nat × TI)} (hT : TOK P ts) {t e s b : Nat} {z : List AV} (ht : lk ts t = some ⟨.slice e, s, b, z⟩) : P.underlying t = some (.slice e) := by
  obtain ⟨du, hu1, hu2⟩ := (hT.facts ht).und
  cases du <;> simp [tkOf] at hu2
  rw [hu1, hu2]
theorem und_str {ts : List (Nat × TI)} (hT : TOK P ts) {t s b : Nat} {z : List AV} (ht : lk ts t = some ⟨.str, s, b, z⟩) : P.underlying t = some .string := by
  obtain ⟨du, hu1, hu2⟩ := (hT.facts ht).und
  cases du <;> simp [tkOf] at hu2
  exact hu1
theorem und_int {ts : List (Nat × TI)} (hT : TOK P ts) {t s b : Nat} {k : IntKind} {z : List AV} (ht : lk ts t = some ⟨.int k, s, b, z⟩) : P.underlying t = some (.int k) := by
  obtain ⟨du, hu1, hu2⟩ := (hT.facts ht).und
  cases du <;> simp [tkOf] at hu2
  rw [hu1, hu2]

/-! ### rows of the call's own: an element's address, read, written -/
theorem row_block {c : Ctx} {σ : St} {a : Act} {w : World} {ρ : Env} {O : Nat → Prop} (hs : SatAt c σ a w ρ O) {id : Id} {e sz : Nat} {xs : List (List D)} (hid : hk σ id = some (.row e sz xs)) (hne : xs ≠ []) :
    ∃ gb cap cur, ρ id = some (.slice (some ⟨gb, 0, none⟩) xs.length cap) ∧ w.heap[gb]? = some (.cells cur e (0, 0)) ∧ cur.size = cap * sz ∧ xs.length ≤ cap ∧ (∀ x ∈ xs, x.length = sz) ∧
      ∀ (j k : Nat) x d, xs[j]? = some x → x[k]? = some d → ∃ u, cur[j * sz + k]? = some u ∧ Reads O w d u := by
  obtain ⟨v, vs, h1, h2, h3, h4⟩ := hs.H.ok id _ hid
  rcases h2.2 with ⟨_, h5⟩ | ⟨gb, cap, cur, rfl, _, hh, hnc, _, hcs, htk⟩
  · exact absurd (List.eq_nil_of_length_eq_zero h5) hne
  · refine ⟨gb, cap, cur, h1, hh, hcs, hnc, h3, fun j k x d hx hd => ?_⟩
    obtain ⟨u, e1, e2⟩ := h4 j k x d hx hd
    refine ⟨u, ?_, e2⟩
    rw [← htk, List.getElem?_take] at e1
    split at e1
    · simpa using e1
    · cases e1

theorem AL.idxO {ts : List (Nat × TI)} (hT : TOK P ts) (hw : wantedA l ⟨some d, .indexAddr t x y, ty, pos, aft, g⟩ ⟨n, T, H, Hp, clk⟩ = some true) (hd : Nat.blt d n = true) {id : Id} {e sz : Nat} {xs : List (List D)} (hx : ev ⟨n, T, H, Hp, clk⟩ x = some (.own id))
    (hid : hk ⟨n, T, H, Hp, clk⟩ id = some (.row e sz xs)) {k : IntKind} {i : Int} (hy : ev ⟨n, T, H, Hp, clk⟩ y = some (.d (.one (.int k i)))) {e' s b : Nat} {z : List AV} (ht : lk ts t = some ⟨.slice e', s, b, z⟩) {ie : TI} (he : lk ts e' = some ie)
    (hsz : Nat.beq ie.size sz = true) (h0 : 0 ≤ i) (h1 : i.toNat < xs.length) (h : AL P l Q rest ⟨n, (d, .rptr id sz i.toNat 0) :: T, H, Hp, clk⟩) : AL P l Q (⟨some d, .indexAddr t x y, ty, pos, aft, g⟩ :: rest) ⟨n, T, H, Hp, clk⟩ := by
  refine AL.mkv hw hd (v := .rptr id sz i.toNat 0) (fun c ac w ρ O hs => ?_) h
  have hsz := Nat.eq_of_beq_eq_true hsz
  have hne : xs ≠ [] := fun e => by rw [e] at h1; simp at h1
  obtain ⟨gb, cap, cur, b1, b2, b3, b4, b5, b6⟩ := row_block hs hid hne
  have e1 := ev_sound hs hx
  have e2 := one_of (ev_sound hs hy)
  have hsize := (hT.facts he).sizeOf w
  generalize hq : ac.eval x = q at e1
  cases e1 with
  | own _ _ hρ _ =>
    rw [b1] at hρ
    injection hρ with hρ
    subst hρ
    refine ⟨.pointer (some ⟨gb, i.toNat * sz + 0, none⟩), ?_, .rptr _ _ _ _ gb (by rw [b1]; rfl)⟩
    have hcond : 0 ≤ i ∧ i < (xs.length : Int) := ⟨h0, by omega⟩
    simp [execOp, hq, e2, Instr.indexAt, asIntOf, run_underlying (und_slice hT ht), hsize, hcond, hsz, add_ptr]

theorem AL.loadR {ts : List (Nat × TI)} (hT : TOK P ts) (hw : wantedA l ⟨some d, .load t x, ty, pos, aft, g⟩ ⟨n, T, H, Hp, clk⟩ = some true) (hd : Nat.blt d n = true) {id : Id} {e sz j f : Nat} {xs : List (List D)} (hx : ev ⟨n, T, H, Hp, clk⟩ x = some (.rptr id sz j f))
    (hid : hk ⟨n, T, H, Hp, clk⟩ id = some (.row e sz xs)) {el : List D} (hel : xs[j]? = some el) {v : AV} (hv : (dropK el f fun r => aload ts ⟨n, T, H, Hp, clk⟩ t (.eptr r)) = some v)
    (h : AL P l Q rest ⟨n, (d, v) :: T, H, Hp, clk⟩) : AL P l Q (⟨some d, .load t x, ty, pos, aft, g⟩ :: rest) ⟨n, T, H, Hp, clk⟩ := by
  refine AL.mkv hw hd (v := v) (fun c ac w ρ O hs => ?_) h
  have hne : xs ≠ [] := fun e => by rw [e] at hel; simp at hel
  obtain ⟨gb, cap, cur, b1, b2, b3, b4, b5, b6⟩ := row_block hs hid hne
  obtain ⟨hfl, hv⟩ := dropK_spec hv
  have e1 := ev_sound hs hx
  generalize hq : ac.eval x = q at e1
  cases e1 with
  | rptr _ _ _ _ g' hg =>
    rw [b1] at hg
    simp [vblk] at hg
    subst hg
    have hcell : ∀ (k : Nat) dd, el[k]? = some dd → ∃ u, w.cell? ⟨gb, j * sz + k, none⟩ = some u ∧ Reads O w dd u := by
      intro k dd hk'
      obtain ⟨u, c1, c2⟩ := b6 j k el dd hel hk'
      exact ⟨u, by rw [cell_of_row w gb _ cur e (0, 0) b2]; exact c1, c2⟩
    -- the reading of a load, as at an element of pure data
    unfold aload at hv
    split at hv
    · cases hv
    · rename_i i hi
      have hu : ∃ us : List Value, us.length = (el.drop f).length ∧ (∀ (k : Nat) u, us[k]? = some u → w.cell? (Addr.add ⟨gb, j * sz + f, none⟩ k) = some u) ∧ ∀ (k : Nat) dd u, (el.drop f)[k]? = some dd → us[k]? = some u → Reads O w dd u := by
        refine ⟨(List.range (el.drop f).length).map fun k => (w.cell? ⟨gb, j * sz + (f + k), none⟩).getD undef, by simp, fun k u hu => ?_, fun k dd u hdd hu => ?_⟩
        · rw [List.getElem?_map] at hu
          by_cases hk' : k < (el.drop f).length
          · rw [List.getElem?_range hk'] at hu
            simp only [Option.map_some, Option.some.injEq] at hu
            obtain ⟨u', c1, _⟩ := hcell (f + k) _ (List.getElem?_eq_getElem (by simp at hk'; omega))
            rw [c1] at hu
            simp at hu
            subst hu
            rw [add_ptr, Nat.add_assoc]
            exact c1
          · rw [List.getElem?_eq_none (by simp; simp at hk'; omega)] at hu
            cases hu
        · rw [List.getElem?_drop] at hdd
          obtain ⟨u', c1, c2⟩ := hcell (f + k) dd hdd
          have hk' : k < (el.drop f).length := by
            have := (List.getElem?_eq_some_iff.1 hdd).1
            simp
            omega
          rw [List.getElem?_map, List.getElem?_range hk'] at hu
          simp only [Option.map_some, Option.some.injEq] at hu
          rw [c1] at hu
          simp at hu
          subst hu
          exact c2
      obtain ⟨us, u1, u2, u3⟩ := hu
      simp only at hv
      cases hg : szAgg i with
      | true =>
        rw [hg] at hv
        simp only [cond_true] at hv
        obtain ⟨h8, h9⟩ := takeD_spec hv
        injection h9 with h9
        subst h9
        have hld := loadVar_run hT hi (w := w) ⟨gb, j * sz + f, none⟩ (us.take i.size) (by rw [hg]; simp at h8 u1 ⊢; omega) (fun k v hv => u2 k v (by
          rw [List.getElem?_take] at hv
          split at hv
          · exact hv
          · cases hv))
        rw [hg] at hld
        refine ⟨_, by simp only [execOp, hq, Instr.loadAt, Instr.sureAddr, Sem.run_bind, Sem.run_pure, Result.andThen_ok, hld]; rfl, .agg _ _ (by simp at h8 u1 ⊢; omega) (fun k x' v hx' hv' => ?_)⟩
        simp only [List.getElem?_map, List.getElem?_take] at hx'
        split at hx'
        · rename_i hk'
          rw [Option.map_eq_some_iff] at hx'
          obtain ⟨dd, hdd, rfl⟩ := hx'
          simp [hk'] at hv'
          exact .d _ _ (u3 k dd v hdd hv')
        · simp at hx'
      | false =>
        rw [hg] at hv
        simp only [cond_false] at hv
        obtain ⟨y', h6, h7⟩ := nthK_spec hv
        injection h7 with h7
        subst h7
        have hlt : 0 < us.length := by rw [u1]; exact (List.getElem?_eq_some_iff.1 h6).1
        have hld := loadVar_run hT hi (w := w) ⟨gb, j * sz + f, none⟩ [us[0]] (by rw [hg]; rfl) (fun k v hv => by
          cases k with
          | zero => exact u2 0 v (by simpa [hlt] using hv)
          | succ k => simp at hv)
        rw [hg] at hld
        refine ⟨_, by simp only [execOp, hq, Instr.loadAt, Instr.sureAddr, Sem.run_bind, Sem.run_pure, Result.andThen_ok, hld]; rfl, .d _ _ (u3 0 y' _ h6 (by simp [hlt]))⟩

/-! ### cuts -/
def bnd (σ : St) (o : Option Operand) (dflt : Int) : Option Int :=
  match o with
  | none => some dflt
  | some o => match ev σ o with
    | some (.d (.one (.int _ i))) => some i
    | _ => none

theorem bnd_sound {c : Ctx} {σ : St} {a : Act} {w : World} {ρ : Env} {O : Nat → Prop} (hs : SatAt c σ a w ρ O) {o : Option Operand} {dflt i : Int} (h : bnd σ o dflt = some i) :
    (o = none ∧ i = dflt) ∨ ∃ k, o.map a.eval = some (.int k i) := by
  unfold bnd at h
  split at h
  · cases h; exact .inl ⟨rfl, rfl⟩
  · split at h
    · rename_i o' k i' he
      cases h
      exact .inr ⟨k, by simp [one_of (ev_sound hs he)]⟩
    · cases h

theorem Reads.cut {O : Nat → Prop} {w : World} {xs : List (List D)} {A : Option Addr} {c sz : Nat} (h : Reads O w (.row xs) (.slice A xs.length c)) (hsz : ∀ x ∈ xs, x.length = sz) {i j m : Nat} (hij : i ≤ j) (hj : j ≤ xs.length) (hjm : j ≤ m) (_hm : m ≤ c) :
    Reads O w (.row ((xs.take j).drop i)) (.slice (if m = i then A else A.map (·.add (i * sz))) (j - i) (m - i)) := by
  have hlen : ((xs.take j).drop i).length = j - i := by simp; omega
  by_cases he : j = i
  · have : (xs.take j).drop i = [] := List.eq_nil_of_length_eq_zero (by omega)
    rw [this, he, Nat.sub_self]
    exact .none _ _
  · rw [if_neg (by omega)]
    cases h with
    | none => simp at hj; omega
    | row _ sz' _ ad u hl hc hmx hO hb hcell hsub =>
      have hget : ∀ q : Nat, ((xs.take j).drop i)[q]? = if q < j - i then xs[i + q]? else Option.none := by
        intro q
        rw [List.getElem?_drop, List.getElem?_take]
        by_cases hq : q < j - i
        · rw [if_pos hq, if_pos (by omega)]
        · rw [if_neg hq, if_neg (by omega)]
      have hmem : ∀ x ∈ (xs.take j).drop i, x ∈ xs := fun x hx => List.mem_of_mem_take (List.mem_of_mem_drop hx)
      have := Reads.row (O := O) (w := w) ((xs.take j).drop i) sz (m - i) (ad.add (i * sz)) (fun q k => u (i + q) k) (fun x hx => hsz x (hmem x hx)) (by rw [hlen]; omega) (by rw [hlen]; omega) (by rw [block_add]; exact hO) (by rw [block_add]; exact hb)
        (fun q k x d hx hd => by
          rw [hget] at hx
          split at hx
          · have h1 := hcell (i + q) k x d hx hd
            have : sz' = sz := by rw [← hl x (List.mem_of_getElem? hx), hsz x (List.mem_of_getElem? hx)]
            subst this
            rw [add_add, ← Nat.add_assoc, ← Nat.add_mul]
            exact h1
          · cases hx)
        (fun q k x d hx hd => by
          rw [hget] at hx
          split at hx
          · exact hsub (i + q) k x d hx hd
          · cases hx)
      rw [hlen] at this
      exact this

theorem VOp.slice {ts : List (Nat × TI)} (hT : TOK P ts) {lo hi mx : Option Operand} {o : Option Tmp} {σ : St} {xs : List (List D)} (hx : ev σ x = some (.d (.row xs)))
    {e s b : Nat} {z : List AV} (ht : lk ts t = some ⟨.slice e, s, b, z⟩) {ie : TI} (he : lk ts e = some ie) (hsz : ∀ x ∈ xs, x.length = ie.size) {i j m : Int} (hlo : bnd σ lo 0 = some i) (hhi : bnd σ hi xs.length = some j) (hmx : bnd σ mx j = some m)
    (hmh : mx.isSome = true → hi.isSome = true) (h0 : 0 ≤ i) (h1 : i ≤ j) (h2 : j ≤ xs.length) (h3 : j ≤ m) (h4 : m ≤ xs.length) : VOp P σ ⟨o, .slice t x lo hi mx, ty, pos, aft, g⟩ (.d (.row ((xs.take j.toNat).drop i.toNat))) := by
  refine VOp.mk fun c ac w ρ O hs => ?_
  have e1 := ev_sound hs hx
  generalize hq : ac.eval x = q at e1
  cases e1 with
  | d _ _ hr =>
    obtain ⟨A, cc, rfl, hcc, hm63⟩ := hr.slice
    have hsize := (hT.facts he).sizeOf (P := P)
    have hrun : ∃ m', j.toNat ≤ m' ∧ m' ≤ cc ∧ ∀ w, (Instr.sliceBounds true xs.length cc (lo.map ac.eval) (hi.map ac.eval) (mx.map ac.eval)).run P w = .ok (i.toNat, j.toNat, m') w := by
      rcases bnd_sound hs hmx with ⟨rfl, rfl⟩ | ⟨k3, hk3⟩
      · refine ⟨cc, by omega, Nat.le_refl _, fun w => ?_⟩
        rcases bnd_sound hs hlo with ⟨rfl, rfl⟩ | ⟨k1, hk1⟩ <;> rcases bnd_sound hs hhi with ⟨rfl, rfl⟩ | ⟨k2, hk2⟩
        · simp [Instr.sliceBounds]
        · have : (0 : Int) ≤ m ∧ m ≤ (cc : Int) := ⟨by omega, by omega⟩
          simp [Instr.sliceBounds, hk2, Instr.sliceBound, asIntOf, this]
        · have : (0 : Int) ≤ i ∧ i ≤ (xs.length : Int) := ⟨by omega, by omega⟩
          simp [Instr.sliceBounds, hk1, Instr.sliceBound, asIntOf, this]
        · have a1 : (0 : Int) ≤ m ∧ m ≤ (cc : Int) := ⟨by omega, by omega⟩
          have a2 : (0 : Int) ≤ i ∧ i ≤ ((m.toNat : Nat) : Int) := ⟨by omega, by omega⟩
          simp only [Instr.sliceBounds, hk1, hk2, Instr.sliceBound, asIntOf, a1, a2, Option.map_none, Sem.run_bind, Sem.run_pure, Result.andThen_ok, and_self, if_true, Sem.run_ite]
      · refine ⟨m.toNat, by omega, by omega, fun w => ?_⟩
        have hmxs : mx.isSome = true := by cases mx <;> simp at hk3 ⊢
        rcases bnd_sound hs hhi with ⟨rfl, _⟩ | ⟨k2, hk2⟩
        · exact absurd (hmh hmxs) (by simp)
        · have a0 : (0 : Int) ≤ m ∧ m ≤ (cc : Int) := ⟨by omega, by omega⟩
          have a1 : (0 : Int) ≤ j ∧ j ≤ ((m.toNat : Nat) : Int) := ⟨by omega, by omega⟩
          have a2 : (0 : Int) ≤ i ∧ i ≤ ((j.toNat : Nat) : Int) := ⟨by omega, by omega⟩
          rcases bnd_sound hs hlo with ⟨rfl, rfl⟩ | ⟨k1, hk1⟩
          · simp only [Instr.sliceBounds, hk3, hk2, Instr.sliceBound, asIntOf, a0, a1, Option.map_none, Sem.run_bind, Sem.run_pure, Result.andThen_ok, and_self, if_true, Sem.run_ite]
            rfl
          · simp only [Instr.sliceBounds, hk3, hk1, hk2, Instr.sliceBound, asIntOf, a0, a1, a2, Sem.run_bind, Sem.run_pure, Result.andThen_ok, and_self, if_true, Sem.run_ite]
    obtain ⟨m', hm1, hm2, hrun⟩ := hrun
    refine ⟨.slice (if m' = i.toNat then A else A.map (·.add (i.toNat * ie.size))) (j.toNat - i.toNat) (m' - i.toNat), fun w' _ => ?_, .d _ _ (hr.cut hsz (by omega) (by omega) hm1 hm2)⟩
    simp only [execOp, hq, Instr.sliceAt, Sem.run_bind, run_underlying (und_slice hT ht), Result.andThen_ok, Instr.slice, hrun, hsize, Sem.run_pure]

theorem AL.slice {ts : List (Nat × TI)} (hT : TOK P ts) {lo hi mx : Option Operand} (hw : wantedA l ⟨some d, .slice t x lo hi mx, ty, pos, aft, g⟩ ⟨n, T, H, Hp, clk⟩ = some true) (hd : Nat.blt d n = true) {xs : List (List D)} (hx : ev ⟨n, T, H, Hp, clk⟩ x = some (.d (.row xs)))
    {e s b : Nat} {z : List AV} (ht : lk ts t = some ⟨.slice e, s, b, z⟩) {ie : TI} (he : lk ts e = some ie) (hsz : ∀ x ∈ xs, x.length = ie.size) {i j m : Int} (hlo : bnd ⟨n, T, H, Hp, clk⟩ lo 0 = some i) (hhi : bnd ⟨n, T, H, Hp, clk⟩ hi xs.length = some j) (hmx : bnd ⟨n, T, H, Hp, clk⟩ mx j = some m)
    (hmh : mx.isSome = true → hi.isSome = true) (h0 : 0 ≤ i) (h1 : i ≤ j) (h2 : j ≤ xs.length) (h3 : j ≤ m) (h4 : m ≤ xs.length) (h : AL P l Q rest ⟨n, (d, .d (.row ((xs.take j.toNat).drop i.toNat))) :: T, H, Hp, clk⟩) :
    AL P l Q (⟨some d, .slice t x lo hi mx, ty, pos, aft, g⟩ :: rest) ⟨n, T, H, Hp, clk⟩ :=
  AL.v hw hd (.slice hT hx ht he hsz hlo hhi hmx hmh h0 h1 h2 h3 h4) h

/-- A byte of a string. -/
def byteAt (s : ByteArray) (i : Nat) : Int := ((s.data.toList.getD i 0).toNat : Int)

theorem VOp.sidx {ts : List (Nat × TI)} (hT : TOK P ts) {o : Option Tmp} {σ : St} {s : ByteArray} (hx : ev σ x = some (st s))
    {k : IntKind} {i : Int} (hy : ev σ y = some (.d (.one (.int k i)))) {s1 b1 : Nat} {z : List AV} (ht : lk ts t = some ⟨.str, s1, b1, z⟩) (h0 : 0 ≤ i) (h1 : i < s.size) :
    VOp P σ ⟨o, .index t x y, ty, pos, aft, g⟩ (.d (.one (.int .u8 (byteAt s i.toNat)))) := by
  refine VOp.mk fun c ac w ρ O hs => ?_
  have e1 := one_of (ev_sound hs hx)
  have e2 := one_of (ev_sound hs hy)
  refine ⟨.int .u8 (byteAt s i.toNat), fun w' _ => ?_, .d _ _ (.one _ rfl)⟩
  have hlt : i.toNat < s.size := by omega
  have hb : s[i.toNat]? = some (s[i.toNat]'hlt) := getElem?_pos s i.toNat hlt
  have hby : ((s[i.toNat]'hlt).toNat : Int) = byteAt s i.toNat := by
    have hl : i.toNat < s.data.toList.length := by rw [Array.length_toList]; exact hlt
    simp only [byteAt, List.getD_eq_getElem?_getD, List.getElem?_eq_getElem hl, Option.getD_some]
    rfl
  simp only [execOp, e1, e2, Instr.index, asIntOf, Sem.run_bind, Sem.run_pure, Result.andThen_ok, run_underlying (und_str hT ht), h0, if_true, hb, hby]
theorem AL.sidx {ts : List (Nat × TI)} (hT : TOK P ts) (hw : wantedA l ⟨some d, .index t x y, ty, pos, aft, g⟩ ⟨n, T, H, Hp, clk⟩ = some true) (hd : Nat.blt d n = true) {s : ByteArray} (hx : ev ⟨n, T, H, Hp, clk⟩ x = some (st s))
    {k : IntKind} {i : Int} (hy : ev ⟨n, T, H, Hp, clk⟩ y = some (.d (.one (.int k i)))) {s1 b1 : Nat} {z : List AV} (ht : lk ts t = some ⟨.str, s1, b1, z⟩) (h0 : 0 ≤ i) (h1 : i < s.size)
    (h : AL P l Q rest ⟨n, (d, .d (.one (.int .u8 (byteAt s i.toNat)))) :: T, H, Hp, clk⟩) : AL P l Q (⟨some d, .index t x y, ty, pos, aft, g⟩ :: rest) ⟨n, T, H, Hp, clk⟩ :=
  AL.v hw hd (.sidx hT hx hy ht h0 h1) h
end

end Go.AM

/- A machine over pure data: part 16: regions that draw their order. -/
namespace Go.AM
open Go Go.RowKit

theorem sat_below {c : Ctx} {σ : St} {a : Act} {w w' : World} {ρ : Env} {O : Nat → Prop} (hs : SatAt c σ a w ρ O) (hb : Below w.heap.size w w') : SatAt c σ a w' ρ O := by
  have hall : ∀ k, k < w.heap.size → w'.heap[k]? = w.heap[k]? := fun k hk => hb.block k hk
  have hkeep : Keeps O w O w' := ⟨hb.size, fun k hk _ => hall k hk, fun k hk => .inl hk⟩
  have hF := hs.F
  refine ⟨hs.defers, hs.n, hs.par, hs.fresh, fun t y ht => ?_, ⟨fun i b hb => ?_, fun i b g hb' hg => ?_, hs.H.inj⟩, ?_⟩
  · obtain ⟨u, e1, e2⟩ := hs.T t y ht
    exact ⟨u, e1, e2.keep (Ext.refl ρ) hkeep⟩
  · exact (hs.H.ok i b hb).keep (Ext.refl ρ) hkeep (fun g hg => hall g (hs.H.own i b g hb hg).2.1)
  · obtain ⟨e1, e2, e3⟩ := hs.H.own i b g hb' hg
    exact ⟨e1, Nat.lt_of_lt_of_le e2 hb.size, e3⟩
  · exact ⟨hb.os.trans hF.os, hb.tape.trans hF.tape, hb.output.trans hF.output, Nat.le_trans hF.size hb.size, fun k hk' hkW hkG => (hall k (Nat.lt_of_lt_of_le hk' hF.size)).trans (hF.same k hk' hkW hkG), hF.mono, hF.news, hF.wlt,
      fun k hk' => Nat.lt_of_lt_of_le (hF.olt k hk') hb.size, hF.olt0, hF.glt⟩

/-- The one value that a number, a Bool, a string, or a tuple of these, is. -/
def vOf1 : AV → Value
  | .d (.one u) => u
  | _ => undef
def vOf : AV → Value
  | .tup xs => .tuple (xs.map vOf1).toArray
  | x => vOf1 x
theorem scal1_vOf {ρ : Env} {O : Nat → Prop} {w : World} {x : AV} (hx : scal1 x = true) {v : Value} (h : VR ρ O w x v) : v = vOf1 x := by
  cases x with
  | d y =>
    cases y with
    | one u => exact one_of h
    | row => cases hx
  | _ => cases hx
theorem scal_vOf {ρ : Env} {O : Nat → Prop} {w : World} {x : AV} (hx : scal x = true) {v : Value} (h : VR ρ O w x v) : v = vOf x := by
  cases x with
  | tup xs =>
    cases h with
    | tup _ vs hl hc =>
      simp only [vOf]
      congr 1
      apply Array.ext (by simp [hl])
      intro k h1 h2
      have hk : k < xs.length := by rw [hl]; exact h1
      have := scal1_vOf (List.all_eq_true.1 hx _ (List.getElem_mem hk)) (hc k xs[k] vs[k] (List.getElem?_eq_getElem hk) (Array.getElem?_eq_getElem h1))
      simp [this]
  | d y => exact scal1_vOf (x := .d y) hx h
  | _ => cases hx

def sok1 : AV → Bool
  | .d (.one u) => u.oneCell'
  | _ => false
def sok : AV → Bool
  | .tup xs => xs.all sok1
  | x => sok1 x
theorem sok1_vr {x : AV} (h : sok1 x = true) (ρ : Env) (O : Nat → Prop) (w : World) : scal1 x = true ∧ VR ρ O w x (vOf1 x) := by
  cases x with
  | d y =>
    cases y with
    | one u => exact ⟨rfl, .d _ _ (.one u h)⟩
    | row => cases h
  | _ => cases h
theorem sok_vr {x : AV} (h : sok x = true) (ρ : Env) (O : Nat → Prop) (w : World) : scal x = true ∧ VR ρ O w x (vOf x) := by
  cases x with
  | tup xs =>
    have h1 : ∀ y ∈ xs, scal1 y = true ∧ VR ρ O w y (vOf1 y) := fun y hy => sok1_vr (List.all_eq_true.1 h y hy) ρ O w
    refine ⟨List.all_eq_true.2 fun y hy => (h1 y hy).1, .tup xs _ (by simp) fun k y v hy hv => ?_⟩
    rw [List.getElem?_toArray, List.getElem?_map, hy] at hv
    simp at hv
    subst hv
    exact (h1 y (List.mem_of_getElem? hy)).2
  | d y => exact sok1_vr (x := .d y) h ρ O w
  | _ => cases h

/-- A call that is lent rows, from a world. -/
theorem lend_calls {P : Program} {c : Ctx} {σ : St} {a : Act} {w : World} {ρ : Env} {O : Nat → Prop} (hs : SatAt c σ a w ρ O) {args : Array Operand} {as_ caps ys : List AV} {cvs : Array Value} (ha : aevs σ args.toList some = some as_)
    (hcl' : caps.length = cvs.size) (hcv : ∀ (k : Nat) x v, caps[k]? = some x → cvs[k]? = some v → VR ρ O w x v) (hys : (as_.map (lend σ)) ++ caps = ys) (hpk : ys.all (pk2 0) = true) {f : FuncId} {R : AV → Prop} (hc : ACallPR P f ys R) :
    Calls P f (args.map a.eval ++ cvs) w fun e w2 => ∃ r v, R r ∧ e = .returned v ∧ (∃ ρ2 O2, VR ρ2 O2 w2 r v) ∧ Below w.heap.size w w2 := by
  obtain ⟨ha1, ha2⟩ := aevs_vals hs ha
  have hk0 : Keeps O w (fun _ => False) w := ⟨Nat.le_refl _, fun _ _ _ => rfl, fun k hk => hk.elim⟩
  have hvr : ∀ y v, pk2 0 y = true → VR ρ (fun _ => False) w y v → VR (ρ0 ⟨fun _ => none, fun _ => False, fun _ => False, w, fun _ => False, []⟩) (fun _ => False) w y v := by
    intro y v hy hv
    refine rp2_vr (ρ := ρ) (m := []) (fun k => rfl) hy ?_
    rw [rp2_nil]
    exact hv
  have hini : Ini ⟨fun _ => none, fun _ => False, fun _ => False, w, fun _ => False, []⟩ ys [] (args.map a.eval ++ cvs) := by
    subst hys
    refine ⟨by simp [ha1, hcl'], fun k y v hy hv => ?_, ⟨fun i b hb => ?_, fun i b g hb => ?_, fun i j bi bj g hb => ?_⟩, fun k hk => hk.elim, fun k hk => hk.elim, fun k hk => hk, rfl⟩
    · refine hvr y v (List.all_eq_true.1 hpk y (List.mem_of_getElem? hy)) ?_
      rw [Array.getElem?_append] at hv
      simp only [Array.size_map] at hv
      rw [List.getElem?_append] at hy
      simp only [List.length_map] at hy
      by_cases hk' : k < args.size
      · rw [if_pos hk'] at hv
        rw [if_pos (by omega), List.getElem?_map, Option.map_eq_some_iff] at hy
        obtain ⟨z, hz, rfl⟩ := hy
        have hzv := ha2 k z v hz hv
        exact lend_vr hs hzv
      · rw [if_neg hk'] at hv
        rw [if_neg (by omega)] at hy
        rw [ha1] at hy
        exact (hcv _ _ v hy hv).keep (Ext.refl ρ) hk0
    · cases i <;> simp [hkp] at hb
    · cases i <;> simp [hkp] at hb
    · cases i <;> simp [hkp] at hb
  refine (hc.2 _ _ hini).mono ?_
  rintro e w2 ⟨r, Hp', Hr, v, ρ2, O2, ⟨hR, rfl⟩, rfl, hf⟩
  have hF2 := hf.F
  exact ⟨r, v, hR, rfl, ⟨ρ2, O2, hf.r⟩, ⟨hF2.os, hF2.tape, hF2.output, hF2.size, fun k hk => hF2.same k hk (fun h => h) (fun h => h)⟩⟩

/-! ### every operation a value, or a call that answers one: the text's order serves every order -/
def AQ (P : Program) (l : List Oper) (Q : Exit → St → Prop) (rest : List Oper) (σ : St) : Prop :=
  ∀ c a w, Sat c σ a w → wpQuiet P l.toArray (fun w' => Below w.heap.size w w') (fun a' => ∀ w', Below w.heap.size w w' → post c Q .normal a' w') rest a

section
variable {P : Program} {l rest : List Oper} {Q : Exit → St → Prop} {σ : St} {o : Oper}
theorem AW.drawn {id : Nat} (hm : P.follows .mixedOrders = true) (hB : Region.lexB .any l.toArray = true) (h : AQ P l Q l σ) : AW P (.region id l.toArray true) Q σ := fun c a w hs =>
  wp_region_quiet (C := fun w' => Below w.heap.size w w') hm hB ⟨rfl, rfl, rfl, Nat.le_refl _, fun _ _ => rfl⟩ (h c a w hs)
theorem AQ.nil (h : Q .normal σ) : AQ P l Q [] σ := fun _ _ _ ⟨ρ, O, hs⟩ => wpQuiet_nil fun _ hb => ⟨σ, h, ρ, O, sat_below hs hb⟩
theorem AQ.imp {σ' : St} (hi : Imp σ σ') (h : AQ P l Q rest σ') : AQ P l Q rest σ := fun c a w hs => h c a w (hi c a w hs)
theorem AQ.v {σ' : St} {v : AV} (hw : wantedA l o σ = some true) (hv : VOp P σ o v) (hp : put σ o.dst v = some σ') (h : AQ P l Q rest σ') : AQ P l Q (o :: rest) σ := by
  rintro c a w ⟨ρ, O, hs⟩
  refine wpQuiet_step fun K hK => ?_
  rw [if_pos (wantedA_sound hw ⟨ρ, O, hs⟩)]
  obtain ⟨u, h1, h2⟩ := hv.h c a w ρ O hs
  refine ⟨u, fun w' hb => ?_, hK _ (h c _ w ⟨ρ, O, put_sat hs h2 hp⟩)⟩
  unfold Oper.quietAt
  rw [h1 w' hb]
  exact ⟨rfl, rfl⟩
theorem AQ.do {ts : List (Nat × TI)} (hT : TOK P ts) {σ' : St} {v : AV} (hw : wantedA l o σ = some true) (hv : aval ts σ o.op = some v) (hp : put σ o.dst v = some σ') (h : AQ P l Q rest σ') : AQ P l Q (o :: rest) σ :=
  AQ.v hw (.of hT hv) hp h
theorem AQ.no {σ' : St} (hw : wantedA l o σ = some false) (hp : put σ o.dst (.tup []) = some σ') (h : AQ P l Q rest σ') : AQ P l Q (o :: rest) σ := by
  intro c a w hsat
  refine wpQuiet_step fun K hK => ?_
  rw [if_neg (by rw [wantedA_sound hw hsat]; simp)]
  obtain ⟨ρ, O, hs⟩ := hsat
  refine hK _ (h c _ w ⟨ρ, O, put_sat hs (v := undef) ?_ hp⟩)
  exact .tup [] #[] rfl (fun k x v h => by simp at h)
theorem AQ.split {t : Nat} {b : Bool} (hb : lk σ.T t = some (.d (.one (.bool b)))) (ht : b = true → AQ P l Q rest (Go.AM.know σ t true)) (hf : b = false → AQ P l Q rest (Go.AM.know σ t false)) : AQ P l Q rest σ := by
  cases b with
  | true => exact AQ.imp (know_imp hb) (ht rfl)
  | false => exact AQ.imp (know_imp hb) (hf rfl)
theorem AQ.guard {t : Nat} {b : Bool} (_hg : gdst l o = some t) (hb : lk σ.T t = some (.d (.one (.bool b)))) (ht : b = true → AQ P l Q (o :: rest) (Go.AM.know σ t true))
    (hf : b = false → AQ P l Q (o :: rest) (Go.AM.know σ t false)) : AQ P l Q (o :: rest) σ := AQ.split hb ht hf
end

section
variable {P : Program} {l rest : List Oper} {Q : Exit → St → Prop} {n d clk : Nat} {T : List (Nat × AV)} {H : List (Nat × Option Blk)} {Hp : List Blk} {x y : Operand} {args : Array Operand} {tys : Array TypeId} {t t2 ty : TypeId} {pos : String} {aft : Array Edge} {g : Option (Nat × Bool)}
theorem AQ.callB (hw : wantedA l ⟨some d, .call ⟨.value x, args, tys⟩, ty, pos, aft, g⟩ ⟨n, T, H, Hp, clk⟩ = some true) (hd : Nat.blt d n = true) {f : FuncId} {caps as_ : List AV} (hx : ev ⟨n, T, H, Hp, clk⟩ x = some (.fn f caps))
    (ha : aevs ⟨n, T, H, Hp, clk⟩ args.toList some = some as_) {ys : List AV} (hys : (as_.map (lend ⟨n, T, H, Hp, clk⟩)) ++ caps = ys) (hpk : ys.all (pk2 0) = true) {r : AV} (hc : ACallP P f ys r)
    (hr : sok r = true) (h : AQ P l Q rest ⟨n, (d, r) :: T, H, Hp, clk⟩) : AQ P l Q (⟨some d, .call ⟨.value x, args, tys⟩, ty, pos, aft, g⟩ :: rest) ⟨n, T, H, Hp, clk⟩ := by
  rintro c a w ⟨ρ, O, hs⟩
  refine wpQuiet_step fun K hK => ?_
  rw [if_pos (wantedA_sound hw ⟨ρ, O, hs⟩)]
  have hxv := ev_sound hs hx
  generalize hq : a.eval x = q at hxv
  cases hxv with
  | fn _ _ cvs hcl' hcv =>
    have hq1 : ∀ w', Below w.heap.size w w' → Calls P f (args.map a.eval ++ cvs) w' fun e w2 => e = .returned (vOf r) ∧ Below w.heap.size w w2 := by
      intro w' hb
      have hs' := sat_below hs hb
      refine (lend_calls (cvs := cvs) hs' ha hcl' (fun k y v hy hv => ?_) hys hpk hc).mono ?_
      · have hkeep : Keeps O w O w' := ⟨hb.size, fun k hk _ => hb.block k hk, fun k hk => .inl hk⟩
        exact (hcv k y v hy hv).keep (Ext.refl ρ) hkeep
      · rintro e w2 ⟨r', v, rfl, rfl, ⟨ρ2, O2, hv⟩, hb2⟩
        exact ⟨by rw [scal_vOf (sok_vr hr ρ O w).1 hv], ⟨hb2.os.trans hb.os, hb2.tape.trans hb.tape, hb2.output.trans hb.output, Nat.le_trans hb.size hb2.size, fun k hk => (hb2.block k (Nat.lt_of_lt_of_le hk hb.size)).trans (hb.block k hk)⟩⟩
    refine ⟨vOf r, fun w' hb => ?_, ?_⟩
    · unfold Oper.quietAt
      rw [run_call rfl hq hc.1 w']
      exact ⟨rfl, hq1 w' hb⟩
    · refine hK _ (h c _ w ⟨ρ, O, put_sat hs (v := vOf r) (x := r) (sok_vr hr ρ O w).2 (by simp [put, hd])⟩)

/-! ### every order, one by one -/
/-- One operation. -/
def AOp (P : Program) (l : List Oper) (i : Nat) (K : St → Prop) (σ : St) : Prop :=
  match l[i]? with
  | none => K σ
  | some o => AL P l (fun e σ' => e = .normal ∧ K σ') [o] σ
def AD (P : Program) (l : List Oper) (Q : Exit → St → Prop) : Nat → Array Bool → St → Prop
  | 0, listed, σ => Region.ready .any l.toArray listed = [] ∧ Q .normal σ
  | fuel + 1, listed, σ => (Region.ready .any l.toArray listed = [] → Q .normal σ) ∧ ∀ i ∈ Region.ready .any l.toArray listed, AOp P l i (AD P l Q fuel (listed.setIfInBounds i true)) σ

theorem wp_both {o : Oper} {a : Act} {w : World} {K K' : Act → World → Prop} {Q Q' : Exit → Act → World → Prop} (h : ∀ a w, K a w → K' a w) (hQ : ∀ e a w, e ≠ .normal → Q e a w → Q' e a w) (hh : o.wp P a w K Q) : o.wp P a w K' Q' := by
  unfold Oper.wp at *
  generalize (execOp a.eval o).run P w = r at *
  cases r with
  | ok n w' =>
    cases n <;> simp only [Oper.upon] at hh ⊢ <;>
      first
        | exact h _ _ hh
        | exact Calls.mono hh (fun e w'' he => by cases e <;> first | exact h _ _ he | exact hQ _ _ _ (by simp) he | exact he.imp fun _ => .imp fun _ => hQ _ _ _ (by simp))
        | exact Rows.mono hh (fun _ _ he => h _ _ he)
  | halt x w' => cases x <;> simp only [Oper.upon] at hh ⊢ <;> exact hQ _ _ _ (by simp) hh

theorem AOp.sound {i : Nat} {K : St → Prop} {σ : St} {c : Ctx} {a : Act} {w : World} (h : AOp P l i K σ) (hs : Sat c σ a w) (Q' : Exit → Act → World → Prop) {K' : Act → World → Prop} (hK : ∀ σ' a' w', K σ' → Sat c σ' a' w' → K' a' w') : wpOp P l.toArray Q' i K' a w := by
  unfold AOp at h
  unfold wpOp
  rw [List.getElem?_toArray]
  cases ho : l[i]? with
  | none => rw [ho] at h; exact hK σ a w h hs
  | some o =>
    rw [ho] at h
    have h1 := h c a w hs
    simp only [wpList] at h1
    have hnil : ∀ a' w', post c (fun e σ' => e = .normal ∧ K σ') .normal a' w' → K' a' w' := by
      rintro a' w' ⟨σ', ⟨_, h2⟩, h3⟩
      exact hK σ' a' w' h2 h3
    split at h1
    · rename_i hw
      simp only [hw, if_true]
      rcases h1 with h1 | ⟨_, a', w', σ', ⟨he, _⟩, _⟩
      · exact .inl (wp_both hnil (fun e a' w' hne ⟨σ', ⟨he, _⟩, _⟩ => absurd he hne) h1)
      · cases he
    · rename_i hw
      simp only [hw]
      exact hnil _ _ h1

theorem AD.sound {Q : Exit → St → Prop} : ∀ (fuel : Nat) (listed : Array Bool) (σ : St), AD P l Q fuel listed σ → ∀ c a w, Sat c σ a w → wpAny P .any l.toArray (post c Q) fuel listed a w
  | 0, _, σ, h, _, _, _, hs => ⟨h.1, σ, h.2, hs⟩
  | fuel + 1, _, σ, h, c, _, _, hs => ⟨fun h0 => ⟨σ, h.1 h0, hs⟩, fun i hi => (h.2 i hi).sound hs _ fun σ' a' w' h1 h2 => AD.sound fuel _ σ' h1 c a' w' h2⟩

theorem AW.orders {id : Nat} {σ : St} (hm : P.follows .mixedOrders = true) (h : AD P l Q l.length (Array.replicate l.length false) σ) : AW P (.region id l.toArray true) Q σ := by
  rintro c a w ⟨ρ, O, hs⟩
  refine wp_region_any hm ?_
  have := AD.sound _ _ σ h c a { w with drawn := w.drawn + 1 } ⟨ρ, O, sat_below hs ⟨rfl, rfl, rfl, Nat.le_refl _, fun _ _ => rfl⟩⟩
  simpa using this

/-- Which may come next: one by one. -/
def EachO (F : Nat → Prop) (rs : List Nat) : Nat → Prop
  | 0 => True
  | k + 1 => (k ∈ rs → F k) ∧ EachO F rs k
theorem EachO.zero {F : Nat → Prop} {rs : List Nat} : EachO F rs 0 := trivial
theorem EachO.no {F : Nat → Prop} {rs : List Nat} {k : Nat} (h0 : rs.contains k = false) (h : EachO F rs k) : EachO F rs (k + 1) := ⟨fun hm => by simp at h0; exact absurd hm h0, h⟩
theorem EachO.yes {F : Nat → Prop} {rs : List Nat} {k : Nat} (h1 : F k) (h : EachO F rs k) : EachO F rs (k + 1) := ⟨fun _ => h1, h⟩
theorem EachO.all {F : Nat → Prop} {rs : List Nat} : ∀ {n : Nat}, EachO F rs n → ∀ k ∈ rs, k < n → F k
  | 0, _, k, _, h => by omega
  | n + 1, h, k, hk, hl => by
    by_cases e : k = n
    · subst e; exact h.1 hk
    · exact h.2.all k hk (by omega)
theorem AD.step {fuel : Nat} {listed : Array Bool} {σ : St} (hne : (Region.ready .any l.toArray listed).isEmpty = false) (h : EachO (fun i => AOp P l i (AD P l Q fuel (listed.setIfInBounds i true)) σ) (Region.ready .any l.toArray listed) l.length) : AD P l Q (fuel + 1) listed σ := by
  refine And.intro (fun h0 => by rw [h0] at hne; cases hne) (fun i hi => EachO.all h i hi ?_)
  obtain ⟨_, o, ho, _⟩ := mem_ready.1 hi
  have := (Array.getElem?_eq_some_iff.1 ho).1
  simpa using this
theorem AD.done {listed : Array Bool} {σ : St} (hr : (Region.ready .any l.toArray listed).isEmpty = true) (h : Q .normal σ) : AD P l Q 0 listed σ := ⟨List.isEmpty_iff.1 hr, h⟩
theorem AOp.some {i : Nat} {o : Oper} {K : St → Prop} {σ : St} (ho : l[i]? = some o) (h : AL P l (fun e σ' => e = .normal ∧ K σ') [o] σ) : AOp P l i K σ := by
  unfold AOp
  rw [ho]
  exact h
end

end Go.AM

/- A machine over pure data: part 17: a string's runes, one after the other; conversions; the least and the greatest. -/
namespace Go.AM
open Go Go.RowKit

abbrev i32 (a : Int) : AV := .d (.one (.int .i32 a))
abbrev u8 (a : Int) : AV := .d (.one (.int .u8 a))

theorem bo_iff {a b : Bool} (h : a = true ↔ b = true) : bo a = bo b := by rw [Bool.eq_iff_iff.2 h]

section
variable {P : Program} {l rest : List Oper} {Q : Exit → St → Prop} {n d clk : Nat} {T : List (Nat × AV)} {H : List (Nat × Option Blk)} {Hp : List Blk} {x y : Operand} {args : Array Operand} {tys : Array TypeId} {t t2 ty : TypeId} {pos : String} {aft : Array Edge} {g : Option (Nat × Bool)}

theorem AL.range {ts : List (Nat × TI)} (hT : TOK P ts) (hw : wantedA l ⟨some d, .range t x, ty, pos, aft, g⟩ ⟨n, T, H, Hp, clk⟩ = some true) (hd : Nat.blt d n = true) {s : ByteArray} (hx : ev ⟨n, T, H, Hp, clk⟩ x = some (st s))
    {s1 b1 : Nat} {z : List AV} (ht : lk ts t = some ⟨.str, s1, b1, z⟩) (h : AL P l Q rest ⟨n, (d, .ptr (.loc clk) 0) :: T, (clk, some (.iter s 0)) :: H, Hp, clk + 1⟩) :
    AL P l Q (⟨some d, .range t x, ty, pos, aft, g⟩ :: rest) ⟨n, T, H, Hp, clk⟩ := by
  refine AL.step (σ' := ⟨n, (d, .ptr (.loc clk) 0) :: T, (clk, some (.iter s 0)) :: H, Hp, clk + 1⟩) hw ?_ h
  rintro c a w ⟨ρ, O, hs⟩ K Q' hK
  have hk0 : Keeps O w (fun k => O k ∨ k = w.heap.size) (w.alloc (.stringIter s 0)) := ⟨by simp, fun k hk _ => Below.heap_alloc w _ k hk, fun k hk => by
    rcases hk with hk | hk
    · exact .inl hk
    · exact .inr (by omega)⟩
  have hm := mk_sat hs (.iter s 0) (.pointer (some ⟨w.heap.size, 0, none⟩)) (.inl rfl) hk0 (by simp) (fun k hk => Below.heap_alloc w _ k hk) rfl rfl rfl
    ⟨w.heap.size, upd_self _ _ _, heap_alloc_new w _⟩
  have e1 := one_of (ev_sound hs hx)
  unfold Oper.wp
  simp only [execOp, e1, Instr.range, Sem.run_bind, run_underlying (und_str hT ht), Result.andThen_ok, Sem.run_pure, run_newObj]
  refine hK _ _ ⟨_, _, put_sat hm (.ptr (.loc clk) 0 w.heap.size ?_) (by simp [put, mk, hd])⟩
  simp [upd_self, vblk]

theorem heap_set_ne (w : World) (g k : Nat) (o : Obj) (h : k ≠ g) : (w.heap.setIfInBounds g o)[k]? = w.heap[k]? := by
  rw [Array.getElem?_setIfInBounds, if_neg (Ne.symm h)]

theorem AL.nextT (hw : wantedA l ⟨some d, .next x true, ty, pos, aft, g⟩ ⟨n, T, H, Hp, clk⟩ = some true) (hd : Nat.blt d n = true) {s : ByteArray} {p i : Nat} (hx : ev ⟨n, T, H, Hp, clk⟩ x = some (.ptr (.loc i) 0))
    (hi : lk H i = some (some (.iter s p))) (hp : p < s.size) (h : AL P l Q rest ⟨n, (d, .tup [bo true, i64 p, i32 (Utf8.decode s p).1]) :: T, (i, some (.iter s (p + (Utf8.decode s p).2))) :: H, Hp, clk⟩) :
    AL P l Q (⟨some d, .next x true, ty, pos, aft, g⟩ :: rest) ⟨n, T, H, Hp, clk⟩ := by
  refine AL.step (σ' := ⟨n, (d, .tup [bo true, i64 p, i32 (Utf8.decode s p).1]) :: T, (i, some (.iter s (p + (Utf8.decode s p).2))) :: H, Hp, clk⟩) hw ?_ h
  rintro c a w ⟨ρ, O, hs⟩ K Q' hK
  have hb : hk ⟨n, T, H, Hp, clk⟩ (.loc i) = some (.iter s p) := by simp [hk, hi]
  obtain ⟨gb, h1, h2⟩ := hs.H.ok (.loc i) _ hb
  have e1 := ev_sound hs hx
  generalize hq : a.eval x = q at e1
  cases e1 with
  | ptr _ _ g' hg =>
    rw [h1] at hg
    simp [vblk] at hg
    subst hg
    have hsat := chg_sat hs hb (b := .iter s (p + (Utf8.decode s p).2)) (σ' := ⟨n, T, (i, some (.iter s (p + (Utf8.decode s p).2))) :: H, Hp, clk⟩) rfl (g := gb) (w' := { w with heap := w.heap.setIfInBounds gb (.stringIter s (p + (Utf8.decode s p).2)) })
      (by rw [h1]; rfl) (fun k hk => heap_set_ne w gb k _ hk) (by simp) rfl rfl rfl ⟨gb, h1, by have := (Array.getElem?_eq_some_iff.1 h2).1; simp [this]⟩
    unfold Oper.wp
    have hrun : (execOp a.eval ⟨some d, .next x true, ty, pos, aft, g⟩).run P w = .ok (.value (.tuple #[.bool true, .int .i64 p, .int .i32 (Utf8.decode s p).1])) { w with heap := w.heap.setIfInBounds gb (.stringIter s (p + (Utf8.decode s p).2)) } := by
      simp [execOp, hq, Instr.next, getObj, setObj, Sem.run, h2, Result.andThen, hp, goInt]
    rw [hrun]
    refine hK _ _ ⟨_, _, put_sat hsat (x := .tup [bo true, i64 p, i32 (Utf8.decode s p).1]) (v := .tuple #[.bool true, .int .i64 p, .int .i32 (Utf8.decode s p).1]) (.tup _ _ rfl fun k y v hy hv => ?_) (by simp [put, hd])⟩
    match k, hy, hv with
    | 0, hy, hv => simp at hy hv; subst hy; subst hv; exact .d _ _ (.one _ rfl)
    | 1, hy, hv => simp at hy hv; subst hy; subst hv; exact .d _ _ (.one _ rfl)
    | 2, hy, hv => simp at hy hv; subst hy; subst hv; exact .d _ _ (.one _ rfl)
    | k + 3, hy, hv => simp at hy

theorem AL.nextF (hw : wantedA l ⟨some d, .next x true, ty, pos, aft, g⟩ ⟨n, T, H, Hp, clk⟩ = some true) (hd : Nat.blt d n = true) {s : ByteArray} {p i : Nat} (hx : ev ⟨n, T, H, Hp, clk⟩ x = some (.ptr (.loc i) 0))
    (hi : lk H i = some (some (.iter s p))) (hp : s.size ≤ p) (h : AL P l Q rest ⟨n, (d, .tup [bo false]) :: T, H, Hp, clk⟩) :
    AL P l Q (⟨some d, .next x true, ty, pos, aft, g⟩ :: rest) ⟨n, T, H, Hp, clk⟩ := by
  refine AL.mkv hw hd (v := .tup [bo false]) (fun c a w ρ O hs => ?_) h
  have hb : hk ⟨n, T, H, Hp, clk⟩ (.loc i) = some (.iter s p) := by simp [hk, hi]
  obtain ⟨gb, h1, h2⟩ := hs.H.ok (.loc i) _ hb
  have e1 := ev_sound hs hx
  generalize hq : a.eval x = q at e1
  cases e1 with
  | ptr _ _ g' hg =>
    rw [h1] at hg
    simp [vblk] at hg
    subst hg
    refine ⟨.tuple #[.bool false], by simp [execOp, hq, Instr.next, getObj, Sem.run, h2, Result.andThen, Nat.not_lt.2 hp], .tup _ _ rfl fun k y v hy hv => ?_⟩
    match k, hy, hv with
    | 0, hy, hv => simp at hy hv; subst hy; subst hv; exact .d _ _ (.one _ rfl)
    | k + 1, hy, hv => simp at hy

theorem AL.sidxN {ts : List (Nat × TI)} (hT : TOK P ts) (hw : wantedA l ⟨some d, .index t x y, ty, pos, aft, g⟩ ⟨n, T, H, Hp, clk⟩ = some true) (hd : Nat.blt d n = true) {s : ByteArray} (hx : ev ⟨n, T, H, Hp, clk⟩ x = some (st s))
    {k : IntKind} {i : Nat} (hy : ev ⟨n, T, H, Hp, clk⟩ y = some (.d (.one (.int k (i : Int))))) {s1 b1 : Nat} {z : List AV} (ht : lk ts t = some ⟨.str, s1, b1, z⟩) (h1 : i < s.size)
    (h : AL P l Q rest ⟨n, (d, .d (.one (.int .u8 (byteAt s i)))) :: T, H, Hp, clk⟩) : AL P l Q (⟨some d, .index t x y, ty, pos, aft, g⟩ :: rest) ⟨n, T, H, Hp, clk⟩ :=
  AL.sidx hT hw hd hx hy ht (by omega) (by omega) (by simpa using h)

/-- A call that answers one number, Bool or string, or a tuple of these; rows may be lent to it. -/
theorem AL.callS (hw : wantedA l ⟨some d, .call ⟨.value x, args, tys⟩, ty, pos, aft, g⟩ ⟨n, T, H, Hp, clk⟩ = some true) (hd : Nat.blt d n = true) {f : FuncId} {caps as_ : List AV} (hx : ev ⟨n, T, H, Hp, clk⟩ x = some (.fn f caps))
    (ha : aevs ⟨n, T, H, Hp, clk⟩ args.toList some = some as_) {ys : List AV} (hys : (as_.map (lend ⟨n, T, H, Hp, clk⟩)) ++ caps = ys) (hpk : ys.all (pk2 0) = true) {r : AV} (hc : ACallP P f ys r) (hr : scal r = true)
    (h : AL P l Q rest ⟨n, (d, r) :: T, H, Hp, clk⟩) : AL P l Q (⟨some d, .call ⟨.value x, args, tys⟩, ty, pos, aft, g⟩ :: rest) ⟨n, T, H, Hp, clk⟩ :=
  AL.callB hw hd hx ha hys hpk (R := (· = r)) hc (fun r' e => by subst e; exact ⟨hr, h⟩)

/-- An element's address, in a row of things that are told in cells. -/
theorem VOp.idxM {ts : List (Nat × TI)} (hT : TOK P ts) {o : Option Tmp} {σ : St} {α : Type} {f : α → List D} {xs : List α} (hx : ev σ x = some (.d (.row (xs.map f)))) {k : IntKind} {i : Nat} (hy : ev σ y = some (.d (.one (.int k (i : Int)))))
    {e s b : Nat} {z : List AV} (ht : lk ts t = some ⟨.slice e, s, b, z⟩) {ie : TI} (he : lk ts e = some ie) (hf : ∀ x, (f x).length = ie.size) (hi : i < xs.length) : VOp P σ ⟨o, .indexAddr t x y, ty, pos, aft, g⟩ (.eptr (f (xs[i]'hi))) :=
  VOp.idx hT hx hy ht he (by omega) (by simp [hi]) (hf _)
theorem AL.idxM {ts : List (Nat × TI)} (hT : TOK P ts) (hw : wantedA l ⟨some d, .indexAddr t x y, ty, pos, aft, g⟩ ⟨n, T, H, Hp, clk⟩ = some true) (hd : Nat.blt d n = true) {α : Type} {f : α → List D} {xs : List α} (hx : ev ⟨n, T, H, Hp, clk⟩ x = some (.d (.row (xs.map f))))
    {k : IntKind} {i : Nat} (hy : ev ⟨n, T, H, Hp, clk⟩ y = some (.d (.one (.int k (i : Int))))) {e s b : Nat} {z : List AV} (ht : lk ts t = some ⟨.slice e, s, b, z⟩) {ie : TI} (he : lk ts e = some ie) (hf : ∀ x, (f x).length = ie.size) (hi : i < xs.length)
    (h : AL P l Q rest ⟨n, (d, .eptr (f (xs[i]'hi))) :: T, H, Hp, clk⟩) : AL P l Q (⟨some d, .indexAddr t x y, ty, pos, aft, g⟩ :: rest) ⟨n, T, H, Hp, clk⟩ :=
  AL.v hw hd (.idxM hT hx hy ht he hf hi) h

theorem VOp.rem {o : Option Tmp} {σ : St} {a b : Int} (hx : ev σ x = some (i64 a)) (hy : ev σ y = some (i64 b)) (h0 : 0 ≤ a) (h1 : 0 < b) : VOp P σ ⟨o, .binOp .rem t x y t2, ty, pos, aft, g⟩ (i64 (a % b)) := by
  refine VOp.mk fun c ac w ρ O hs => ?_
  have e1 := one_of (ev_sound hs hx)
  have e2 := one_of (ev_sound hs hy)
  refine ⟨.int .i64 (a % b), fun w' _ => ?_, .d _ _ (.one _ rfl)⟩
  have hne : b ≠ 0 := by omega
  have hg : (eqGuard .rem t x y (.int .i64 a) (.int .i64 b)).run P w' = .ok () w' := rfl
  simp only [execOp, e1, e2]
  rw [Sem.run_bind, Sem.run_bind, hg]
  simp [binOp, Op.intDiv, hne, Int.tmod_eq_emod_of_nonneg h0]
theorem AL.rem (hw : wantedA l ⟨some d, .binOp .rem t x y t2, ty, pos, aft, g⟩ ⟨n, T, H, Hp, clk⟩ = some true) (hd : Nat.blt d n = true) {a b : Int} (hx : ev ⟨n, T, H, Hp, clk⟩ x = some (i64 a)) (hy : ev ⟨n, T, H, Hp, clk⟩ y = some (i64 b))
    (h0 : 0 ≤ a) (h1 : 0 < b) (h : AL P l Q rest ⟨n, (d, i64 (a % b)) :: T, H, Hp, clk⟩) : AL P l Q (⟨some d, .binOp .rem t x y t2, ty, pos, aft, g⟩ :: rest) ⟨n, T, H, Hp, clk⟩ :=
  AL.v hw hd (.rem hx hy h0 h1) h

/-- A cut of a row of things that are told in cells. -/
theorem VOp.cutM {ts : List (Nat × TI)} (hT : TOK P ts) {lo hi mx : Option Operand} {o : Option Tmp} {σ : St} {α : Type} {f : α → List D} {xs : List α} (hx : ev σ x = some (.d (.row (xs.map f))))
    {e s b : Nat} {z : List AV} (ht : lk ts t = some ⟨.slice e, s, b, z⟩) {ie : TI} (he : lk ts e = some ie) (hf : ∀ x, (f x).length = ie.size) {i j m : Nat} (hlo : bnd σ lo 0 = some (i : Int)) (hhi : bnd σ hi (xs.map f).length = some (j : Int)) (hmx : bnd σ mx (j : Int) = some (m : Int))
    (hmh : mx.isSome = true → hi.isSome = true) (h1 : i ≤ j) (h3 : j ≤ m) (h4 : m ≤ xs.length) : VOp P σ ⟨o, .slice t x lo hi mx, ty, pos, aft, g⟩ (.d (.row (((xs.take j).drop i).map f))) := by
  have := VOp.slice (P := P) (o := o) (ty := ty) (pos := pos) (aft := aft) (g := g) hT hx ht he (fun x hx => by
    obtain ⟨y, _, rfl⟩ := List.mem_map.1 hx
    exact hf y) hlo hhi hmx hmh (by omega) (by omega) (by simp; omega) (by omega) (by simp; omega)
  simpa [List.map_take, List.map_drop] using this
/-- x[:j] -/
theorem VOp.cutTo {ts : List (Nat × TI)} (hT : TOK P ts) {hi : Operand} {o : Option Tmp} {σ : St} {α : Type} {f : α → List D} {xs : List α} (hx : ev σ x = some (.d (.row (xs.map f))))
    {e s b : Nat} {z : List AV} (ht : lk ts t = some ⟨.slice e, s, b, z⟩) {ie : TI} (he : lk ts e = some ie) (hf : ∀ x, (f x).length = ie.size) {j : Nat} (hhi : bnd σ (some hi) 0 = some (j : Int)) (h4 : j ≤ xs.length) :
    VOp P σ ⟨o, .slice t x none (some hi) none, ty, pos, aft, g⟩ (.d (.row ((xs.take j).map f))) := by
  have := VOp.cutM (P := P) (lo := none) (hi := some hi) (mx := none) (o := o) (ty := ty) (pos := pos) (aft := aft) (g := g) (i := 0) (j := j) (m := j) hT hx ht he hf rfl hhi rfl (by simp) (by omega) (by omega) h4
  simpa using this
/-- x[i:] -/
theorem VOp.cutFrom {ts : List (Nat × TI)} (hT : TOK P ts) {lo : Operand} {o : Option Tmp} {σ : St} {α : Type} {f : α → List D} {xs : List α} (hx : ev σ x = some (.d (.row (xs.map f))))
    {e s b : Nat} {z : List AV} (ht : lk ts t = some ⟨.slice e, s, b, z⟩) {ie : TI} (he : lk ts e = some ie) (hf : ∀ x, (f x).length = ie.size) {i : Nat} (hlo : bnd σ (some lo) 0 = some (i : Int)) (h4 : i ≤ xs.length) :
    VOp P σ ⟨o, .slice t x (some lo) none none, ty, pos, aft, g⟩ (.d (.row ((xs.drop i).map f))) := by
  have := VOp.cutM (P := P) (lo := some lo) (hi := none) (mx := none) (o := o) (ty := ty) (pos := pos) (aft := aft) (g := g) (i := i) (j := xs.length) (m := xs.length) hT hx ht he hf hlo (by simp [bnd]) rfl (by simp) h4 (by omega) (by omega)
  simpa using this

theorem AW.condT {σ : St} {a b : Code} (hx : ev σ x = some (.d (.one (.bool true)))) (h : AW P a Q σ) : AW P (.cond x a b) Q σ := AW.cond hx (fun _ => h) (fun h => by cases h)
theorem AW.condF {σ : St} {a b : Code} (hx : ev σ x = some (.d (.one (.bool false)))) (h : AW P b Q σ) : AW P (.cond x a b) Q σ := AW.cond hx (fun h => by cases h) (fun _ => h)
end

end Go.AM

/- A machine over pure data: part 18: what a law's argument may be, as pure data. -/
namespace Go.AM
open Go Go.RowKit

/-- What an argument of a type may be: its cells. -/
inductive DT (ts : List (Nat × TI)) : Nat → List D → Prop
  | bool {t s b : Nat} {z : List AV} (h : lk ts t = some ⟨.bool, s, b, z⟩) (x : Bool) : DT ts t [.one (.bool x)]
  | int {t s b : Nat} {k : IntKind} {z : List AV} (h : lk ts t = some ⟨.int k, s, b, z⟩) (n : Int) (hn : (Lit.int k n).wf = true) : DT ts t [.one (.int k n)]
  | str {t s b : Nat} {z : List AV} (h : lk ts t = some ⟨.str, s, b, z⟩) (x : ByteArray) (hx : x.size ≤ maxLen) (hb : x.size ≤ 140737488351232) : DT ts t [.one (.string x)]
  | slice {t e s b : Nat} {z : List AV} {ie : TI} (h : lk ts t = some ⟨.slice e, s, b, z⟩) (he : lk ts e = some ie) (xs : List (List D)) (hl : xs.length ≤ maxLen) (hb : xs.length * ie.bytes ≤ 140737488351232) (hx : ∀ x ∈ xs, DT ts e x) (hs : ∀ x ∈ xs, x.length = ie.size) : DT ts t [.row xs]
  | strct {t s b : Nat} {offs tys : List Nat} {z : List AV} (h : lk ts t = some ⟨.strct offs tys, s, b, z⟩) (ds : List D) (hl : ds.length = s)
      (hf : ∀ (k o ty : Nat) (i : TI), offs[k]? = some o → tys[k]? = some ty → lk ts ty = some i → DT ts ty ((ds.drop o).take i.size)) : DT ts t ds

/-- A struct's fields lie one behind the other, from acc on; where they end. -/
def lay (ts : List (Nat × TI)) : List Nat → List Nat → Nat → Option Nat
  | [], [], acc => some acc
  | o :: os, t :: tys, acc => bif Nat.beq o acc then match lk ts t with
    | some i => lay ts os tys (acc + i.size)
    | none => none else none
  | _, _, _ => none

theorem lay_open {ts : List (Nat × TI)} {Q : Nat → List D → Prop} {R : D → Value → Prop} {cs : List Value} : ∀ (offs tys : List Nat) (acc s : Nat), lay ts offs tys acc = some s →
    (∀ (k o ty : Nat) (i : TI), offs[k]? = some o → tys[k]? = some ty → lk ts ty = some i → ∃ ds : List D, ds.length = i.size ∧ (∀ (m : Nat) y v, ds[m]? = some y → cs[o + m]? = some v → R y v) ∧ Q ty ds) →
    acc ≤ s ∧ ∃ ds : List D, ds.length = s - acc ∧ (∀ (m : Nat) y v, ds[m]? = some y → cs[acc + m]? = some v → R y v) ∧
      ∀ (k o ty : Nat) (i : TI), offs[k]? = some o → tys[k]? = some ty → lk ts ty = some i → acc ≤ o ∧ Q ty ((ds.drop (o - acc)).take i.size)
  | [], [], acc, s, h, _ => by
    simp only [lay, Option.some.injEq] at h
    subst h
    exact ⟨Nat.le_refl _, [], by simp, fun m y v hy => by simp at hy, fun k o ty i hk => by simp at hk⟩
  | o :: os, t :: tys, acc, s, h, hf => by
    simp only [lay] at h
    cases hb : Nat.beq o acc with
    | false => rw [hb] at h; cases h
    | true =>
      rw [hb] at h
      have ho := Nat.eq_of_beq_eq_true hb
      subst ho
      simp only [cond_true] at h
      split at h
      · rename_i i hi
        obtain ⟨d1, e1, e2, e3⟩ := hf 0 o t i rfl rfl hi
        obtain ⟨hle, d2, f1, f2, f3⟩ := lay_open os tys (o + i.size) s h (fun k o' ty i' h1 h2 h3 => hf (k + 1) o' ty i' h1 h2 h3)
        refine ⟨by omega, d1 ++ d2, by simp; omega, fun m y v hy hv => ?_, fun k o' ty i' h1 h2 h3 => ?_⟩
        · rw [List.getElem?_append] at hy
          split at hy
          · exact e2 m y v hy hv
          · rename_i hm
            refine f2 (m - d1.length) y v hy ?_
            rw [show o + i.size + (m - d1.length) = o + m by omega]
            exact hv
        · cases k with
          | zero =>
            simp at h1 h2
            subst h1; subst h2
            rw [hi] at h3
            cases h3
            refine ⟨Nat.le_refl _, ?_⟩
            have : List.take i.size (List.drop (o - o) (d1 ++ d2)) = d1 := by rw [Nat.sub_self, List.drop_zero, ← e1, List.take_left]
            rw [this]
            exact e3
          | succ k =>
            obtain ⟨g1, g2⟩ := f3 k o' ty i' h1 h2 h3
            refine ⟨by omega, ?_⟩
            have : List.drop (o' - o) (d1 ++ d2) = List.drop (o' - (o + i.size)) d2 := by
              rw [List.drop_append, List.drop_eq_nil_of_le (by omega), List.nil_append]
              congr 1
              omega
            rw [this]
            exact g2
      · cases h
  | [], _ :: _, acc, s, h, _ => by simp [lay] at h
  | _ :: _, [], acc, s, h, _ => by simp [lay] at h

/-- Types whose values are pure data. -/
def opn (ts : List (Nat × TI)) : Nat → Nat → Bool
  | 0, _ => false
  | d + 1, t => match lk ts t with
    | some ⟨.bool, s, _, _⟩ => Nat.beq s 1
    | some ⟨.int _, s, _, _⟩ => Nat.beq s 1
    | some ⟨.str, s, _, _⟩ => Nat.beq s 1
    | some ⟨.slice e, s, _, _⟩ => Nat.beq s 1 && opn ts d e && (match lk ts e with | some i => Nat.blt 0 i.size | none => false)
    | some ⟨.strct offs tys, s, _, _⟩ => tys.all (opn ts d) && decide (lay ts offs tys 0 = some s)
    | _ => false

theorem list_choose {α : Type} {p : Nat → α → Prop} : ∀ (n : Nat), (∀ i, i < n → ∃ y, p i y) → ∃ l : List α, l.length = n ∧ ∀ i y, l[i]? = some y → p i y
  | 0, _ => ⟨[], rfl, fun i y h => by simp at h⟩
  | n + 1, h => by
    obtain ⟨l, h1, h2⟩ := list_choose n (fun i hi => h i (by omega))
    obtain ⟨y, hy⟩ := h n (by omega)
    refine ⟨l ++ [y], by simp [h1], fun i y' hi => ?_⟩
    rw [List.getElem?_append] at hi
    split at hi
    · exact h2 i y' hi
    · have hin : i - l.length = 0 := by
        have := (List.getElem?_eq_some_iff.1 hi).1
        simp at this
        omega
      rw [hin] at hi
      simp at hi
      subst hi
      have : i = n := by omega
      subst this
      exact hy

theorem TFacts.bytesOf {P : Program} {t : Nat} {i : TI} (h : TFacts P t i) : P.bytesOf t = i.bytes := by
  obtain ⟨ti, z, h1, _, h2, _⟩ := h.info
  simp [Program.bytesOf, h1, h2]
theorem weightsAll_mem {Hh : Type} {P : Program} {e : Nat} {p : Nat → Bool} : ∀ {l : List (DataW Hh)} {d : DataW Hh}, (DataW.weightsAll P e l).all p = true → d ∈ l → (d.weights P e).all p = true
  | x :: l, d, h, hd => by
    simp only [DataW.weightsAll, List.all_append, Bool.and_eq_true] at h
    rcases List.mem_cons.1 hd with rfl | hd
    · exact h.1
    · exact weightsAll_mem h.2 hd
theorem weightsEach_all {Hh : Type} {P : Program} {p : Nat → Bool} : ∀ {ts : List Nat} {ds : List (DataW Hh)} {j : Nat} {t : Nat} {d : DataW Hh}, (DataW.weightsEach P ts ds).all p = true → ts[j]? = some t → ds[j]? = some d → (d.weights P t).all p = true
  | t' :: ts, d' :: ds, 0, t, d, h, ht, hd => by
    simp only [DataW.weightsEach, List.all_append, Bool.and_eq_true] at h
    simp at ht hd
    subst ht; subst hd
    exact h.1
  | t' :: ts, d' :: ds, j + 1, t, d, h, ht, hd => by
    simp only [DataW.weightsEach, List.all_append, Bool.and_eq_true] at h
    exact weightsEach_all h.2 (by simpa using ht) (by simpa using hd)
  | [], _, j, t, d, h, ht, hd => by simp at ht
  | _ :: _, [], j, t, d, h, ht, hd => by simp at hd
theorem TFacts.cellsOf {P : Program} {t : Nat} {i : TI} (h : TFacts P t i) : P.cellsOf t = i.size := by
  obtain ⟨ti, z, h1, h2, _⟩ := h.info
  simp [Program.cellsOf, h1, h2]

theorem open_D {Hh : Type} {enc : TypeId × Value → Hh} {P : Program} {W : World} {spare : Nat → Bool} {held : Bool} {ts : List (Nat × TI)} (hT : TOK P ts) :
    ∀ (d t : Nat), opn ts d t = true → ∀ (fuel : Nat) (cs : List Value) x, DataW.trod enc P W 0 spare held fuel t cs = some x → (x.1.weights P t).all (· ≤ reachBytes) = true →
      ∃ ds : List D, (ds.length = cs.length ∧ ∀ i, lk ts t = some i → ds.length = i.size) ∧ (∀ (k : Nat) y v, ds[k]? = some y → cs[k]? = some v → Reads (fun _ => False) W y v) ∧ DT ts t ds
  | 0, t, ho, fuel, cs, x, h, hw => by simp [opn] at ho
  | d + 1, t, ho, fuel, cs, x, h, hw => by
    have one : ∀ (u : Value), (∀ i, lk ts t = some i → 1 = i.size) → u.oneCell' = true → cs = [u] → DT ts t [.one u] → ∃ ds : List D, (ds.length = cs.length ∧ ∀ i, lk ts t = some i → ds.length = i.size) ∧ (∀ (k : Nat) y v, ds[k]? = some y → cs[k]? = some v → Reads (fun _ => False) W y v) ∧ DT ts t ds := by
      intro u h1 hu hcs hd
      subst hcs
      refine ⟨[.one u], ⟨rfl, h1⟩, fun k y v hy hv => ?_, hd⟩
      cases k with
      | zero => simp at hy hv; subst hy; subst hv; exact .one _ hu
      | succ k => simp at hy
    simp only [opn] at ho
    split at ho
    · rename_i s b z hi
      obtain ⟨du, hu1, hu2⟩ := (hT.facts hi).und
      cases du <;> simp [tkOf] at hu2
      obtain ⟨n, hcs, _⟩ := DataW.trod_bool hu1 h
      exact one _ (fun i h => by rw [hi] at h; cases h; exact (Nat.eq_of_beq_eq_true ho).symm) rfl hcs (.bool hi n)
    · rename_i k s b z hi
      have hu := und_int hT hi
      obtain ⟨n, hcs, _, hwf⟩ := DataW.trod_int hu h
      exact one _ (fun i h => by rw [hi] at h; cases h; exact (Nat.eq_of_beq_eq_true ho).symm) rfl hcs (.int hi n hwf)
    · rename_i s b z hi
      have hu := und_str hT hi
      obtain ⟨n, hcs, hxx, hwf⟩ := DataW.trod_string hu h
      subst hxx
      exact one _ (fun i h => by rw [hi] at h; cases h; exact (Nat.eq_of_beq_eq_true ho).symm) rfl hcs (.str hi n hwf (by
        simp only [DataW.weights, List.all_cons, List.all_nil, Bool.and_true] at hw
        have hw := of_decide_eq_true hw
        rw [Array.length_toList] at hw
        exact hw))
    · rename_i e s b z hi
      simp only [Bool.and_eq_true] at ho
      obtain ⟨⟨ho0, ho1⟩, ho2⟩ := ho
      split at ho2
      · rename_i ie hie
        have hone : ∀ i, lk ts t = some i → 1 = i.size := fun i h => by rw [hi] at h; cases h; exact (Nat.eq_of_beq_eq_true ho0).symm
        have hsz : 0 < ie.size := by simpa using ho2
        have hu := und_slice hT hi
        have hce := (hT.facts hie).cellsOf
        rcases DataW.trod_slice hu h with ⟨hcs, _⟩ | ⟨a, len, cap, elems, rest, n, _, hcs, hxx, _, hlc, hcm, hlen, hel, _, _⟩
        · subst hcs
          refine ⟨[.row []], ⟨rfl, hone⟩, fun k y v hy hv => ?_, .slice hi hie [] (Nat.zero_le _) (by simp) (fun x hx => by cases hx) (fun x hx => by cases hx)⟩
          cases k with
          | zero => simp at hy hv; subst hy; subst hv; exact .none _ _
          | succ k => simp at hy
        · subst hcs
          subst hxx
          have hby := (hT.facts hie).bytesOf
          simp only [DataW.weights, hu, List.all_cons, List.all_append, Bool.and_eq_true, List.length_map, reachBytes, hby] at hw
          obtain ⟨hw1, hw2, _⟩ := hw
          have hw1 := of_decide_eq_true hw1
          have each : ∀ i, i < len → ∃ ds : List D, ds.length = ie.size ∧ (∀ (k : Nat) y, ds[k]? = some y → ∃ v, W.cell? (a.add (i * ie.size + k)) = some v ∧ Reads (fun _ => False) W y v) ∧ DT ts e ds := by
            intro i hlt
            have h1 := hel i hlt
            have h2 : i < elems.length := by omega
            rw [List.getElem?_eq_getElem h2, hce, Option.bind_eq_some_iff] at h1
            obtain ⟨csi, c1, c2⟩ := h1
            obtain ⟨_, c3, c4⟩ := World.cells?_some c1
            obtain ⟨ds, ⟨d1, _⟩, d2, d3⟩ := open_D hT d e ho1 n csi _ c2 (weightsAll_mem hw2 (List.mem_map.2 ⟨_, List.getElem_mem h2, rfl⟩))
            refine ⟨ds, by omega, fun k y hy => ?_, d3⟩
            have hk : k < csi.length := by have := (List.getElem?_eq_some_iff.1 hy).1; omega
            refine ⟨csi[k], ?_, d2 k y _ hy (List.getElem?_eq_getElem hk)⟩
            have := c4 k (by omega)
            rw [add_add] at this
            rw [this, List.getElem?_eq_getElem hk]
          obtain ⟨xs, x1, x2⟩ := list_choose len each
          have hmem : ∀ x ∈ xs, ∃ i : Nat, xs[i]? = some x := fun x hx => List.getElem?_of_mem hx
          have hxs : ∀ x ∈ xs, x.length = ie.size := fun x hx => by
            obtain ⟨i, hi'⟩ := hmem x hx
            exact (x2 i x hi').1
          have hm' : maxLen = 9223372036854775807 := rfl
          refine ⟨[.row xs], ⟨rfl, hone⟩, fun k y v hy hv => ?_, .slice hi hie xs (by omega) (Nat.le_trans (Nat.mul_le_mul_right _ (show xs.length ≤ elems.length + rest.length by omega)) hw1) (fun x hx => by
            obtain ⟨i, hi'⟩ := hmem x hx
            exact (x2 i x hi').2.2) hxs⟩
          cases k with
          | zero =>
            simp at hy hv
            subst hy
            subst hv
            by_cases h0 : len = 0
            · have : xs = [] := List.eq_nil_of_length_eq_zero (by omega)
              rw [this, h0]
              exact .none _ _
            · rw [← x1]
              refine .row xs ie.size cap a (fun j i => (W.cell? (a.add (j * ie.size + i))).getD undef) hxs (by omega) (by omega) (fun h => h) ?_ (fun j i x y hx hy => ?_) (fun j i x y hx hy => ?_)
              · have hx0 : 0 < xs.length := by omega
                obtain ⟨e1, e2, _⟩ := x2 0 xs[0] (List.getElem?_eq_getElem hx0)
                obtain ⟨v, e3, _⟩ := e2 0 _ (List.getElem?_eq_getElem (by omega))
                have := World.block_lt_of_cell? W _ e3
                rwa [block_add] at this
              · obtain ⟨v, e3, e4⟩ := (x2 j x hx).2.1 i y hy
                rw [e3]; rfl
              · obtain ⟨v, e3, e4⟩ := (x2 j x hx).2.1 i y hy
                rw [e3]; exact e4
          | succ k => simp at hy
      · cases ho2
    · rename_i offs tys s b z hi
      simp only [Bool.and_eq_true, decide_eq_true_eq] at ho
      obtain ⟨ho1, ho2⟩ := ho
      obtain ⟨du, hu1, hu2⟩ := (hT.facts hi).und
      cases du with
      | struct fs =>
        simp only [tkOf, TK.strct.injEq] at hu2
        obtain ⟨xs, m, _, hxx, hcl, hxl, hel⟩ := DataW.trod_struct hu1 h
        subst hxx
        simp only [DataW.weights, hu1] at hw
        have hcs : cs.length = s := by rw [hcl, (hT.facts hi).cellsOf]
        have field : ∀ (k o ty : Nat) (i : TI), offs[k]? = some o → tys[k]? = some ty → lk ts ty = some i →
            ∃ ds : List D, ds.length = i.size ∧ (∀ (m : Nat) y v, ds[m]? = some y → cs[o + m]? = some v → Reads (fun _ => False) W y v) ∧ DT ts ty ds := by
          intro k o ty i h1 h2 h3
          rw [← hu2.1, List.getElem?_map, Option.map_eq_some_iff] at h1
          obtain ⟨f, hf1, hf2⟩ := h1
          rw [← hu2.2, List.getElem?_map, hf1, Option.map_some, Option.some.injEq] at h2
          have hf3 : fs[k]? = some f := by simpa using hf1
          have h4 := hel k f hf3
          have hk : k < xs.length := by rw [hxl]; exact (Array.getElem?_eq_some_iff.1 hf3).1
          rw [List.getElem?_eq_getElem hk, hf2, h2, (hT.facts h3).cellsOf] at h4
          obtain ⟨ds, ⟨_, d1⟩, d2, d3⟩ := open_D hT d ty (List.all_eq_true.1 ho1 ty (by rw [← hu2.2]; exact List.mem_map.2 ⟨f, List.mem_of_getElem? hf1, h2⟩)) m _ _ h4 (weightsEach_all hw (j := k) (by rw [List.getElem?_map, hf1, Option.map_some, h2]) (by rw [List.getElem?_map, List.getElem?_eq_getElem hk, Option.map_some]))
          have hlen : ds.length = i.size := d1 i h3
          refine ⟨ds, hlen, fun q y v hy hv => d2 q y v hy ?_, d3⟩
          have hq : q < i.size := by rw [← hlen]; exact (List.getElem?_eq_some_iff.1 hy).1
          rw [List.getElem?_take, if_pos hq, List.getElem?_drop]
          exact hv
        obtain ⟨_, ds, d1, d2, d3⟩ := lay_open (cs := cs) offs tys 0 s ho2 field
        refine ⟨ds, ⟨by omega, fun i h => by rw [hi] at h; cases h; simpa using d1⟩, fun k y v hy hv => d2 k y v hy (by simpa using hv), .strct hi ds (by omega) (fun k o ty i h1 h2 h3 => by simpa using (d3 k o ty i h1 h2 h3).2)⟩
      | _ => simp [tkOf] at hu2
    · cases ho

end Go.AM

/- A machine over pure data: part 19: from a law's contract to the law's row: its arguments opened, its result and its world. -/
namespace Go.AM
open Go Go.RowKit

/-- What an argument may be, as the machine holds it. -/
def AT (ts : List (Nat × TI)) (t : Nat) (x : AV) : Prop :=
  match lk ts t with
  | some ⟨.strct _ _, _, _, _⟩ => ∃ ds, x = .agg (ds.map AV.d) ∧ DT ts t ds
  | _ => ∃ y, x = .d y ∧ DT ts t [y]

theorem vr_one {W : World} {v : Value} {ts : List (Nat × TI)} {t : Nat} {ds : List D} (hl : ds.length = 1) (h1 : ∀ (k : Nat) y u, ds[k]? = some y → [v][k]? = some u → Reads (fun _ => False) W y u) (h2 : DT ts t ds) :
    ∃ x, (∃ y, x = .d y ∧ DT ts t [y]) ∧ VR (fun _ => none) (fun _ => False) W x v := by
  match ds, hl with
  | [y], _ => exact ⟨.d y, ⟨y, rfl, h2⟩, .d y v (h1 0 y v rfl rfl)⟩

theorem open_arg {Hh : Type} {enc : TypeId × Value → Hh} {P : Program} {W : World} {spare : Nat → Bool} {held : Bool} {ts : List (Nat × TI)} (hT : TOK P ts) {base t : Nat} {v : Value} {dd : DataW Hh} {ps : List MemPlace} (d : Nat)
    (ho : opn ts d t = true) (hw : Value.okWide P W .any base t v) (h : DataW.Trod enc P W 0 spare held t v dd ps) (hwt : (dd.weights P t).all (· ≤ reachBytes) = true) : ∃ x, AT ts t x ∧ VR (fun _ => none) (fun _ => False) W x v := by
  obtain ⟨fuel, hf⟩ := h
  obtain ⟨ds, ⟨e1, _⟩, e2, e3⟩ := open_D hT d t ho fuel _ _ hf hwt
  cases d with
  | zero => simp [opn] at ho
  | succ d =>
    simp only [opn] at ho
    unfold AT
    split at ho
    · rename_i s b z hi
      rw [hi]
      obtain ⟨du, hu1, hu2⟩ := (hT.facts hi).und
      cases du <;> simp [tkOf] at hu2
      obtain ⟨n, rfl⟩ := WideShapes.okWide_bool hu1 hw
      exact vr_one e1 e2 e3
    · rename_i k s b z hi
      rw [hi]
      obtain ⟨n, rfl⟩ := WideShapes.okWide_int (und_int hT hi) hw
      exact vr_one e1 e2 e3
    · rename_i s b z hi
      rw [hi]
      obtain ⟨n, rfl⟩ := WideShapes.okWide_string (und_str hT hi) hw
      exact vr_one e1 e2 e3
    · rename_i e s b z hi
      rw [hi]
      obtain ⟨a, len, cap, rfl⟩ := WideShapes.okWide_slice (und_slice hT hi) hw
      exact vr_one e1 e2 e3
    · rename_i offs tys s b z hi
      rw [hi]
      obtain ⟨du, hu1, hu2⟩ := (hT.facts hi).und
      cases du with
      | struct fs =>
        obtain ⟨cs, rfl, hcs⟩ := WideShapes.okWide_struct hu1 hw
        have hcell : (Value.agg cs).cells = cs := rfl
        rw [hcell] at e1 e2
        refine ⟨.agg (ds.map AV.d), ⟨ds, rfl, e3⟩, .agg _ cs (by simpa using e1) (fun k x u hx hu => ?_)⟩
        rw [List.getElem?_map, Option.map_eq_some_iff] at hx
        obtain ⟨y, hy, rfl⟩ := hx
        exact .d y u (e2 k y u hy (by simpa using hu))
      | _ => simp [tkOf] at hu2
    · cases ho

theorem law_calls {P : Program} {f : FuncId} {ys : List AV} {args : Array Value} {W : World} {b : Bool} (hc : ACallP P f ys (bo b)) (hl : args.size = ys.length)
    (ha : ∀ (k : Nat) x v, ys[k]? = some x → args[k]? = some v → VR (fun _ => none) (fun _ => False) W x v) : Calls P f args W fun e w' => e = .returned (.bool b) ∧ Below W.heap.size W w' := by
  have hini : Ini ⟨fun _ => none, fun _ => False, fun _ => False, W, fun _ => False, []⟩ ys [] args := by
    refine ⟨hl, fun k x v hx hv => ?_, ⟨fun i b hb => ?_, fun i b g hb => ?_, fun i j bi bj g hb => ?_⟩, fun k hk => hk.elim, fun k hk => hk.elim, fun k hk => hk, rfl⟩
    · have h := ha k x v hx hv
      have : ρ0 ⟨fun _ => none, fun _ => False, fun _ => False, W, fun _ => False, []⟩ = fun _ => none := by
        funext i
        cases i <;> rfl
      rw [this]
      exact h
    · cases i <;> simp [hkp] at hb
    · cases i <;> simp [hkp] at hb
    · cases i <;> simp [hkp] at hb
  refine (hc.2 _ _ hini).mono ?_
  rintro e w' ⟨r, Hp', Hr, v, ρ, O, ⟨rfl, rfl⟩, rfl, hf⟩
  refine ⟨?_, hf.F.os, hf.F.tape, hf.F.output, hf.F.size, fun k hk => hf.F.same k hk (fun h => h.elim) (fun h => h)⟩
  have := hf.r
  cases this with
  | d x v h => cases h with
    | one _ _ => rfl

/-! ### what the argument's data is -/
theorem DT.bool_inv {ts : List (Nat × TI)} {t s b : Nat} {z : List AV} (h : lk ts t = some ⟨.bool, s, b, z⟩) {ds : List D} (hd : DT ts t ds) : ∃ n, ds = [.one (.bool n)] := by
  cases hd <;> rename_i h' <;> simp_all
theorem DT.int_inv {ts : List (Nat × TI)} {t s b : Nat} {k : IntKind} {z : List AV} (h : lk ts t = some ⟨.int k, s, b, z⟩) {ds : List D} (hd : DT ts t ds) : ∃ n, ds = [.one (.int k n)] ∧ (Lit.int k n).wf = true := by
  cases hd with
  | int h' n hn => rw [h] at h'; cases h'; exact ⟨n, rfl, hn⟩
  | bool h' => rw [h] at h'; cases h'
  | str h' => rw [h] at h'; cases h'
  | slice h' => rw [h] at h'; cases h'
  | strct h' => rw [h] at h'; cases h'
theorem DT.str_inv {ts : List (Nat × TI)} {t s b : Nat} {z : List AV} (h : lk ts t = some ⟨.str, s, b, z⟩) {ds : List D} (hd : DT ts t ds) : ∃ n, ds = [.one (.string n)] ∧ n.size ≤ maxLen := by
  cases hd with
  | str h' n hn hb => exact ⟨n, rfl, hn⟩
  | bool h' => rw [h] at h'; cases h'
  | int h' => rw [h] at h'; cases h'
  | slice h' => rw [h] at h'; cases h'
  | strct h' => rw [h] at h'; cases h'
theorem DT.slice_inv {ts : List (Nat × TI)} {t s b e : Nat} {z : List AV} (h : lk ts t = some ⟨.slice e, s, b, z⟩) {ds : List D} (hd : DT ts t ds) : ∃ xs, ds = [.row xs] ∧ xs.length ≤ maxLen ∧ ∀ x ∈ xs, DT ts e x := by
  cases hd with
  | slice h' he xs hl hb hx hs => rw [h] at h'; cases h'; exact ⟨xs, rfl, hl, hx⟩
  | bool h' => rw [h] at h'; cases h'
  | int h' => rw [h] at h'; cases h'
  | str h' => rw [h] at h'; cases h'
  | strct h' => rw [h] at h'; cases h'
theorem DT.str_invB {ts : List (Nat × TI)} {t s b : Nat} {z : List AV} (h : lk ts t = some ⟨.str, s, b, z⟩) {ds : List D} (hd : DT ts t ds) : ∃ n, ds = [.one (.string n)] ∧ n.size ≤ 140737488351232 := by
  cases hd with
  | str h' n hn hb => exact ⟨n, rfl, hb⟩
  | bool h' => rw [h] at h'; cases h'
  | int h' => rw [h] at h'; cases h'
  | slice h' => rw [h] at h'; cases h'
  | strct h' => rw [h] at h'; cases h'
theorem DT.slice_invB {ts : List (Nat × TI)} {t s b e : Nat} {z : List AV} {ie : TI} (h : lk ts t = some ⟨.slice e, s, b, z⟩) (hie : lk ts e = some ie) {ds : List D} (hd : DT ts t ds) : ∃ xs, ds = [.row xs] ∧ xs.length * ie.bytes ≤ 140737488351232 ∧ ∀ x ∈ xs, DT ts e x := by
  cases hd with
  | slice h' he xs hl hb hx hs => rw [h] at h'; cases h'; rw [hie] at he; cases he; exact ⟨xs, rfl, hb, hx⟩
  | bool h' => rw [h] at h'; cases h'
  | int h' => rw [h] at h'; cases h'
  | str h' => rw [h] at h'; cases h'
  | strct h' => rw [h] at h'; cases h'
theorem DT.strct_inv {ts : List (Nat × TI)} {t s b : Nat} {offs tys : List Nat} {z : List AV} (h : lk ts t = some ⟨.strct offs tys, s, b, z⟩) {ds : List D} (hd : DT ts t ds) :
    ds.length = s ∧ ∀ (k o ty : Nat) (i : TI), offs[k]? = some o → tys[k]? = some ty → lk ts ty = some i → DT ts ty ((ds.drop o).take i.size) := by
  cases hd with
  | strct h' ds hl hf => rw [h] at h'; cases h'; exact ⟨hl, hf⟩
  | bool h' => rw [h] at h'; cases h'
  | int h' => rw [h] at h'; cases h'
  | str h' => rw [h] at h'; cases h'
  | slice h' => rw [h] at h'; cases h'

theorem list_decode {α : Type} {e : α → List D} {p : α → Prop} : ∀ (xs : List (List D)), (∀ x ∈ xs, ∃ a, x = e a ∧ p a) → ∃ l : List α, xs = l.map e ∧ ∀ a ∈ l, p a
  | [], _ => ⟨[], rfl, fun a h => by cases h⟩
  | x :: xs, h => by
    obtain ⟨a, rfl, ha⟩ := h x (by simp)
    obtain ⟨l, rfl, hl⟩ := list_decode xs (fun y hy => h y (by simp [hy]))
    exact ⟨a :: l, rfl, fun b hb => by
      rcases List.mem_cons.1 hb with rfl | hb
      · exact ha
      · exact hl b hb⟩
end Go.AM

/- A machine over pure data: part 20: a row written no more, wherever it is told; a row's element written; a row asked for nil. -/
namespace Go.AM
open Go Go.RowKit

/-! ### a row written no more -/
def fz1 {β : Type} (i s0 : Nat) (xs : List (List D)) (x : AV) (k : AV → Option β) : Option β :=
  match x with
  | .own (.loc j) => bif Nat.beq j i then k (.d (.row xs)) else k (.own (.loc j))
  | .sub (.loc j) sz lo n full => bif Nat.beq j i then bif Nat.beq sz s0 then k (.d (.row ((xs.take (lo + n)).drop lo))) else k .junk else k (.sub (.loc j) sz lo n full)
  | y => k y
def fzL {β : Type} (i s0 : Nat) (xs : List (List D)) : List AV → (List AV → Option β) → Option β
  | [], k => k []
  | x :: r, k => fz1 i s0 xs x fun y => fzL i s0 xs r fun l => k (y :: l)
def fz2 {β : Type} (i s0 : Nat) (xs : List (List D)) (x : AV) (k : AV → Option β) : Option β :=
  match x with
  | .agg l => fzL i s0 xs l fun l' => k (.agg l')
  | .tup l => fzL i s0 xs l fun l' => k (.tup l')
  | y => fz1 i s0 xs y k
def fzT {β : Type} (i s0 : Nat) (xs : List (List D)) : List (Nat × AV) → (List (Nat × AV) → Option β) → Option β
  | [], k => k []
  | (s, x) :: r, k => fz2 i s0 xs x fun y => fzT i s0 xs r fun l => k ((s, y) :: l)
def fzH {β : Type} (i s0 : Nat) (xs : List (List D)) : List (Nat × Option Blk) → (List (Nat × Option Blk) → Option β) → Option β
  | [], k => k []
  | (s, b) :: r, k => bif Nat.beq s i then fzH i s0 xs r fun l => k ((s, none) :: l) else match b with
    | some (.box e cells) => fzL i s0 xs cells fun cs => fzH i s0 xs r fun l => k ((s, some (.box e cs)) :: l)
    | b => fzH i s0 xs r fun l => k ((s, b) :: l)

section
variable {ρ : Env} {O O' : Nat → Prop} {w : World} {i s0 : Nat} {xs : List (List D)}
/-- What is told of a row may be told of it as data. -/
def FzOK (ρ : Env) (O O' : Nat → Prop) (w : World) (i s0 : Nat) (xs : List (List D)) : Prop := Keeps O w O' w ∧ (∀ v, ρ (.loc i) = some v → Reads O' w (.row xs) v) ∧ ∀ x ∈ xs, x.length = s0

theorem sub_reads {ρ : Env} {O O' : Nat → Prop} {w : World} {i sz lo n : Nat} {full : Bool} {xs : List (List D)} {v : Value} (hf : FzOK ρ O O' w i sz xs) (hv : VR ρ O w (.sub (.loc i) sz lo n full) v) : Reads O' w (.row ((xs.take (lo + n)).drop lo)) v := by
  cases hv with
  | sub _ _ _ _ _ g L C c off h h1 h2 h3 h4 h5 =>
    have hr := hf.2.1 _ h
    obtain ⟨A, c', e1, e2, _⟩ := hr.slice
    injection e1 with e1 e3 e4
    subst e3; subst e4
    have hcut := hr.cut hf.2.2 (i := lo) (j := lo + n) (m := lo + c) (by omega) h1 (by omega) (by omega)
    rw [show lo + n - lo = n by omega, show lo + c - lo = c by omega] at hcut
    by_cases hc : c = 0
    · have hn : n = 0 := by omega
      subst hn
      have : (xs.take (lo + 0)).drop lo = [] := List.eq_nil_of_length_eq_zero (by simp)
      rw [this]
      exact .none _ _
    · rw [if_neg (by omega)] at hcut
      rw [h5 hc]
      simp only [Option.map_some, add_ptr, Nat.zero_add] at hcut
      exact hcut
  | subN _ _ _ h =>
    have hr := hf.2.1 _ h
    obtain ⟨A, c', e1, e2, _⟩ := hr.slice
    injection e1 with e1 e3 e4
    have : xs = [] := List.eq_nil_of_length_eq_zero e3.symm
    subst this
    exact .none _ _
theorem fz1_spec {β : Type} {r : β} {x : AV} {k : AV → Option β} (h : fz1 i s0 xs x k = some r) : ∃ y, k y = some r ∧ ∀ ρ O O' w v, FzOK ρ O O' w i s0 xs → VR ρ O w x v → VR ρ O' w y v := by
  unfold fz1 at h
  split at h
  · rename_i j
    cases hb : Nat.beq j i with
    | true =>
      rw [hb] at h
      have := Nat.eq_of_beq_eq_true hb
      subst this
      exact ⟨_, h, fun ρ O O' w v hf hv => by cases hv with | own _ _ h _ => exact .d _ _ (hf.2.1 v h)⟩
    | false =>
      rw [hb] at h
      exact ⟨_, h, fun ρ O O' w v hf hv => hv.keep (Ext.refl ρ) hf.1⟩
  · rename_i j sz lo n full
    cases hb : Nat.beq j i with
    | true =>
      rw [hb] at h
      have := Nat.eq_of_beq_eq_true hb
      subst this
      simp only [cond_true] at h
      cases hz : Nat.beq sz s0 with
      | false => rw [hz] at h; exact ⟨_, h, fun ρ O O' w v hf hv => .junk v⟩
      | true =>
        rw [hz] at h
        have := Nat.eq_of_beq_eq_true hz
        subst this
        exact ⟨_, h, fun ρ O O' w v hf hv => .d _ _ (sub_reads hf hv)⟩
    | false =>
      rw [hb] at h
      exact ⟨_, h, fun ρ O O' w v hf hv => hv.keep (Ext.refl ρ) hf.1⟩
  · exact ⟨_, h, fun ρ O O' w v hf hv => hv.keep (Ext.refl ρ) hf.1⟩
theorem fzL_spec {β : Type} {r : β} : ∀ {l : List AV} {k : List AV → Option β}, fzL i s0 xs l k = some r → ∃ l', k l' = some r ∧ l'.length = l.length ∧
    ∀ ρ O O' w, FzOK ρ O O' w i s0 xs → ∀ (n : Nat) y v, l'[n]? = some y → (∀ x, l[n]? = some x → VR ρ O w x v) → VR ρ O' w y v
  | [], k, h => ⟨[], h, rfl, fun ρ O O' w hf n y v hy => by simp at hy⟩
  | x :: l, k, h => by
    simp only [fzL] at h
    obtain ⟨y, h1, h2⟩ := fz1_spec h
    obtain ⟨l', h3, h4, h5⟩ := fzL_spec h1
    refine ⟨y :: l', h3, by simp [h4], fun ρ O O' w hf n z v hz hv => ?_⟩
    cases n with
    | zero => simp at hz; subst hz; exact h2 ρ O O' w v hf (hv x rfl)
    | succ n => exact h5 ρ O O' w hf n z v (by simpa using hz) (fun x hx => hv x (by simpa using hx))
theorem fz2_spec {β : Type} {r : β} {x : AV} {k : AV → Option β} (h : fz2 i s0 xs x k = some r) : ∃ y, k y = some r ∧ ∀ ρ O O' w v, FzOK ρ O O' w i s0 xs → VR ρ O w x v → VR ρ O' w y v := by
  unfold fz2 at h
  split at h
  · obtain ⟨l', h1, h2, h3⟩ := fzL_spec h
    refine ⟨_, h1, fun ρ O O' w v hf hv => ?_⟩
    cases hv with
    | agg _ vs hl hc => exact .agg _ vs (by rw [h2]; exact hl) fun n y v hy hv => h3 ρ O O' w hf n y v hy fun x hx => hc n x v hx hv
  · obtain ⟨l', h1, h2, h3⟩ := fzL_spec h
    refine ⟨_, h1, fun ρ O O' w v hf hv => ?_⟩
    cases hv with
    | tup _ vs hl hc => exact .tup _ vs (by rw [h2]; exact hl) fun n y v hy hv => h3 ρ O O' w hf n y v hy fun x hx => hc n x v hx hv
  · exact fz1_spec h
theorem fzT_spec {β : Type} {r : β} : ∀ {T : List (Nat × AV)} {k : List (Nat × AV) → Option β}, fzT i s0 xs T k = some r → ∃ T', k T' = some r ∧
    ∀ t y, lk T' t = some y → ∃ x, lk T t = some x ∧ ∀ ρ O O' w v, FzOK ρ O O' w i s0 xs → VR ρ O w x v → VR ρ O' w y v
  | [], k, h => ⟨[], h, fun t y hy => by simp [lk] at hy⟩
  | (s, x) :: T, k, h => by
    simp only [fzT] at h
    obtain ⟨y, h1, h2⟩ := fz2_spec h
    obtain ⟨T', h3, h4⟩ := fzT_spec h1
    refine ⟨(s, y) :: T', h3, fun t z hz => ?_⟩
    rcases lk_shadow hz with ⟨rfl, rfl⟩ | ⟨hne, hz⟩
    · exact ⟨x, lk_cons_self .., h2⟩
    · obtain ⟨x', e1, e2⟩ := h4 t z hz
      exact ⟨x', by rw [lk_cons_ne hne]; exact e1, e2⟩
theorem fzH_spec {β : Type} {r : β} : ∀ {H : List (Nat × Option Blk)} {k : List (Nat × Option Blk) → Option β}, fzH i s0 xs H k = some r → ∃ H', k H' = some r ∧
    ∀ t b, lk H' t = some (some b) → t ≠ i ∧ ∃ b0, lk H t = some (some b0) ∧ ∀ ρ O O' w, FzOK ρ O O' w i s0 xs → BOK ρ O w (.loc t) b0 → BOK ρ O' w (.loc t) b := by
  intro H k h
  induction H generalizing k with
  | nil => exact ⟨[], h, fun t b hb => by simp [lk] at hb⟩
  | cons p H ih =>
    obtain ⟨s, b⟩ := p
    simp only [fzH] at h
    have keepB : ∀ (t : Nat) (b : Blk) ρ O O' w, FzOK ρ O O' w i s0 xs → BOK ρ O w (.loc t) b → BOK ρ O' w (.loc t) b := fun t b ρ O O' w hf hb => hb.keep (Ext.refl ρ) hf.1 (fun _ _ => rfl)
    cases hbq : Nat.beq s i with
    | true =>
      rw [hbq] at h
      obtain ⟨H', h1, h2⟩ := ih h
      have hsi := Nat.eq_of_beq_eq_true hbq
      refine ⟨(s, none) :: H', h1, fun t b' hb' => ?_⟩
      rcases lk_shadow hb' with ⟨rfl, e⟩ | ⟨hne, hb'⟩
      · cases e
      · obtain ⟨e1, b0, e2, e3⟩ := h2 t b' hb'
        exact ⟨e1, b0, by rw [lk_cons_ne hne]; exact e2, e3⟩
    | false =>
      rw [hbq] at h
      have hsi : s ≠ i := fun e => by subst e; simp at hbq
      simp only [cond_false] at h
      split at h
      · rename_i e cells
        obtain ⟨cs, h1, h2, h3⟩ := fzL_spec h
        obtain ⟨H', h4, h5⟩ := ih h1
        refine ⟨(s, some (.box e cs)) :: H', h4, fun t b' hb' => ?_⟩
        rcases lk_shadow hb' with ⟨rfl, eb⟩ | ⟨hne, hb'⟩
        · injection eb with eb
          subst eb
          refine ⟨hsi, .box e cells, lk_cons_self .., fun ρ O O' w hf hb => ?_⟩
          obtain ⟨g, vs, b1, b2, b3, b4⟩ := hb
          refine ⟨g, vs, b1, b2, by rw [h2]; exact b3, fun n y v hy hv => ⟨h3 ρ O O' w hf n y v hy fun x hx => (b4 n x v hx hv).1, ?_⟩⟩
          have hn : n < cells.length := by have := (List.getElem?_eq_some_iff.1 hy).1; omega
          exact (b4 n _ v (List.getElem?_eq_getElem hn) hv).2
        · obtain ⟨e1, b0, e2, e3⟩ := h5 t b' hb'
          exact ⟨e1, b0, by rw [lk_cons_ne hne]; exact e2, e3⟩
      · obtain ⟨H', h4, h5⟩ := ih h
        refine ⟨(s, b) :: H', h4, fun t b' hb' => ?_⟩
        rcases lk_shadow hb' with ⟨rfl, eb⟩ | ⟨hne, hb'⟩
        · subst eb
          exact ⟨hsi, b', lk_cons_self .., keepB s b'⟩
        · obtain ⟨e1, b0, e2, e3⟩ := h5 t b' hb'
          exact ⟨e1, b0, by rw [lk_cons_ne hne]; exact e2, e3⟩
end

/-- A row of the call's own is written no more: it is pure data from here on, wherever it is told. -/
theorem Imp.frz (i : Nat) {n clk e sz : Nat} {T T' : List (Nat × AV)} {H H' : List (Nat × Option Blk)} {Hp : List Blk} {xs : List (List D)} (hi : hk ⟨n, T, H, Hp, clk⟩ (.loc i) = some (.row e sz xs))
    (hT : fzT i sz xs T some = some T') (hH : fzH i sz xs H some = some H') : Imp ⟨n, T, H, Hp, clk⟩ ⟨n, T', H', Hp, clk⟩ := by
  rintro c a w ⟨ρ, O, h⟩
  obtain ⟨T1, hT1, hT2⟩ := fzT_spec hT
  cases hT1
  obtain ⟨H1, hH1, hH2⟩ := fzH_spec hH
  cases hH1
  obtain ⟨v, vs, hv, hrest⟩ := h.H.ok (.loc i) _ hi
  have hvO : ∀ g, vblk v = some g → O g ∧ g < w.heap.size ∧ Nw c g := fun g hg => h.H.own (.loc i) _ g hi (by rw [hv]; exact hg)
  have hsub : ∀ k, (O k ∧ vblk v ≠ some k) → O k := fun k hk => hk.1
  have hk0 : Keeps O w (fun k => O k ∧ vblk v ≠ some k) w := ⟨Nat.le_refl _, fun _ _ _ => rfl, fun k hk => .inl hk.1⟩
  have hok : FzOK ρ O (fun k => O k ∧ vblk v ≠ some k) w i sz xs := ⟨hk0, fun u hu => own_reads (h.H.ok (.loc i) _ hi) hu hsub (fun g hg => fun hh => by
    rw [hv] at hu
    injection hu with hu
    exact hh.2 (hu ▸ hg)), hrest.2.1⟩
  have hlk : ∀ j b', hk ⟨n, T', H', Hp, clk⟩ j = some b' → j ≠ .loc i ∧ ∃ b0, hk ⟨n, T, H, Hp, clk⟩ j = some b0 ∧ (BOK ρ O w j b0 → BOK ρ (fun k => O k ∧ vblk v ≠ some k) w j b') := by
    intro j b' hb
    cases j with
    | par k => exact ⟨by simp, b', hb, fun hB => hB.keep (Ext.refl ρ) hk0 (fun _ _ => rfl)⟩
    | loc k =>
      simp only [hk] at hb
      split at hb
      · rename_i b1 hb1
        cases hb
        obtain ⟨e1, b0, e2, e3⟩ := hH2 k b' hb1
        exact ⟨fun e => by injection e with e; exact e1 e, b0, by simp [hk, e2], e3 ρ O _ w hok⟩
      · cases hb
  refine ⟨ρ, fun k => O k ∧ vblk v ≠ some k, h.defers, h.n, h.par, h.fresh, fun t x ht => ?_, ⟨fun j b hb => ?_, fun j b g hb hg => ?_, fun j k bj bk g hj hk' => ?_⟩, ?_⟩
  · obtain ⟨x0, e1, e2⟩ := hT2 t x ht
    obtain ⟨u, e3, e4⟩ := h.T t x0 e1
    exact ⟨u, e3, e2 ρ O _ w u hok e4⟩
  · obtain ⟨h1, b0, h2, h3⟩ := hlk j b hb
    exact h3 (h.H.ok j b0 h2)
  · obtain ⟨h1, b0, h2, h3⟩ := hlk j b hb
    obtain ⟨e1, e2, e3⟩ := h.H.own j b0 g h2 hg
    refine ⟨⟨e1, fun e => h1 ?_⟩, e2, e3⟩
    exact h.H.inj j (.loc i) b0 _ g h2 hi hg (by rw [hv]; exact e)
  · obtain ⟨_, bj0, e1, _⟩ := hlk j bj hj
    obtain ⟨_, bk0, e2, _⟩ := hlk k bk hk'
    exact h.H.inj j k bj0 bk0 g e1 e2
  · have hF := h.F
    exact ⟨hF.os, hF.tape, hF.output, hF.size, hF.same, fun k hk' => ⟨hF.mono k hk', fun e => hF.nw (hvO k e).2.2 hk'⟩, fun k hk' => hF.news k hk'.1, hF.wlt, fun k hk' => hF.olt k hk'.1, hF.olt0, hF.glt⟩

theorem AW.frz (i : Nat) {P : Program} {code : Code} {Q : Exit → St → Prop} {n clk e sz : Nat} {T T' : List (Nat × AV)} {H H' : List (Nat × Option Blk)} {Hp : List Blk} {xs : List (List D)} (hi : hk ⟨n, T, H, Hp, clk⟩ (.loc i) = some (.row e sz xs))
    (hT : fzT i sz xs T some = some T') (hH : fzH i sz xs H some = some H') (h : AW P code Q ⟨n, T', H', Hp, clk⟩) : AW P code Q ⟨n, T, H, Hp, clk⟩ := AW.imp (Imp.frz i hi hT hH) h
theorem AL.frz (i : Nat) {P : Program} {l rest : List Oper} {Q : Exit → St → Prop} {n clk e sz : Nat} {T T' : List (Nat × AV)} {H H' : List (Nat × Option Blk)} {Hp : List Blk} {xs : List (List D)} (hi : hk ⟨n, T, H, Hp, clk⟩ (.loc i) = some (.row e sz xs))
    (hT : fzT i sz xs T some = some T') (hH : fzH i sz xs H some = some H') (h : AL P l Q rest ⟨n, T', H', Hp, clk⟩) : AL P l Q rest ⟨n, T, H, Hp, clk⟩ := AL.imp (Imp.frz i hi hT hH) h
end Go.AM

/- A machine over pure data: part 21: two Bools, two structs compared; a slice asked for nil; the smaller, the greater; a row's element written; a call's rows handed back as data. -/
namespace Go.AM
open Go Go.RowKit

theorem und_bool {P : Program} {ts : List (Nat × TI)} (hT : TOK P ts) {t s b : Nat} {z : List AV} (ht : lk ts t = some ⟨.bool, s, b, z⟩) : P.underlying t = some .bool := by
  obtain ⟨du, hu1, hu2⟩ := (hT.facts ht).und
  cases du <;> simp [tkOf] at hu2
  exact hu1

/-! ### structs of scalars compared -/
def acell (k : TK) (u v : Value) : Option Bool :=
  match k, u, v with
  | .int _, .int k a, .int k' b => bif decide (k = k') then some (decide (a = b)) else none
  | .bool, .bool a, .bool b => some (decide (a = b))
  | .str, .string a, .string b => some (decide (a = b))
  | _, _, _ => none
def aeqL {β : Type} (ts : List (Nat × TI)) : Nat → List Nat → List Nat → List AV → List AV → (Bool → Option β) → Option β
  | k, o :: os, t :: tys, x :: cx, y :: cy, K => bif Nat.beq o k then match lk ts t with
    | some i => match x with
      | .d (.one u) => match y with
        | .d (.one v) => match acell i.k u v with
          | some b => aeqL ts (k + 1) os tys cx cy fun r => K (b && r)
          | none => none
        | _ => none
      | _ => none
    | none => none else none
  | _, [], [], [], [], K => K true
  | _, _, _, _, _, _ => none
def aeq {β : Type} (ts : List (Nat × TI)) (t : Nat) (x y : AV) (K : Bool → Option β) : Option β :=
  match lk ts t with
  | some ⟨.strct offs tys, _, _, _⟩ => match x with
    | .agg cx => match y with
      | .agg cy => aeqL ts 0 offs tys cx cy K
      | _ => none
    | _ => none
  | some ⟨.bool, _, _, _⟩ => match x with
    | .d (.one (.bool a)) => match y with
      | .d (.one (.bool b)) => K (decide (a = b))
      | _ => none
    | _ => none
  | _ => none
/-- Its fields have names, and none of them is an interface. -/
def eqOK (P : Program) (t : Nat) : Bool := (P.fieldsOf t).toList.all (fun f => f.name != "_") && !P.stoodInHeld t && !P.eqGuardType P.depth t

theorem acell_sound {P : Program} {ts : List (Nat × TI)} (hT : TOK P ts) {t : Nat} {i : TI} (hi : lk ts t = some i) {u v : Value} {b : Bool} (h : acell i.k u v = some b) (w : World) (d : Nat) :
    (Op.equalIn (d + 1) t u v).run P w = .ok b w ∧ (isAgg t).run P w = .ok false w := by
  obtain ⟨du, hu1, hu2⟩ := (hT.facts hi).und
  unfold acell at h
  split at h
  · rename_i hk
    rw [hk] at hu2
    cases du <;> simp [tkOf] at hu2
    rename_i k0 k a k' b' _
    by_cases he : k = k'
    · subst he
      simp only [decide_true, cond_true] at h
      cases h
      exact ⟨run_equalIn_int w d t k _ a b' hu1, by simp [isAgg, run_underlying hu1]⟩
    · simp only [decide_eq_false he, cond_false] at h
      cases h
  · rename_i hk
    rw [hk] at hu2
    cases du <;> simp [tkOf] at hu2
    rename_i a b'
    cases h
    exact ⟨run_equalIn_bool' w d t a b' hu1, by simp [isAgg, run_underlying hu1]⟩
  · rename_i hk
    rw [hk] at hu2
    cases du <;> simp [tkOf] at hu2
    rename_i a b'
    cases h
    refine ⟨?_, by simp [isAgg, run_underlying hu1]⟩
    simp only [Op.equalIn, Sem.run_bind, run_underlying hu1, Result.andThen_ok]
    simp only [Sem.run_pure]
    congr 1
    rw [beq_toListBytes, ByteArray.toList_eq, ByteArray.toList_eq, toList_inj]
  · cases h

theorem aeqL_sound {P : Program} {ts : List (Nat × TI)} (hT : TOK P ts) {ρ : Env} {O : Nat → Prop} {w0 : World} {β : Type} {r : β} {xs ys : Array Value} (d : Nat) : ∀ (fs : List Field) (k : Nat) (cx cy : List AV) (K : Bool → Option β),
    aeqL ts k (fs.map (·.offset)) (fs.map (·.type)) cx cy K = some r → (∀ f ∈ fs, f.name ≠ "_") →
    (∀ (n : Nat) x v, cx[n]? = some x → xs[k + n]? = some v → VR ρ O w0 x v) → (∀ (n : Nat) x v, cy[n]? = some x → ys[k + n]? = some v → VR ρ O w0 x v) → k + cx.length ≤ xs.size → k + cy.length ≤ ys.size →
    ∃ b, K b = some r ∧ ∀ w, (Op.eqFields (d + 1) xs ys fs).run P w = .ok b w
  | [], k, cx, cy, K, h, hn, hx, hy, _, _ => by
    cases cx <;> cases cy <;> simp [aeqL] at h
    exact ⟨true, h, fun w => by simp [Op.eqFields]⟩
  | f :: fs, k, cx, cy, K, h, hn, hx, hy, hlx, hly => by
    cases cx with
    | nil => simp [aeqL] at h
    | cons x cx =>
      cases cy with
      | nil => simp [aeqL] at h
      | cons y cy =>
        simp only [List.map_cons, aeqL] at h
        cases hb : Nat.beq f.offset k with
        | false => rw [hb] at h; cases h
        | true =>
          rw [hb] at h
          have hk := Nat.eq_of_beq_eq_true hb
          simp only [cond_true] at h
          split at h
          · rename_i i hi
            split at h
            · rename_i u
              split at h
              · rename_i v
                split at h
                · rename_i b hc
                  simp only [List.length_cons] at hlx hly
                  obtain ⟨b2, e1, e2⟩ := aeqL_sound hT d fs (k + 1) cx cy _ h (fun g hg => hn g (by simp [hg])) (fun n x' v' h1 h2 => hx (n + 1) x' v' (by simpa using h1) (by rw [← h2]; congr 1; omega)) (fun n x' v' h1 h2 => hy (n + 1) x' v' (by simpa using h1) (by rw [← h2]; congr 1; omega)) (by omega) (by omega)
                  refine ⟨b && b2, e1, fun w => ?_⟩
                  have hkx : k < xs.size := by omega
                  have hky : k < ys.size := by omega
                  have hu : xs[k]? = some u := by
                    have h1 := hx 0 (.d (.one u)) xs[k] rfl (by simp [hkx])
                    rw [Array.getElem?_eq_getElem hkx, one_of h1]
                  have hv : ys[k]? = some v := by
                    have h1 := hy 0 (.d (.one v)) ys[k] rfl (by simp [hky])
                    rw [Array.getElem?_eq_getElem hky, one_of h1]
                  obtain ⟨c1, c2⟩ := acell_sound hT hi hc w d
                  have hp1 : (part f.type xs f.offset).run P w = .ok u w := by simp [part, c2, hk, hu]
                  have hp2 : (part f.type ys f.offset).run P w = .ok v w := by simp [part, c2, hk, hv]
                  simp only [Op.eqFields, hn f (by simp), ne_eq, not_false_eq_true, if_true, Sem.run_bind, hp1, hp2, c1, Result.andThen_ok]
                  cases b with
                  | true => simpa using e2 w
                  | false => simp
                · cases h
              · cases h
            · cases h
          · cases h

section
variable {P : Program} {l rest : List Oper} {Q : Exit → St → Prop} {n d clk : Nat} {T : List (Nat × AV)} {H : List (Nat × Option Blk)} {Hp : List Blk} {x y : Operand} {args : Array Operand} {tys : Array TypeId} {t t2 ty : TypeId} {pos : String} {aft : Array Edge} {g : Option (Nat × Bool)}

theorem aeq_run {ts : List (Nat × TI)} (hT : TOK P ts) (hE : eqOK P t = true) {β : Type} {r : β} {K : Bool → Option β} {vx vy : AV} (h : aeq ts t vx vy K = some r) {ρ : Env} {O : Nat → Prop} {w : World} {u v : Value} (hu : VR ρ O w vx u) (hv : VR ρ O w vy v) (ox oy : Operand) (op : BinOp) :
    ∃ b, K b = some r ∧ ∀ w', (eqGuard op t ox oy u v).run P w' = .ok () w' ∧ (Op.equal t u v).run P w' = .ok b w' ∧ (∀ k a, u ≠ .int k a) ∧ (∀ k a, u ≠ .float k a) ∧ (∀ k a b, u ≠ .complex k a b) ∧ (∀ s, u ≠ .string s) := by
  unfold eqOK at hE
  simp only [Bool.and_eq_true, Bool.not_eq_true', List.all_eq_true, bne_iff_ne] at hE
  obtain ⟨⟨hE1, hE2⟩, hE3⟩ := hE
  unfold aeq at h
  split at h
  · rename_i offs tys s b z hi
    obtain ⟨du, hu1, hu2⟩ := (hT.facts hi).und
    cases du with
    | struct fs =>
      simp only [tkOf, TK.strct.injEq] at hu2
      split at h
      · rename_i cx
        split at h
        · rename_i cy
          cases hu with
          | agg _ xs hlx hcx =>
            cases hv with
            | agg _ ys hly hcy =>
              have hf : P.fieldsOf t = fs := by simp [Program.fieldsOf, hu1]
              rw [← hu2.1, ← hu2.2] at h
              obtain ⟨b', e1, e2⟩ := aeqL_sound (ρ := ρ) (O := O) (w0 := w) (xs := xs) (ys := ys) hT 9998 fs.toList 0 cx cy K h (fun f hf' => hE1 f (by rw [hf]; exact hf')) (fun n x v h1 h2 => hcx n x v h1 (by simpa using h2)) (fun n x v h1 h2 => hcy n x v h1 (by simpa using h2)) (by omega) (by omega)
              refine ⟨b', e1, fun w' => ⟨run_eqGuard_agg w' op t ox oy xs ys hE3, ?_, by simp, by simp, by simp, by simp⟩⟩
              have h1 := run_equalIn_struct (P := P) w' 9999 t xs ys (by rw [hf]; exact hu1) hE2
              rw [hf, e2 w'] at h1
              exact h1
        · cases h
      · cases h
    | _ => simp [tkOf] at hu2
  · rename_i s b z hi
    have hu1 := und_bool hT hi
    split at h
    · rename_i a
      split at h
      · rename_i b'
        have q1 := one_of hu
        have q2 := one_of hv
        subst q1; subst q2
        refine ⟨_, h, fun w' => ⟨by unfold eqGuard; split <;> rfl, ?_, by simp, by simp, by simp, by simp⟩⟩
        exact run_equalIn_bool' (P := P) w' 9999 t a b' hu1
      · cases h
    · cases h
  · cases h

theorem VOp.eq {ts : List (Nat × TI)} (hT : TOK P ts) {o : Option Tmp} {σ : St} {vx vy : AV} (hx : ev σ x = some vx) (hy : ev σ y = some vy) {b : Bool} (h : aeq ts t vx vy some = some b) (hE : eqOK P t = true) : VOp P σ ⟨o, .binOp .eql t x y t2, ty, pos, aft, g⟩ (bo b) := by
  refine VOp.mk fun c ac w ρ O hs => ?_
  obtain ⟨b', e1, e2⟩ := aeq_run hT hE h (ev_sound hs hx) (ev_sound hs hy) x y .eql
  cases e1
  refine ⟨.bool b, fun w' _ => ?_, .d _ _ (.one _ rfl)⟩
  obtain ⟨f1, f2, f3, f4, f5, f6⟩ := e2 w'
  have hb : (binOp .eql t (ac.eval x) (ac.eval y)).run P w' = .ok (.bool b) w' := by
    unfold binOp
    split <;> first | (exfalso; simp_all; done) | skip
    all_goals first
      | (rename_i hq; exact absurd hq (f3 _ _))
      | simp_all
  simp only [execOp]
  rw [Sem.run_bind, Sem.run_bind, f1]
  simp only [Result.andThen_ok, hb]
  rfl
end
end Go.AM

/- A machine over pure data: part 22: more comparisons; the smaller, the greater; a row's element written; a call's rows handed back as data. -/
namespace Go.AM
open Go Go.RowKit

section
variable {P : Program} {l rest : List Oper} {Q : Exit → St → Prop} {n d clk : Nat} {T : List (Nat × AV)} {H : List (Nat × Option Blk)} {Hp : List Blk} {x y : Operand} {args : Array Operand} {tys : Array TypeId} {t t2 ty : TypeId} {pos : String} {aft : Array Edge} {g : Option (Nat × Bool)}

theorem VOp.neq {ts : List (Nat × TI)} (hT : TOK P ts) {o : Option Tmp} {σ : St} {vx vy : AV} (hx : ev σ x = some vx) (hy : ev σ y = some vy) {b : Bool} (h : aeq ts t vx vy some = some b) (hE : eqOK P t = true) : VOp P σ ⟨o, .binOp .neq t x y t2, ty, pos, aft, g⟩ (bo (!b)) := by
  refine VOp.mk fun c ac w ρ O hs => ?_
  obtain ⟨b', e1, e2⟩ := aeq_run hT hE h (ev_sound hs hx) (ev_sound hs hy) x y .neq
  cases e1
  refine ⟨.bool (!b), fun w' _ => ?_, .d _ _ (.one _ rfl)⟩
  obtain ⟨f1, f2, f3, f4, f5, f6⟩ := e2 w'
  have hb : (binOp .neq t (ac.eval x) (ac.eval y)).run P w' = .ok (.bool (!b)) w' := by
    unfold binOp
    split <;> first | (exfalso; simp_all; done) | skip
    all_goals first
      | (rename_i hq; exact absurd hq (f3 _ _))
      | simp_all
  simp only [execOp]
  rw [Sem.run_bind, Sem.run_bind, f1]
  simp only [Result.andThen_ok, hb]
  rfl
theorem AL.eq {ts : List (Nat × TI)} (hT : TOK P ts) (hw : wantedA l ⟨some d, .binOp .eql t x y t2, ty, pos, aft, g⟩ ⟨n, T, H, Hp, clk⟩ = some true) (hd : Nat.blt d n = true) {vx vy : AV} (hx : ev ⟨n, T, H, Hp, clk⟩ x = some vx) (hy : ev ⟨n, T, H, Hp, clk⟩ y = some vy) {b : Bool} (h : aeq ts t vx vy some = some b) (hE : eqOK P t = true)
    (hr : AL P l Q rest ⟨n, (d, bo b) :: T, H, Hp, clk⟩) : AL P l Q (⟨some d, .binOp .eql t x y t2, ty, pos, aft, g⟩ :: rest) ⟨n, T, H, Hp, clk⟩ := AL.v hw hd (.eq hT hx hy h hE) hr
theorem AL.neq {ts : List (Nat × TI)} (hT : TOK P ts) (hw : wantedA l ⟨some d, .binOp .neq t x y t2, ty, pos, aft, g⟩ ⟨n, T, H, Hp, clk⟩ = some true) (hd : Nat.blt d n = true) {vx vy : AV} (hx : ev ⟨n, T, H, Hp, clk⟩ x = some vx) (hy : ev ⟨n, T, H, Hp, clk⟩ y = some vy) {b : Bool} (h : aeq ts t vx vy some = some b) (hE : eqOK P t = true)
    (hr : AL P l Q rest ⟨n, (d, bo (!b)) :: T, H, Hp, clk⟩) : AL P l Q (⟨some d, .binOp .neq t x y t2, ty, pos, aft, g⟩ :: rest) ⟨n, T, H, Hp, clk⟩ := AL.v hw hd (.neq hT hx hy h hE) hr

/-! ### a slice, asked for nil -/
theorem run_equalIn_slice_nil' (w : World) (d : Nat) {e : TypeId} (v : Option Addr) (n c : Nat) (h : P.underlying t = some (.slice e)) : (Op.equalIn (d + 1) t (.slice v n c) (.slice none 0 0)).run P w = .ok v.isNone w := by
  cases v <;> simp [Op.equalIn, run_underlying h]
theorem run_eq_slice_nil (w : World) {e : TypeId} (v : Option Addr) (n c : Nat) (h : P.underlying t = some (.slice e)) (ox oy : Operand) :
    (do eqGuard .eql t ox oy (.slice v n c) (.slice none 0 0); binOp .eql t (.slice v n c) (.slice none 0 0) : Sem Value).run P w = .ok (.bool v.isNone) w ∧
    (do eqGuard .neq t ox oy (.slice v n c) (.slice none 0 0); binOp .neq t (.slice v n c) (.slice none 0 0) : Sem Value).run P w = .ok (.bool (!v.isNone)) w := by
  have h1 := run_equalIn_slice_nil' (P := P) w 9999 v n c h
  have h2 : (Op.equal t (.slice v n c) (.slice none 0 0)).run P w = .ok v.isNone w := h1
  constructor
  · have hg : (eqGuard .eql t ox oy (.slice v n c) (.slice none 0 0)).run P w = .ok () w := by simp [eqGuard]
    rw [Sem.run_bind, hg]
    simp only [Result.andThen_ok, binOp, Sem.run_bind, h2, Sem.run_pure]
  · have hg : (eqGuard .neq t ox oy (.slice v n c) (.slice none 0 0)).run P w = .ok () w := by simp [eqGuard]
    rw [Sem.run_bind, hg]
    simp only [Result.andThen_ok, binOp, Sem.run_bind, h2, Sem.run_pure]
theorem nil_eval {c : Ctx} {σ : St} {a : Act} {w : World} {ρ : Env} {O : Nat → Prop} (hs : SatAt c σ a w ρ O) (hy : ev σ y = some .nilrow) : a.eval y = .slice none 0 0 := by
  have h := ev_sound hs hy
  generalize a.eval y = q at h
  cases h
  rfl
theorem row_nil {w : World} {xs : List (List D)} {v : Value} (hv : Reads (fun _ => False) w (.row xs) v) : ∃ A n c, v = .slice A n c ∧ (A.isNone = true → xs = []) := by
  cases hv with
  | none a c => exact ⟨a, 0, c, rfl, fun _ => rfl⟩
  | row _ sz c ad u hlen hc hm hO hb hcell hsub => exact ⟨_, _, _, rfl, fun h => by cases h⟩
theorem AL.eqNil {ts : List (Nat × TI)} (hT : TOK P ts) (hw : wantedA l ⟨some d, .binOp .eql t x y t2, ty, pos, aft, g⟩ ⟨n, T, H, Hp, clk⟩ = some true) (hd : Nat.blt d n = true) {vx : AV} {xs : List (List D)} (hx : ev ⟨n, T, H, Hp, clk⟩ x = some vx) (hxs : rowOf ⟨n, T, H, Hp, clk⟩ vx = some xs) (hy : ev ⟨n, T, H, Hp, clk⟩ y = some .nilrow)
    {e s b : Nat} {z : List AV} (ht : lk ts t = some ⟨.slice e, s, b, z⟩) (hr : ∀ b : Bool, (b = true → xs = []) → AL P l Q rest ⟨n, (d, bo b) :: T, H, Hp, clk⟩) : AL P l Q (⟨some d, .binOp .eql t x y t2, ty, pos, aft, g⟩ :: rest) ⟨n, T, H, Hp, clk⟩ := by
  intro c a w hsat
  obtain ⟨ρ, O, hs⟩ := hsat
  obtain ⟨A, m, cc, e1, e2⟩ := row_nil (row_reads hs hxs (ev_sound hs hx))
  refine wpList_step fun K hK => ?_
  rw [if_pos (wantedA_sound hw ⟨ρ, O, hs⟩)]
  unfold Oper.wp
  have h3 := (run_eq_slice_nil (P := P) w A m cc (und_slice hT ht) x y).1
  have : (execOp a.eval ⟨some d, .binOp .eql t x y t2, ty, pos, aft, g⟩).run P w = .ok (.value (.bool A.isNone)) w := by
    simp only [execOp, e1, nil_eval hs hy]
    rw [Sem.run_bind, h3]
    rfl
  rw [this]
  exact hK _ _ (hr _ e2 c _ w ⟨ρ, O, put_sat hs (v := .bool A.isNone) (x := bo A.isNone) (.d _ _ (.one _ rfl)) (by simp [put, hd])⟩)
theorem AL.neqNil {ts : List (Nat × TI)} (hT : TOK P ts) (hw : wantedA l ⟨some d, .binOp .neq t x y t2, ty, pos, aft, g⟩ ⟨n, T, H, Hp, clk⟩ = some true) (hd : Nat.blt d n = true) {vx : AV} {xs : List (List D)} (hx : ev ⟨n, T, H, Hp, clk⟩ x = some vx) (hxs : rowOf ⟨n, T, H, Hp, clk⟩ vx = some xs) (hy : ev ⟨n, T, H, Hp, clk⟩ y = some .nilrow)
    {e s b : Nat} {z : List AV} (ht : lk ts t = some ⟨.slice e, s, b, z⟩) (hr : ∀ b : Bool, (b = false → xs = []) → AL P l Q rest ⟨n, (d, bo b) :: T, H, Hp, clk⟩) : AL P l Q (⟨some d, .binOp .neq t x y t2, ty, pos, aft, g⟩ :: rest) ⟨n, T, H, Hp, clk⟩ := by
  intro c a w hsat
  obtain ⟨ρ, O, hs⟩ := hsat
  obtain ⟨A, m, cc, e1, e2⟩ := row_nil (row_reads hs hxs (ev_sound hs hx))
  refine wpList_step fun K hK => ?_
  rw [if_pos (wantedA_sound hw ⟨ρ, O, hs⟩)]
  unfold Oper.wp
  have h3 := (run_eq_slice_nil (P := P) w A m cc (und_slice hT ht) x y).2
  have : (execOp a.eval ⟨some d, .binOp .neq t x y t2, ty, pos, aft, g⟩).run P w = .ok (.value (.bool (!A.isNone))) w := by
    simp only [execOp, e1, nil_eval hs hy]
    rw [Sem.run_bind, h3]
    rfl
  rw [this]
  exact hK _ _ (hr (!A.isNone) (fun h => e2 (by simpa using h)) c _ w ⟨ρ, O, put_sat hs (v := .bool (!A.isNone)) (x := bo (!A.isNone)) (.d _ _ (.one _ rfl)) (by simp [put, hd])⟩)

/-! ### the smaller, the greater -/
theorem VOp.max {o : Option Tmp} {σ : St} {k : IntKind} {a b : Int} (hx : ev σ x = some (.d (.one (.int k a)))) (hy : ev σ y = some (.d (.one (.int k b)))) : VOp P σ ⟨o, .call ⟨.builtin .max, #[x, y], tys⟩, ty, pos, aft, g⟩ (.d (.one (.int k (if b > a then b else a)))) := by
  refine VOp.mk fun c ac w ρ O hs => ?_
  have e1 := one_of (ev_sound hs hx)
  have e2 := one_of (ev_sound hs hy)
  exact ⟨_, fun w' _ => by simp [execOp, resolve, invoke, builtin, Builtin.max_, Builtin.max2, e1, e2], .d _ _ (.one _ rfl)⟩
theorem VOp.min {o : Option Tmp} {σ : St} {k : IntKind} {a b : Int} (hx : ev σ x = some (.d (.one (.int k a)))) (hy : ev σ y = some (.d (.one (.int k b)))) : VOp P σ ⟨o, .call ⟨.builtin .min, #[x, y], tys⟩, ty, pos, aft, g⟩ (.d (.one (.int k (if b < a then b else a)))) := by
  refine VOp.mk fun c ac w ρ O hs => ?_
  have e1 := one_of (ev_sound hs hx)
  have e2 := one_of (ev_sound hs hy)
  exact ⟨_, fun w' _ => by simp [execOp, resolve, invoke, builtin, Builtin.min_, Builtin.min2, e1, e2], .d _ _ (.one _ rfl)⟩
theorem AL.max (hw : wantedA l ⟨some d, .call ⟨.builtin .max, #[x, y], tys⟩, ty, pos, aft, g⟩ ⟨n, T, H, Hp, clk⟩ = some true) (hd : Nat.blt d n = true) {k : IntKind} {a b : Int} (hx : ev ⟨n, T, H, Hp, clk⟩ x = some (.d (.one (.int k a)))) (hy : ev ⟨n, T, H, Hp, clk⟩ y = some (.d (.one (.int k b))))
    (h : AL P l Q rest ⟨n, (d, .d (.one (.int k (if b > a then b else a)))) :: T, H, Hp, clk⟩) : AL P l Q (⟨some d, .call ⟨.builtin .max, #[x, y], tys⟩, ty, pos, aft, g⟩ :: rest) ⟨n, T, H, Hp, clk⟩ := AL.v hw hd (.max hx hy) h
theorem AL.min (hw : wantedA l ⟨some d, .call ⟨.builtin .min, #[x, y], tys⟩, ty, pos, aft, g⟩ ⟨n, T, H, Hp, clk⟩ = some true) (hd : Nat.blt d n = true) {k : IntKind} {a b : Int} (hx : ev ⟨n, T, H, Hp, clk⟩ x = some (.d (.one (.int k a)))) (hy : ev ⟨n, T, H, Hp, clk⟩ y = some (.d (.one (.int k b))))
    (h : AL P l Q rest ⟨n, (d, .d (.one (.int k (if b < a then b else a)))) :: T, H, Hp, clk⟩) : AL P l Q (⟨some d, .call ⟨.builtin .min, #[x, y], tys⟩, ty, pos, aft, g⟩ :: rest) ⟨n, T, H, Hp, clk⟩ := AL.v hw hd (.min hx hy) h

/-! ### a row's element, written -/
theorem AL.storeR {ts : List (Nat × TI)} (hT : TOK P ts) (hw : wantedA l ⟨none, .store t x y, ty, pos, aft, g⟩ ⟨n, T, H, Hp, clk⟩ = some true) {id : Nat} {e sz j f : Nat} {xs xs' : List (List D)} (hx : ev ⟨n, T, H, Hp, clk⟩ x = some (.rptr (.loc id) sz j f))
    (hid : hk ⟨n, T, H, Hp, clk⟩ (.loc id) = some (.row e sz xs)) {el : List D} (hel : xs[j]? = some el) {i : TI} (hi : lk ts t = some i) {v : AV} (hv : ev ⟨n, T, H, Hp, clk⟩ y = some v) {nd : List D} (hnd : toDs (cellsV v) some = some nd) (hl : Nat.beq nd.length i.size = true)
    (hfl : f + nd.length ≤ sz) (hxs' : xs.set j (el.take f ++ nd ++ el.drop (f + nd.length)) = xs')
    (h : AL P l Q rest ⟨n, T, (id, some (.row e sz xs')) :: H, Hp, clk⟩) : AL P l Q (⟨none, .store t x y, ty, pos, aft, g⟩ :: rest) ⟨n, T, H, Hp, clk⟩ := by
  refine AL.step (σ' := ⟨n, T, (id, some (.row e sz xs')) :: H, Hp, clk⟩) hw ?_ h
  rintro c a w ⟨ρ, O, hs⟩ K Q hK
  subst hxs'
  have hl := Nat.eq_of_beq_eq_true hl
  have hj : j < xs.length := (List.getElem?_eq_some_iff.1 hel).1
  have hne : xs ≠ [] := fun e => by rw [e] at hel; simp at hel
  obtain ⟨nd', hnd0, hndl, hndc, hndv⟩ := toDs_spec hnd
  cases hnd0
  obtain ⟨hv1, hv2⟩ := (ev_sound hs hv).cells hndc
  obtain ⟨v0, vs0, k1, k2, k3, k4⟩ := hs.H.ok (.loc id) _ hid
  rcases k2.2 with ⟨_, h5⟩ | ⟨gb, cap, cur, rfl, hbase, hh, hnc, hcm, hcs, htk⟩
  · exact absurd (List.eq_nil_of_length_eq_zero h5) hne
  have hell : el.length = sz := k3 el (List.mem_of_getElem? hel)
  have hxp := ev_sound hs hx
  generalize hq : a.eval x = q at hxp
  cases hxp with
  | rptr _ _ _ _ g' hg =>
    rw [k1] at hg
    simp [vblk] at hg
    subst hg
    have hseg : (j + 1) * sz ≤ xs.length * sz := Nat.mul_le_mul_right _ hj
    have hseg2 : xs.length * sz ≤ cap * sz := Nat.mul_le_mul_right _ hnc
    have hjs : (j + 1) * sz = j * sz + sz := Nat.succ_mul j sz
    obtain ⟨cur', e1, e2, e3⟩ := run_storeSeg (P := P) gb (j * sz + f) e (a.eval y).cells.toList 0 cur w hh (by simp [hv1]; omega) (fun u hu => by
      obtain ⟨k, hk⟩ := List.getElem?_of_mem hu
      have hk' : k < (cellsV v).length := by
        have := (List.getElem?_eq_some_iff.1 hk).1
        rw [← hv1]
        simpa using this
      exact (hv2 k _ u (List.getElem?_eq_getElem hk') (by simpa using hk)).2)
    have hO : O gb := (hs.H.own (.loc id) _ gb hid (by rw [k1]; rfl)).1
    have hk0 : Keeps O w O (w.setRow gb cur') := ⟨by simp, fun k _ hO' => setRow_other w gb k cur' (fun e => hO' (e ▸ hO)), fun k hk => .inl hk⟩
    have hrun : (Instr.storeAt t (.pointer (some ⟨gb, j * sz + f, none⟩)) (a.eval y)).run P w = .ok () (w.setRow gb cur') := by
      have hsz : (a.eval y).cells.size = i.size := by rw [hv1]; omega
      simp [Instr.storeAt, Instr.sureAddr, storeVar, (hT.facts hi).sizeOf, hsz, e1]
    have hget : ∀ (j' k : Nat) x d, (xs.set j (el.take f ++ nd ++ el.drop (f + nd.length)))[j']? = some x → x[k]? = some d → ∃ u, cur'[j' * sz + k]? = some u ∧ Reads O (w.setRow gb cur') d u := by
      intro j' k x d hx' hd'
      by_cases hjj : j' = j
      · subst hjj
        rw [List.getElem?_set_self hj] at hx'
        cases hx'
        have hkl : k < sz := by
          have := (List.getElem?_eq_some_iff.1 hd').1
          simp only [List.length_append, List.length_take, List.length_drop] at this
          omega
        by_cases hin : f ≤ k ∧ k < f + nd.length
        · have h1 : nd[k - f]? = some d := by
            rw [List.append_assoc, List.getElem?_append_right (by simp; omega), List.getElem?_append_left (by simp; omega)] at hd'
            rw [← hd']; congr 1; simp; omega
          have h2 : k - f < (cellsV v).length := by omega
          have h3 : k - f < (a.eval y).cells.size := by omega
          refine ⟨(a.eval y).cells[k - f], ?_, ?_⟩
          · rw [e3, if_pos (by simp [hv1]; omega)]
            rw [show j' * sz + k - (j' * sz + f + 0) = k - f by omega]
            simp [h3]
          · exact (hndv ρ O w (k - f) _ d _ (List.getElem?_eq_getElem h2) h1 (hv2 (k - f) _ _ (List.getElem?_eq_getElem h2) (by simp [h3])).1).keep hk0
        · have h1 : el[k]? = some d := by
            by_cases hlt : k < f
            · rw [List.append_assoc, List.getElem?_append_left (by simp; omega), List.getElem?_take, if_pos hlt] at hd'
              exact hd'
            · rw [List.getElem?_append_right (by simp; omega), List.getElem?_drop] at hd'
              rw [← hd']; congr 1; simp; omega
          obtain ⟨u, u1, u2⟩ := k4 j' k el d hel h1
          refine ⟨u, ?_, u2.keep hk0⟩
          rw [e3, if_neg (by simp [hv1]; omega)]
          rw [← htk, List.getElem?_take] at u1
          split at u1
          · simpa using u1
          · cases u1
      · rw [List.getElem?_set_ne (Ne.symm hjj)] at hx'
        obtain ⟨u, u1, u2⟩ := k4 j' k x d hx' hd'
        have hkl : k < sz := by
          have := (List.getElem?_eq_some_iff.1 hd').1
          rw [k3 x (List.mem_of_getElem? hx')] at this
          exact this
        refine ⟨u, ?_, u2.keep hk0⟩
        rw [e3, if_neg (by
          simp only [Nat.add_zero, Array.length_toList, hv1]
          rcases Nat.lt_or_gt_of_ne hjj with hlt | hgt
          · have := Nat.mul_le_mul_right sz (show j' + 1 ≤ j from hlt)
            rw [Nat.succ_mul] at this
            omega
          · have := Nat.mul_le_mul_right sz (show j + 1 ≤ j' from hgt)
            omega)]
        rw [← htk, List.getElem?_take] at u1
        split at u1
        · simpa using u1
        · cases u1
    have hlen' : (xs.set j (el.take f ++ nd ++ el.drop (f + nd.length))).length = xs.length := by simp
    have hsat := chg_sat (σ' := ⟨n, T, (id, some (.row e sz (xs.set j (el.take f ++ nd ++ el.drop (f + nd.length))))) :: H, Hp, clk⟩) (b := .row e sz (xs.set j (el.take f ++ nd ++ el.drop (f + nd.length)))) hs hid rfl (g := gb) (w' := w.setRow gb cur') (by rw [k1]; rfl) (fun k hk => setRow_other w gb k cur' hk) (by simp) rfl rfl rfl
      ⟨_, cur'.toList.take (xs.length * sz), k1, ⟨by rw [hlen', List.length_take, show cur'.toList.length = cap * sz by rw [Array.length_toList, e2, hcs]]; exact Nat.min_eq_left hseg2, .inr ⟨gb, cap, cur', by rw [hlen'], hbase, setRow_heap w gb cur cur' e (0, 0) hh, by rw [hlen']; exact hnc, hcm, by rw [e2, hcs], by rw [hlen']⟩⟩, fun x hx' => by
        rcases List.mem_or_eq_of_mem_set hx' with h | h
        · exact k3 x h
        · subst h
          simp
          omega, fun j' k x d hx' hd' => by
        obtain ⟨u, u1, u2⟩ := hget j' k x d hx' hd'
        refine ⟨u, ?_, u2⟩
        have hj' : j' < xs.length := by
          have := (List.getElem?_eq_some_iff.1 hx').1
          simpa using this
        have hxl : x.length = sz := by
          rcases List.mem_or_eq_of_mem_set (List.mem_of_getElem? hx') with h | h
          · exact k3 x h
          · subst h
            simp
            omega
        have hkl : k < sz := by
          have := (List.getElem?_eq_some_iff.1 hd').1
          omega
        have := Nat.mul_le_mul_right sz (show j' + 1 ≤ xs.length from hj')
        rw [Nat.succ_mul] at this
        rw [List.getElem?_take, if_pos (by omega)]
        simpa using u1⟩
    unfold Oper.wp
    simp only [execOp, hq, Sem.run_bind, hrun, Result.andThen_ok, Sem.run_pure]
    exact hK _ _ ⟨ρ, O, hsat⟩
end
end Go.AM

/- A machine over pure data: part 23: a call's rows handed back as data. -/
namespace Go.AM
open Go Go.RowKit

/-- A result, the rows of the call's own told as data. -/
def dr1 (Hr : List Rw) : AV → AV
  | .own (.loc k) => match Hr[k]? with
    | some r => .d (.row r.xs)
    | none => .junk
  | .d y => .d y
  | .nilrow => .nilrow
  | _ => .junk
def dr2 (Hr : List Rw) : AV → AV
  | .agg l => .agg (l.map (dr1 Hr))
  | .tup l => .tup (l.map (dr1 Hr))
  | x => dr1 Hr x

theorem fin_reads {c : Ctx} {r : AV} {Hp : List Blk} {Hr : List Rw} {v : Value} {w : World} {ρ : Env} {O : Nat → Prop} (hf : FinAt c r Hp Hr v w ρ O) {k : Nat} {rw : Rw} (hk' : Hr[k]? = some rw) {u : Value} (hu : ρ (.loc k) = some u) : Reads c.O0 w (.row rw.xs) u := by
  have hb : hk (finS Hp Hr) (.loc k) = some rw.blk := by
    have hlt : k < Hr.length := (List.getElem?_eq_some_iff.1 hk').1
    have := lk_rowsH ([] : List (Nat × Option Blk)) Hr 0 k
    rw [List.append_nil, if_pos (by omega), Nat.sub_zero, hk'] at this
    simp [hk, finS, this]
  refine own_reads (hf.H.ok (.loc k) _ hb) hu (fun j hj => hf.F.mono j hj) (fun g hg h0 => ?_)
  have h1 := (hf.H.own (.loc k) _ g hb (by rw [hu]; exact hg)).2.2
  exact hf.F.nw h1 h0

theorem dr1_vr {c : Ctx} {r : AV} {Hp : List Blk} {Hr : List Rw} {v : Value} {w : World} {ρ : Env} {O : Nat → Prop} (hf : FinAt c r Hp Hr v w ρ O) {x : AV} {u : Value} (h : VR ρ O w x u) (ρ' : Env) : VR ρ' c.O0 w (dr1 Hr x) u := by
  have hk0 : Keeps O w c.O0 w := ⟨Nat.le_refl _, fun _ _ _ => rfl, fun k hk => .inl (hf.F.mono k hk)⟩
  cases h with
  | d y u h => exact .d _ _ (h.keep hk0)
  | nilrow => exact .nilrow
  | own i u h h1 =>
    cases i with
    | par k => exact .junk _
    | loc k =>
      simp only [dr1]
      split
      · rename_i rw hr
        exact .d _ _ (fin_reads hf hr h)
      · exact .junk _
  | _ => exact .junk _
theorem dr2_vr {c : Ctx} {r : AV} {Hp : List Blk} {Hr : List Rw} {v : Value} {w : World} {ρ : Env} {O : Nat → Prop} (hf : FinAt c r Hp Hr v w ρ O) {x : AV} {u : Value} (h : VR ρ O w x u) (ρ' : Env) : VR ρ' c.O0 w (dr2 Hr x) u := by
  have lst : ∀ (l : List AV) (vs : Array Value), (∀ (k : Nat) x v, l[k]? = some x → vs[k]? = some v → VR ρ O w x v) → ∀ (k : Nat) x v, (l.map (dr1 Hr))[k]? = some x → vs[k]? = some v → VR ρ' c.O0 w x v := by
    intro l vs hc k y v hy hv
    rw [List.getElem?_map, Option.map_eq_some_iff] at hy
    obtain ⟨z, hz, rfl⟩ := hy
    exact dr1_vr hf (hc k z v hz hv) ρ'
  cases x with
  | agg l => cases h with | agg _ vs hl hc => exact .agg _ vs (by simpa using hl) (lst l vs hc)
  | tup l => cases h with | tup _ vs hl hc => exact .tup _ vs (by simpa using hl) (lst l vs hc)
  | fn f l => exact .junk _
  | _ => exact dr1_vr hf h ρ'

/-- A call that is handed no blocks may tell its rows as data. -/
theorem ACalls.dr {P : Program} {f : FuncId} {args : List AV} {R : AV → List Rw → Prop} (h : ACalls P f args [] fun r _ Hr => R r Hr) : ACallPR P f args fun r' => ∃ r Hr, R r Hr ∧ r' = dr2 Hr r := by
  refine ⟨h.1, fun c vs hi => (h.2 c vs hi).mono ?_⟩
  rintro e w' ⟨r, Hp', Hr, v, ρ, O, hR, rfl, hf⟩
  refine ⟨dr2 Hr r, [], [], v, fun i => match i with | .par k => c.ρp k | .loc _ => none, c.O0, ⟨⟨r, Hr, hR, rfl⟩, rfl⟩, rfl, ⟨fun k => rfl, fun k _ => rfl, ⟨fun i b hb => ?_, fun i b g hb => ?_, fun i j bi bj g hb => ?_⟩, ?_, dr2_vr hf hf.r _⟩⟩
  · cases i <;> simp [hk, finS, rowsH, lk] at hb
  · cases i <;> simp [hk, finS, rowsH, lk] at hb
  · cases i <;> simp [hk, finS, rowsH, lk] at hb
  · have hF := hf.F
    exact ⟨hF.os, hF.tape, hF.output, hF.size, hF.same, fun k hk => hk, fun k hk => .inl hk, hF.wlt, fun k hk => hF.olt k (hF.mono k hk), hF.olt0, hF.glt⟩
/-- A row of the call's own, handed back: as data. -/
theorem ACallO.dr {P : Program} {f : FuncId} {args : List AV} {e sz : Nat} {xs : List (List D)} (h : ACallO P f args e sz (· = xs)) : ACallP P f args (.d (.row xs)) := by
  have h1 : ACallPR P f args fun r' => ∃ (r : AV) (Hr : List Rw), (∃ ys, ys = xs ∧ r = .own (.loc 0) ∧ Hr = [⟨e, sz, ys⟩]) ∧ r' = dr2 Hr r := ACalls.dr h
  refine ⟨h1.1, fun c vs hi => (h1.2 c vs hi).mono ?_⟩
  rintro e' w' ⟨r, Hp', Hr, v, ρ, O, ⟨⟨r0, Hr0, ⟨ys, rfl, rfl, rfl⟩, rfl⟩, rfl⟩, he, hf⟩
  exact ⟨_, _, _, v, ρ, O, ⟨rfl, rfl⟩, he, hf⟩
/-- A nil slice is data without elements. -/
theorem Imp.nilD (s : Nat) {n clk : Nat} {T : List (Nat × AV)} {H : List (Nat × Option Blk)} {Hp : List Blk} (hs : lk T s = some .nilrow) : Imp ⟨n, T, H, Hp, clk⟩ ⟨n, (s, .d (.row [])) :: T, H, Hp, clk⟩ := by
  rintro c a w ⟨ρ, O, h⟩
  refine ⟨ρ, O, h.defers, h.n, h.par, h.fresh, fun t x ht => ?_, h.H, h.F⟩
  rcases lk_shadow ht with ⟨rfl, rfl⟩ | ⟨_, ht⟩
  · obtain ⟨v, e1, e2⟩ := h.T s _ hs
    cases e2
    exact ⟨_, e1, .d _ _ (.none none 0)⟩
  · exact h.T t x ht
theorem AW.nilD (s : Nat) {P : Program} {code : Code} {Q : Exit → St → Prop} {n clk : Nat} {T : List (Nat × AV)} {H : List (Nat × Option Blk)} {Hp : List Blk} (hs : lk T s = some .nilrow) (h : AW P code Q ⟨n, (s, .d (.row [])) :: T, H, Hp, clk⟩) : AW P code Q ⟨n, T, H, Hp, clk⟩ := AW.imp (Imp.nilD s hs) h
theorem AW.nilOwn (s e sz : Nat) {P : Program} {code : Code} {Q : Exit → St → Prop} {n clk : Nat} {T : List (Nat × AV)} {H : List (Nat × Option Blk)} {Hp : List Blk} (hs : lk T s = some .nilrow) (h : AW P code Q ⟨n, (s, .own (.loc clk)) :: T, (clk, some (.row e sz [])) :: H, Hp, clk + 1⟩) : AW P code Q ⟨n, T, H, Hp, clk⟩ := AW.imp (nilOwn_imp s e sz hs) h

section
variable {P : Program} {l rest : List Oper} {Q : Exit → St → Prop} {n d clk : Nat} {T : List (Nat × AV)} {H : List (Nat × Option Blk)} {Hp : List Blk} {x y : Operand} {args : Array Operand} {tys : Array TypeId} {t t2 ty : TypeId} {pos : String} {aft : Array Edge} {g : Option (Nat × Bool)}
/-! ### rows of the call's own, told by a list of things -/
theorem AL.idxON {ts : List (Nat × TI)} (hT : TOK P ts) (hw : wantedA l ⟨some d, .indexAddr t x y, ty, pos, aft, g⟩ ⟨n, T, H, Hp, clk⟩ = some true) (hd : Nat.blt d n = true) {id : Id} {e sz : Nat} {xs : List (List D)} (hx : ev ⟨n, T, H, Hp, clk⟩ x = some (.own id))
    (hid : hk ⟨n, T, H, Hp, clk⟩ id = some (.row e sz xs)) {k : IntKind} {i : Nat} (hy : ev ⟨n, T, H, Hp, clk⟩ y = some (.d (.one (.int k (i : Int))))) {e' s b : Nat} {z : List AV} (ht : lk ts t = some ⟨.slice e', s, b, z⟩) {ie : TI} (he : lk ts e' = some ie)
    (hsz : Nat.beq ie.size sz = true) (h1 : i < xs.length) (h : AL P l Q rest ⟨n, (d, .rptr id sz i 0) :: T, H, Hp, clk⟩) : AL P l Q (⟨some d, .indexAddr t x y, ty, pos, aft, g⟩ :: rest) ⟨n, T, H, Hp, clk⟩ :=
  AL.idxO hT hw hd hx hid hy ht he hsz (by omega) (by simpa using h1) (by simpa using h)
theorem AL.loadRM {ts : List (Nat × TI)} (hT : TOK P ts) (hw : wantedA l ⟨some d, .load t x, ty, pos, aft, g⟩ ⟨n, T, H, Hp, clk⟩ = some true) (hd : Nat.blt d n = true) {id : Id} {e sz j f : Nat} {α : Type} {fn : α → List D} {xs : List α} (hx : ev ⟨n, T, H, Hp, clk⟩ x = some (.rptr id sz j f))
    (hid : hk ⟨n, T, H, Hp, clk⟩ id = some (.row e sz (xs.map fn))) (hj : j < xs.length) {v : AV} (hv : (dropK (fn (xs[j]'hj)) f fun r => aload ts ⟨n, T, H, Hp, clk⟩ t (.eptr r)) = some v)
    (h : AL P l Q rest ⟨n, (d, v) :: T, H, Hp, clk⟩) : AL P l Q (⟨some d, .load t x, ty, pos, aft, g⟩ :: rest) ⟨n, T, H, Hp, clk⟩ :=
  AL.loadR hT hw hd hx hid (el := fn (xs[j]'hj)) (by simp [hj]) hv h
theorem AL.storeRM {ts : List (Nat × TI)} (hT : TOK P ts) {α : Type} {fn : α → List D} {xs : List α} (c' : α) (hw : wantedA l ⟨none, .store t x y, ty, pos, aft, g⟩ ⟨n, T, H, Hp, clk⟩ = some true) {id : Nat} {e sz j f : Nat} (hx : ev ⟨n, T, H, Hp, clk⟩ x = some (.rptr (.loc id) sz j f))
    (hid : hk ⟨n, T, H, Hp, clk⟩ (.loc id) = some (.row e sz (xs.map fn))) (hj : j < xs.length) {i : TI} (hi : lk ts t = some i) {v : AV} (hv : ev ⟨n, T, H, Hp, clk⟩ y = some v) {nd : List D} (hnd : toDs (cellsV v) some = some nd) (hl : Nat.beq nd.length i.size = true)
    (hfl : f + nd.length ≤ sz) (hc : (fn (xs[j]'hj)).take f ++ nd ++ (fn (xs[j]'hj)).drop (f + nd.length) = fn c')
    (h : AL P l Q rest ⟨n, T, (id, some (.row e sz ((xs.set j c').map fn))) :: H, Hp, clk⟩) : AL P l Q (⟨none, .store t x y, ty, pos, aft, g⟩ :: rest) ⟨n, T, H, Hp, clk⟩ :=
  AL.storeR hT hw hx hid (el := fn (xs[j]'hj)) (by simp [hj]) hi hv hnd hl hfl (by rw [hc, List.map_set]) h
end
end Go.AM
