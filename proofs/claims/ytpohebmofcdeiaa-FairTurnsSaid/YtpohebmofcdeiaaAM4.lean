/- A machine over pure data: part 4: the steps, and why Go's machine takes them. -/
import Derived.Test.YtpohebmofcdeiaaAM3
namespace Go.AM
open Go Go.RowKit

def isCell : AV → Bool
  | .agg _ => false
  | .tup _ => false
  | .junk => false
  | _ => true

theorem VR.oneCell {ρ : Env} {O : Nat → Prop} {w : World} {x : AV} {v : Value} (h : VR ρ O w x v) (hc : isCell x = true) : v.oneCell' = true := by
  cases h with
  | d x v h => exact h.oneCell
  | own i v h h1 => exact h1
  | agg => cases hc
  | tup => cases hc
  | junk => cases hc
  | _ => rfl

def takeK {β : Type} : List AV → Nat → (List AV → Option β) → Option β
  | _, 0, k => k []
  | x :: xs, n + 1, k => takeK xs n (fun r => k (x :: r))
  | [], _ + 1, _ => none
def takeD {β : Type} : List D → Nat → (List AV → Option β) → Option β
  | _, 0, k => k []
  | x :: xs, n + 1, k => takeD xs n (fun r => k (.d x :: r))
  | [], _ + 1, _ => none
def dropK {α β : Type} : List α → Nat → (List α → Option β) → Option β
  | xs, 0, k => k xs
  | _ :: xs, n + 1, k => dropK xs n k
  | [], _ + 1, _ => none
def nthK {α β : Type} : List α → Nat → (α → Option β) → Option β
  | x :: _, 0, k => k x
  | _ :: xs, n + 1, k => nthK xs n k
  | [], _, _ => none
/-- ys in the place of what stands from n on. -/
def putK {β : Type} : List AV → Nat → List AV → (List AV → Option β) → Option β
  | xs, 0, [], k => k xs
  | _ :: xs, 0, y :: ys, k => putK xs 0 ys (fun r => k (y :: r))
  | x :: xs, n + 1, ys, k => putK xs n ys (fun r => k (x :: r))
  | _, _, _, _ => none

theorem takeK_spec {β : Type} {r : β} : ∀ {xs : List AV} {n : Nat} {k : List AV → Option β}, takeK xs n k = some r → n ≤ xs.length ∧ k (xs.take n) = some r
  | xs, 0, k, h => by
    cases xs <;> exact ⟨Nat.zero_le _, by simpa [takeK] using h⟩
  | x :: xs, n + 1, k, h => by
    simp only [takeK] at h
    obtain ⟨h1, h2⟩ := takeK_spec h
    exact ⟨by simp; omega, by simpa using h2⟩
  | [], n + 1, k, h => by simp [takeK] at h
theorem takeD_spec {β : Type} {r : β} : ∀ {xs : List D} {n : Nat} {k : List AV → Option β}, takeD xs n k = some r → n ≤ xs.length ∧ k ((xs.take n).map .d) = some r
  | xs, 0, k, h => by
    cases xs <;> exact ⟨Nat.zero_le _, by simpa [takeD] using h⟩
  | x :: xs, n + 1, k, h => by
    simp only [takeD] at h
    obtain ⟨h1, h2⟩ := takeD_spec h
    exact ⟨by simp; omega, by simpa using h2⟩
  | [], n + 1, k, h => by simp [takeD] at h
theorem dropK_spec {α β : Type} {r : β} : ∀ {xs : List α} {n : Nat} {k : List α → Option β}, dropK xs n k = some r → n ≤ xs.length ∧ k (xs.drop n) = some r
  | xs, 0, k, h => by
    cases xs <;> exact ⟨Nat.zero_le _, by simpa [dropK] using h⟩
  | x :: xs, n + 1, k, h => by
    simp only [dropK] at h
    obtain ⟨h1, h2⟩ := dropK_spec h
    exact ⟨by simp; omega, by simpa using h2⟩
  | [], n + 1, k, h => by simp [dropK] at h
theorem nthK_spec {α β : Type} {r : β} : ∀ {xs : List α} {n : Nat} {k : α → Option β}, nthK xs n k = some r → ∃ x, xs[n]? = some x ∧ k x = some r
  | x :: xs, 0, k, h => ⟨x, rfl, by simpa [nthK] using h⟩
  | x :: xs, n + 1, k, h => by
    simp only [nthK] at h
    obtain ⟨y, h1, h2⟩ := nthK_spec h
    exact ⟨y, by simpa using h1, h2⟩
  | [], n, k, h => by simp [nthK] at h
theorem putK_spec {β : Type} {r : β} : ∀ {xs : List AV} {n : Nat} {ys : List AV} {k : List AV → Option β}, putK xs n ys k = some r →
    n + ys.length ≤ xs.length ∧ ∃ zs, zs.length = xs.length ∧ k zs = some r ∧ ∀ (j : Nat), zs[j]? = if n ≤ j ∧ j < n + ys.length then ys[j - n]? else xs[j]?
  | xs, 0, [], k, h => by
    have h' : k xs = some r := by cases xs <;> simpa [putK] using h
    exact ⟨by simp, xs, rfl, h', fun j => by simp⟩
  | x :: xs, 0, y :: ys, k, h => by
    simp only [putK] at h
    obtain ⟨h1, zs, h2, h3, h4⟩ := putK_spec h
    refine ⟨by simp at h1 ⊢; omega, y :: zs, by simp [h2], h3, fun j => ?_⟩
    cases j with
    | zero => simp
    | succ j =>
      have := h4 j
      simp only [Nat.zero_le, true_and, Nat.zero_add, Nat.sub_zero] at this ⊢
      simp only [List.length_cons, List.getElem?_cons_succ]
      rw [this]
      by_cases hj : j < ys.length
      · rw [if_pos hj, if_pos (by omega)]
      · rw [if_neg hj, if_neg (by omega)]
  | x :: xs, n + 1, ys, k, h => by
    simp only [putK] at h
    obtain ⟨h1, zs, h2, h3, h4⟩ := putK_spec h
    refine ⟨by simp; omega, x :: zs, by simp [h2], h3, fun j => ?_⟩
    cases j with
    | zero => simp
    | succ j =>
      simp only [List.getElem?_cons_succ]
      rw [h4 j]
      by_cases hj : n ≤ j ∧ j < n + ys.length
      · rw [if_pos hj, if_pos (by omega)]
        congr 1
        omega
      · rw [if_neg hj, if_neg (by omega)]
  | [], 0, y :: ys, k, h => by simp [putK] at h
  | [], n + 1, ys, k, h => by simp [putK] at h

def szAgg : TI → Bool
  | ⟨.strct _ _, _, _, _⟩ => true
  | ⟨.arr _ _, _, _, _⟩ => true
  | _ => false

theorem TFacts.sizeOf {P : Program} {t : Nat} {i : TI} (h : TFacts P t i) (w : World) : (sizeOf t).run P w = .ok i.size w := by
  obtain ⟨ti, z, h1, h2, _⟩ := h.info
  simp [Go.sizeOf, typeInfo, h1, h2]
theorem TFacts.isAgg {P : Program} {t : Nat} {i : TI} (h : TFacts P t i) (w : World) : (isAgg t).run P w = .ok (szAgg i) w := by
  obtain ⟨d, h1, h2⟩ := h.und
  obtain ⟨k, sz, by_, z⟩ := i
  simp only at h2
  subst h2
  cases d <;> simp [Go.isAgg, run_underlying h1, szAgg, tkOf]
theorem TFacts.zeroU {P : Program} {t : Nat} {i : TI} (h : TFacts P t i) : ∃ z, (∀ w, (zeroValue t).run P w = .ok z w) ∧ zall z.cells.toList i.zero = true := by
  obtain ⟨ti, z, h1, h2, h3, h4, h5⟩ := h.info
  exact ⟨z, fun w => by simp [zeroValue, typeInfo, h1, h4], h5⟩
theorem TFacts.zero {P : Program} {t : Nat} {i : TI} (h : TFacts P t i) (w : World) : ∃ z, (zeroValue t).run P w = .ok z w ∧ zall z.cells.toList i.zero = true := by
  obtain ⟨z, h1, h2⟩ := h.zeroU
  exact ⟨z, h1 w, h2⟩

/-- A variable's cells, at the world. -/
theorem box_cells {c : Ctx} {σ : St} {a : Act} {w : World} {ρ : Env} {O : Nat → Prop} (hs : SatAt c σ a w ρ O) {i : Id} {e : TypeId} {cells : List AV} (h : hk σ i = some (.box e cells)) :
    ∃ g vs, (ρ i).bind vblk = some g ∧ w.heap[g]? = some (.cells vs e (0, 0)) ∧ vs.size = cells.length ∧ ∀ (k : Nat) x v, cells[k]? = some x → vs[k]? = some v → VR ρ O w x v ∧ v.oneCell' = true := by
  obtain ⟨g, vs, h1, h2, h3, h4⟩ := hs.H.ok i _ h
  exact ⟨g, vs, by rw [h1]; rfl, h2, h3, h4⟩

/-- What stands from an address on, at the world. -/
theorem loadVar_run {P : Program} {ts : List (Nat × TI)} (hT : TOK P ts) {t : Nat} {i : TI} (hi : lk ts t = some i) {w : World} (p : Addr) (u : List Value)
    (hl : u.length = if szAgg i then i.size else 1) (hc : ∀ k v, u[k]? = some v → w.cell? (p.add k) = some v) :
    (loadVar t p).run P w = .ok (if szAgg i then .agg u.toArray else u.headD undef) w := by
  have hf := hT.facts hi
  unfold loadVar
  simp only [Sem.run_bind, hf.isAgg, Result.andThen_ok]
  cases hg : szAgg i with
  | true =>
    rw [hg] at hl
    simp only [if_true] at hl
    have := run_loadCells_list (P := P) w p u hc
    simp only [if_true, Sem.run_bind, hf.sizeOf, Result.andThen_ok, ← hl, this, Sem.run_pure]
  | false =>
    rw [hg] at hl
    simp at hl
    match u, hl with
    | [v], _ =>
      have := hc 0 v rfl
      have ha : p.add 0 = p := by simp [Addr.add]
      rw [ha] at this
      simp [this]

/-! ### what reads -/
def aload (ts : List (Nat × TI)) (σ : St) (t : Nat) (x : AV) : Option AV :=
  match lk ts t with
  | none => none
  | some i => match x with
    | .ptr id off => match hk σ id with
      | some (.box _ cells) => bif szAgg i then dropK cells off (fun r => takeK r i.size (fun r => some (.agg r))) else nthK cells off (fun y => some y)
      | _ => none
    | .eptr rest => bif szAgg i then takeD rest i.size (fun r => some (.agg r)) else nthK rest 0 (fun y => some (.d y))
    | _ => none

theorem aload_sound {P : Program} {ts : List (Nat × TI)} (hT : TOK P ts) {c : Ctx} {σ : St} {a : Act} {w : World} {ρ : Env} {O : Nat → Prop} (hs : SatAt c σ a w ρ O)
    {t : Nat} {x y : AV} {v : Value} (hv : VR ρ O w x v) (h : aload ts σ t x = some y) : ∃ u, (∀ w', Below w.heap.size w w' → (Instr.loadAt t v).run P w' = .ok u w') ∧ VR ρ O w y u := by
  unfold aload at h
  split at h
  · cases h
  · rename_i i hi
    split at h
    · rename_i id off
      split at h
      · rename_i e cells hb
        obtain ⟨g, vs, h1, h2, h3, h4⟩ := box_cells hs hb
        cases hv with
        | ptr _ _ g' h5 =>
          rw [h1] at h5
          injection h5 with h5
          subst h5
          have hcell : ∀ w', Below w.heap.size w w' → ∀ (k : Nat) (v : Value), (vs.toList.drop off)[k]? = some v → w'.cell? (Addr.add ⟨g, off, none⟩ k) = some v := by
            intro w' hbw k v hv
            have hlt : g < w.heap.size := (Array.getElem?_eq_some_iff.1 h2).1
            have : (Addr.add ⟨g, off, none⟩ k) = ⟨g, off + k, none⟩ := by unfold Addr.add; split <;> simp_all
            rw [this, hbw.cell (p := ⟨g, off + k, none⟩) hlt, cell_of_row w g _ vs e (0, 0) h2]
            simpa using hv
          cases hg : szAgg i with
          | true =>
            rw [hg] at h
            simp only [cond_true] at h
            obtain ⟨h6, h7⟩ := dropK_spec h
            obtain ⟨h8, h9⟩ := takeK_spec h7
            injection h9 with h9
            subst h9
            have hlen : vs.toList.length = cells.length := by simpa using h3
            have := fun w' hbw => loadVar_run hT hi (w := w') ⟨g, off, none⟩ ((vs.toList.drop off).take i.size) (by rw [hg]; simp at h8 ⊢; omega) (fun k v hv => hcell w' hbw k v (by
              rw [List.getElem?_take] at hv
              split at hv
              · exact hv
              · cases hv))
            rw [hg] at this
            refine ⟨_, fun w' hbw => by simpa [Instr.loadAt, Instr.sureAddr] using this w' hbw, .agg _ _ (by simp at h8 ⊢; omega) (fun k x v hx hv => ?_)⟩
            rw [List.getElem?_take] at hx
            split at hx
            · rename_i hk
              rw [List.getElem?_drop] at hx
              refine (h4 (off + k) x v hx ?_).1
              simp [hk, List.getElem?_drop] at hv
              simpa using hv
            · cases hx
          | false =>
            rw [hg] at h
            simp only [cond_false] at h
            obtain ⟨y', h6, h7⟩ := nthK_spec h
            injection h7 with h7
            subst h7
            have hlt : off < vs.size := by rw [h3]; exact (List.getElem?_eq_some_iff.1 h6).1
            have := fun w' hbw => loadVar_run hT hi (w := w') ⟨g, off, none⟩ [vs[off]] (by rw [hg]; rfl) (fun k v hv => hcell w' hbw k v (by
              cases k with
              | zero => simpa [hlt] using hv
              | succ k => simp at hv))
            rw [hg] at this
            exact ⟨_, fun w' hbw => by simpa [Instr.loadAt, Instr.sureAddr] using this w' hbw, (h4 off y' _ h6 (by simp [hlt])).1⟩
      · cases h
    · rename_i rest
      cases hv with
      | eptr _ p u hO hb hcell0 hsub =>
        have hcell : ∀ w', Below w.heap.size w w' → ∀ (k : Nat) d, rest[k]? = some d → w'.cell? (p.add k) = some (u k) := fun w' hbw k d hd => (hbw.cell (p := p.add k) (by rw [block_add]; exact hb)).trans (hcell0 k d hd)
        cases hg : szAgg i with
        | true =>
          rw [hg] at h
          simp only [cond_true] at h
          obtain ⟨h8, h9⟩ := takeD_spec h
          injection h9 with h9
          subst h9
          have := fun w' hbw => loadVar_run hT hi (w := w') p ((List.range i.size).map u) (by rw [hg]; simp) (fun k v hv => by
            simp only [List.getElem?_map] at hv
            by_cases hk : k < i.size
            · rw [List.getElem?_range hk] at hv
              simp at hv
              subst hv
              have hk' : k < rest.length := by omega
              exact hcell w' hbw k _ (List.getElem?_eq_getElem hk')
            · rw [List.getElem?_eq_none (by simp; omega)] at hv
              cases hv)
          rw [hg] at this
          refine ⟨_, fun w' hbw => by simpa [Instr.loadAt, Instr.sureAddr] using this w' hbw, .agg _ _ (by simp; omega) (fun k x v hx hv => ?_)⟩
          simp only [List.getElem?_map, List.getElem?_take] at hx
          split at hx
          · rename_i hk
            rw [Option.map_eq_some_iff] at hx
            obtain ⟨d, hd, rfl⟩ := hx
            simp [hk] at hv
            subst hv
            exact .d _ _ (hsub k d hd)
          · simp at hx
        | false =>
          rw [hg] at h
          simp only [cond_false] at h
          obtain ⟨y', h6, h7⟩ := nthK_spec h
          injection h7 with h7
          subst h7
          have := fun w' hbw => loadVar_run hT hi (w := w') p [u 0] (by rw [hg]; rfl) (fun k v hv => by
            cases k with
            | zero => simp at hv; subst hv; exact hcell w' hbw 0 _ h6
            | succ k => simp at hv)
          rw [hg] at this
          exact ⟨_, fun w' hbw => by simpa [Instr.loadAt, Instr.sureAddr] using this w' hbw, .d _ _ (hsub 0 _ h6)⟩
    · cases h

end Go.AM
