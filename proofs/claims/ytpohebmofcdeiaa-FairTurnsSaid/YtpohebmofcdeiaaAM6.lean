/- A machine over pure data: part 6: a struct's literal; one step of any kind that needs no proof of its own. -/
import Derived.Test.YtpohebmofcdeiaaAM5
namespace Go.AM
open Go

/-! ### a struct's literal -/
def afill {β : Type} (ts : List (Nat × TI)) (offs tys : List Nat) : List AV → List (Nat × AV) → (List AV → Option β) → Option β
  | cells, [], k => k cells
  | cells, (f, v) :: r, k => nthK offs f fun o => nthK tys f fun ty => match lk ts ty with
    | none => none
    | some i => match v with
      | .agg xs => bif Nat.beq xs.length i.size && xs.all isCell then putK cells o xs (fun cs => afill ts offs tys cs r k) else none
      | x => bif Nat.beq 1 i.size && isCell x then putK cells o [x] (fun cs => afill ts offs tys cs r k) else none

def aparts {β : Type} (σ : St) : List (Nat × Operand) → (List (Nat × AV) → Option β) → Option β
  | [], k => k []
  | (f, x) :: r, k => match ev σ x with
    | some v => aparts σ r (fun l => k ((f, v) :: l))
    | none => none

def abuild (ts : List (Nat × TI)) (σ : St) (t : Nat) (parts : List (Nat × Operand)) : Option AV :=
  match lk ts t with
  | some ⟨.strct offs tys, _, _, zero⟩ => bif tys.all (fun ty => (lk ts ty).isSome) then aparts σ parts fun l => afill ts offs tys zero l fun cs => some (.agg cs) else none
  | _ => none

def cellsV : AV → List AV
  | .agg xs => xs
  | x => [x]

theorem VR.cells {ρ : Env} {O : Nat → Prop} {w : World} {x : AV} {v : Value} (h : VR ρ O w x v) (hc : (cellsV x).all isCell = true) :
    v.cells.size = (cellsV x).length ∧ ∀ (k : Nat) y u, (cellsV x)[k]? = some y → v.cells[k]? = some u → VR ρ O w y u ∧ u.oneCell' = true := by
  cases x with
  | agg xs =>
    cases h with
    | agg _ vs hl h =>
      refine ⟨hl.symm, fun k y u h1 h2 => ?_⟩
      have h3 := h k y u h1 h2
      exact ⟨h3, h3.oneCell (List.all_eq_true.1 hc y (List.mem_of_getElem? h1))⟩
  | _ =>
    have h1 := h.oneCell (by simpa [cellsV] using hc)
    have h2 : v.cells = #[v] := by cases v <;> first | rfl | cases h1
    rw [h2]
    refine ⟨rfl, fun k y u h3 h4 => ?_⟩
    cases k with
    | zero =>
      simp [cellsV] at h3 h4
      subst h3; subst h4
      exact ⟨h, h1⟩
    | succ k => simp [cellsV] at h3

theorem fill_fold (v : Array Value) (off : Nat) (cells : Array Value) (h : off + v.size ≤ cells.size) :
    (v.zipIdx.foldl (fun cs x => cs.setIfInBounds (off + x.2) x.1) cells).size = cells.size ∧
      ∀ m : Nat, (v.zipIdx.foldl (fun cs x => cs.setIfInBounds (off + x.2) x.1) cells)[m]? = if off ≤ m ∧ m < off + v.size then v[m - off]? else cells[m]? := by
  have key : ∀ (l : List Value) (s : Nat) (cells : Array Value), off + s + l.length ≤ cells.size →
      ((l.zipIdx s).foldl (fun cs x => cs.setIfInBounds (off + x.2) x.1) cells).size = cells.size ∧
        ∀ m : Nat, ((l.zipIdx s).foldl (fun cs x => cs.setIfInBounds (off + x.2) x.1) cells)[m]? = if off + s ≤ m ∧ m < off + s + l.length then l[m - (off + s)]? else cells[m]? := by
    intro l
    induction l with
    | nil => intro s cells _; refine ⟨rfl, fun m => ?_⟩; rw [if_neg (by simp)]; simp
    | cons x l ih =>
      intro s cells hl
      simp only [List.length_cons] at hl
      simp only [List.zipIdx_cons, List.foldl_cons]
      obtain ⟨h1, h2⟩ := ih (s + 1) (cells.setIfInBounds (off + s) x) (by simp; omega)
      refine ⟨by rw [h1]; simp, fun m => ?_⟩
      rw [h2 m]
      simp only [List.length_cons]
      by_cases hm : m = off + s
      · subst hm
        rw [if_neg (by omega), if_pos (by omega)]
        have : off + s < cells.size := by omega
        simp [this]
      · by_cases hm2 : off + (s + 1) ≤ m ∧ m < off + (s + 1) + l.length
        · rw [if_pos hm2, if_pos (by omega)]
          have : m - (off + s) = (m - (off + (s + 1))) + 1 := by omega
          rw [this, List.getElem?_cons_succ]
        · rw [if_neg hm2, if_neg (by omega)]
          rw [Array.getElem?_setIfInBounds, if_neg (Ne.symm hm)]
  have := key v.toList 0 cells (by simpa using h)
  rw [← Array.foldl_toList]
  have hz : v.zipIdx.toList = v.toList.zipIdx 0 := by simp
  rw [hz]
  simpa using this

/-- What is filled in, cell by cell. -/
theorem afill_sound {P : Program} {ts : List (Nat × TI)} (hT : TOK P ts) {ρ : Env} {O : Nat → Prop} {w : World} {fs : Array Field} {offs tys : List Nat} (ho : offs = fs.toList.map (·.offset)) (ht : tys = fs.toList.map (·.type))
    {places : Array (Nat × Nat)} (hp : ∀ (k : Nat) fl, fs[k]? = some fl → ∀ i, lk ts fl.type = some i → places[k]? = some (fl.offset, i.size)) {r : AV} :
    ∀ {l : List (Nat × AV)} {ps : List (Nat × Value)} {cells : List AV} {vs : Array Value} {k : List AV → Option AV}, afill ts offs tys cells l k = some r →
      ps.length = l.length → (∀ (j : Nat) x p, l[j]? = some x → ps[j]? = some p → p.1 = x.1 ∧ VR ρ O w x.2 p.2) →
      vs.size = cells.length → (∀ (j : Nat) x v, cells[j]? = some x → vs[j]? = some v → VR ρ O w x v ∧ v.oneCell' = true) →
      ∃ cs us, k cs = some r ∧ Instr.fill (places[·]?) vs ps = some us ∧ us.size = cs.length ∧ ∀ (j : Nat) x v, cs[j]? = some x → us[j]? = some v → VR ρ O w x v ∧ v.oneCell' = true
  | [], ps, cells, vs, k, h, hl, _, hs, hc => by
    simp only [afill] at h
    obtain rfl : ps = [] := List.eq_nil_of_length_eq_zero (by simpa using hl)
    exact ⟨cells, vs, h, rfl, hs, hc⟩
  | (f, x) :: l, [], cells, vs, k, h, hl, _, _, _ => by simp at hl
  | (f, x) :: l, (f', v) :: ps, cells, vs, k, h, hl, hps, hs, hc => by
    simp only [afill] at h
    obtain ⟨o, h1, h2⟩ := nthK_spec h
    obtain ⟨ty, h3, h4⟩ := nthK_spec h2
    have hfl : ∃ fl, fs[f]? = some fl ∧ fl.offset = o ∧ fl.type = ty := by
      rw [ho, List.getElem?_map] at h1
      rw [ht, List.getElem?_map] at h3
      cases hf : fs.toList[f]? with
      | none => rw [hf] at h1; cases h1
      | some fl =>
        rw [hf] at h1 h3
        simp at h1 h3
        exact ⟨fl, by simpa using hf, h1, h3⟩
    obtain ⟨fl, h5, h6, h7⟩ := hfl
    obtain ⟨h8, h9⟩ := hps 0 (f, x) (f', v) rfl rfl
    simp only at h8 h9
    subst h8
    split at h4
    · cases h4
    · rename_i i hi
      have hpl := hp f' fl h5 i (by rw [h7]; exact hi)
      -- one part
      have part : ∀ (xs : List AV), cellsV x = xs → xs.length = i.size → xs.all isCell = true → putK cells o xs (fun cs => afill ts offs tys cs l k) = some r →
          ∃ cs us, k cs = some r ∧ Instr.fill (places[·]?) vs ((f', v) :: ps) = some us ∧ us.size = cs.length ∧ ∀ (j : Nat) x v, cs[j]? = some x → us[j]? = some v → VR ρ O w x v ∧ v.oneCell' = true := by
        intro xs hx hxl hxa hput
        subst hx
        obtain ⟨hv1, hv2⟩ := h9.cells hxa
        obtain ⟨hb, zs, hz1, hz2, hz3⟩ := putK_spec hput
        have hle : o + v.cells.size ≤ vs.size := by rw [hv1, hs]; exact hb
        obtain ⟨hf1, hf2⟩ := fill_fold v.cells o vs hle
        have := afill_sound hT ho ht hp (l := l) (ps := ps) (cells := zs) (vs := v.cells.zipIdx.foldl (fun cs x => cs.setIfInBounds (o + x.2) x.1) vs) hz2 (by simpa using hl)
          (fun j x p h1 h2 => hps (j + 1) x p h1 h2) (by rw [hf1, hs, hz1]) (fun j y u hy hu => by
            rw [hz3] at hy
            rw [hf2, hv1] at hu
            split at hy
            · rename_i hj
              rw [if_pos hj] at hu
              exact hv2 _ y u hy hu
            · rename_i hj
              rw [if_neg hj] at hu
              exact hc j y u hy hu)
        obtain ⟨cs, us, e1, e2, e3, e4⟩ := this
        refine ⟨cs, us, e1, ?_, e3, e4⟩
        simp only [Instr.fill, hpl, h6]
        rw [if_neg (by rw [hv1, hxl]; simp; rw [← hxl, ← hv1]; exact hle)]
        exact e2
      split at h4
      · rename_i xs
        cases hb : (Nat.beq xs.length i.size && xs.all isCell) with
        | false => rw [hb] at h4; cases h4
        | true =>
          rw [hb] at h4
          simp only [Bool.and_eq_true, Nat.beq_eq] at hb
          exact part xs rfl hb.1 hb.2 h4
      · rename_i hna
        cases hb : (Nat.beq 1 i.size && isCell x) with
        | false => rw [hb] at h4; cases h4
        | true =>
          rw [hb] at h4
          simp only [Bool.and_eq_true, Nat.beq_eq] at hb
          exact part [x] (by cases x <;> first | rfl | exact absurd rfl (hna _)) hb.1 (by simp [hb.2]) h4

theorem aparts_sound {c : Ctx} {σ : St} {a : Act} {w : World} {ρ : Env} {O : Nat → Prop} (hs : SatAt c σ a w ρ O) {β : Type} {r : β} :
    ∀ {parts : List (Nat × Operand)} {k : List (Nat × AV) → Option β}, aparts σ parts k = some r →
      ∃ l, k l = some r ∧ (parts.map fun p => (p.1, a.eval p.2)).length = l.length ∧ ∀ (j : Nat) x p, l[j]? = some x → (parts.map fun p => (p.1, a.eval p.2))[j]? = some p → p.1 = x.1 ∧ VR ρ O w x.2 p.2
  | [], k, h => ⟨[], by simpa [aparts] using h, rfl, fun j x p h => by simp at h⟩
  | (f, x) :: parts, k, h => by
    simp only [aparts] at h
    split at h
    · rename_i v hv
      obtain ⟨l, h1, h2, h3⟩ := aparts_sound hs h
      refine ⟨(f, v) :: l, h1, by simpa using h2, fun j x' p hx hp => ?_⟩
      cases j with
      | zero =>
        simp at hx hp
        subst hx; subst hp
        exact ⟨rfl, ev_sound hs hv⟩
      | succ j => exact h3 j x' p (by simpa using hx) (by simpa using hp)
    · cases h

theorem run_mapM_list {P : Program} {α β : Type} (f : α → Sem β) (g : α → β) (w : World) : ∀ (l : List α), (∀ x ∈ l, (f x).run P w = .ok (g x) w) → (l.mapM f).run P w = .ok (l.map g) w
  | [], _ => rfl
  | x :: l, h => by
    rw [List.mapM_cons]
    simp [h x List.mem_cons_self, run_mapM_list f g w l (fun y hy => h y (List.mem_cons_of_mem _ hy))]

theorem abuild_sound {P : Program} {ts : List (Nat × TI)} (hT : TOK P ts) {c : Ctx} {σ : St} {a : Act} {w : World} {ρ : Env} {O : Nat → Prop} (hs : SatAt c σ a w ρ O) {t : Nat} {parts : Array (Nat × Operand)} {y : AV}
    (h : abuild ts σ t parts.toList = some y) : ∃ u, (∀ w', (Instr.build t (parts.map fun (i, x) => (i, a.eval x))).run P w' = .ok u w') ∧ VR ρ O w y u := by
  unfold abuild at h
  split at h
  · rename_i offs tys s b zero hi
    cases hall : tys.all (fun ty => (lk ts ty).isSome) with
    | false => rw [hall] at h; cases h
    | true =>
      rw [hall] at h
      simp only [cond_true] at h
      have hf := hT.facts hi
      obtain ⟨z, hz1, hz2⟩ := hf.zeroU
      obtain ⟨d, h1, h2⟩ := hf.und
      cases d with
      | struct fs =>
        simp only [tkOf, TK.strct.injEq] at h2
        obtain ⟨l, h3, h4, h5⟩ := aparts_sound hs h
        obtain ⟨hzl, hzv⟩ := zall_sound hz2
        have hsz : ∀ fl ∈ fs.toList, ∃ i, lk ts fl.type = some i := by
          intro fl hfl
          have : fl.type ∈ tys := by rw [← h2.2]; exact List.mem_map_of_mem hfl
          have := List.all_eq_true.1 hall _ this
          exact Option.isSome_iff_exists.1 this
        have hrun : ∀ w, (fs.mapM fun f => (do pure (f.offset, ← sizeOf f.type) : Sem (Nat × Nat))).run P w = .ok (fs.map fun f => (f.offset, ((lk ts f.type).map (·.size)).getD 0)) w := by
          intro w
          obtain ⟨fl⟩ := fs
          rw [List.mapM_toArray]
          rw [Sem.run_map, run_mapM_list _ (fun f => (f.offset, ((lk ts f.type).map (·.size)).getD 0)) w fl (fun f hf => by
            obtain ⟨i, hi⟩ := hsz f (by simpa using hf)
            simp [(hT.facts hi).sizeOf, hi])]
          simp
        obtain ⟨cs, us, e1, e2, e3, e4⟩ := afill_sound hT (ρ := ρ) (O := O) (w := w) h2.1.symm h2.2.symm (places := fs.map fun f => (f.offset, ((lk ts f.type).map (·.size)).getD 0))
          (fun k fl hfl i hi => by simp [hfl, hi]) (vs := z.cells) h3 h4 h5 (by simpa using hzl) (fun j x v hx hv => hzv ρ O w j x v hx (by simpa using hv))
        cases e1
        refine ⟨.agg us, ?_, .agg _ _ e3.symm (fun k x v hx hv => (e4 k x v hx hv).1)⟩
        have hp : (parts.map fun x => (x.1, a.eval x.2)).toList = parts.toList.map fun p => (p.1, a.eval p.2) := by simp
        intro w'
        simp only [Instr.build, Sem.run_bind, hz1, Result.andThen_ok, run_underlying h1, hrun, hp, e2, Sem.run_pure]
      | _ => simp [tkOf] at h2
  · cases h

end Go.AM
