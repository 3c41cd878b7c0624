/- A machine over pure data: part 8: regions in the text's order; a function's contract over pure data, and its body. -/
import Derived.Test.YtpohebmofcdeiaaAM7
namespace Go.AM
open Go Go.RowKit

/-! ### a step -/
def astep (ts : List (Nat × TI)) (o : Oper) (σ : St) : Option St :=
  match o.op with
  | .box e x => match ev σ x with
    | some (.agg xs) => bif xs.all isCell then amk σ e xs o.dst else none
    | some y => bif isCell y then amk σ e [y] o.dst else none
    | none => none
  | .alloc e => match lk ts e with
    | some i => amk σ e i.zero o.dst
    | none => none
  | .store t x y => match lk ts t with
    | some i => match ev σ x with
      | some (.ptr id off) => match o.dst with
        | none => match hk σ id with
          | some (.box e cells) => match ev σ y with
            | some (.agg xs) => bif Nat.beq xs.length i.size && xs.all isCell then putK cells off xs fun cs => aset σ id (.box e cs) else none
            | some v => bif Nat.beq 1 i.size && isCell v then putK cells off [v] fun cs => aset σ id (.box e cs) else none
            | none => none
          | _ => none
        | some _ => none
      | _ => none
    | none => none
  | op => match aval ts σ op with
    | some v => put σ o.dst v
    | none => none

theorem amk_step {P : Program} {o : Oper} {σ σ' : St} {e : TypeId} {cs : List AV} (h : amk σ e cs o.dst = some σ')
    (hx : ∀ c a w ρ O, SatAt c σ a w ρ O → ∃ vs : Array Value, (execOp a.eval o).run P w = .ok (.value (.pointer (some ⟨w.heap.size, 0, none⟩))) (w.alloc (.cells vs e)) ∧ vs.size = cs.length ∧
      ∀ (k : Nat) x v, cs[k]? = some x → vs[k]? = some v → VR ρ O w x v ∧ v.oneCell' = true) : AStep P o σ σ' := by
  rintro c a w ⟨ρ, O, hs⟩ K Q hK
  obtain ⟨vs, h1, h2, h3⟩ := hx c a w ρ O hs
  obtain ⟨n, T, H, Hp, clk⟩ := σ
  have hk0 : Keeps O w (fun k => O k ∨ k = w.heap.size) (w.alloc (.cells vs e)) := ⟨by simp, fun k hk _ => Below.heap_alloc w _ k hk, fun k hk => by
    rcases hk with hk | hk
    · exact .inl hk
    · exact .inr (by omega)⟩
  have hfr : ρ (.loc clk) = none := hs.fresh clk (Nat.le_refl _)
  have hm := mk_sat hs (.box e cs) (.pointer (some ⟨w.heap.size, 0, none⟩)) (.inl rfl) hk0 (by simp) (fun k hk => Below.heap_alloc w _ k hk) rfl rfl rfl
    ⟨w.heap.size, vs, upd_self _ _ _, heap_alloc_new w _, h2, fun k x v hx hv => ⟨(h3 k x v hx hv).1.keep (upd_ext hfr) hk0, (h3 k x v hx hv).2⟩⟩
  unfold Oper.wp
  rw [h1]
  refine hK _ _ ⟨_, _, put_sat hm (.ptr (.loc clk) 0 w.heap.size ?_) h⟩
  simp [upd_self, vblk]

theorem astore_step {P : Program} {ts : List (Nat × TI)} (hT : TOK P ts) {t : TypeId} {x y : Operand} {ty : TypeId} {pos : String} {aft : Array Edge} {g : Option (Nat × Bool)} {σ σ' : St} {i : TI} {id : Id} {off : Nat} {e : TypeId} {cells : List AV} {v : AV}
    (hi : lk ts t = some i) (hx : ev σ x = some (.ptr id off)) (hb : hk σ id = some (.box e cells)) (hv : ev σ y = some v) (hl : (cellsV v).length = i.size) (hc : (cellsV v).all isCell = true)
    (hp : putK cells off (cellsV v) (fun cs => aset σ id (.box e cs)) = some σ') : AStep P ⟨none, .store t x y, ty, pos, aft, g⟩ σ σ' := by
  rintro c a w ⟨ρ, O, hs⟩ K Q hK
  obtain ⟨hv1, hv2⟩ := (ev_sound hs hv).cells hc
  obtain ⟨hle, zs, hz1, hz2, hz3⟩ := putK_spec hp
  have hxp := ev_sound hs hx
  generalize hq : a.eval x = q at hxp
  cases hxp with
  | ptr _ _ g hg =>
    obtain ⟨g', vs, h1, h2, h3, h4⟩ := hs.H.ok id _ hb
    have hgg : g' = g := by rw [h1] at hg; simpa [vblk] using hg
    subst hgg
    obtain ⟨cur', e1, e2, e3⟩ := run_storeSeg (P := P) g' off e (a.eval y).cells.toList 0 vs w h2 (by simp [hv1]; rw [h3]; exact hle) (fun u hu => by
      obtain ⟨k, hk⟩ := List.getElem?_of_mem hu
      have hk' : k < (cellsV v).length := by
        have := (List.getElem?_eq_some_iff.1 hk).1
        rw [← hv1]
        simpa using this
      exact (hv2 k _ u (List.getElem?_eq_getElem hk') (by simpa using hk)).2)
    have hk0 : Keeps O w O (w.setRow g' cur') := ⟨by simp, fun k _ hO => setRow_other w g' k cur' (fun e => hO (e ▸ (hs.H.own id _ g' hb (by rw [h1]; rfl)).1)), fun k hk => .inl hk⟩
    have hrun : (Instr.storeAt t (.pointer (some ⟨g', off, none⟩)) (a.eval y)).run P w = .ok () (w.setRow g' cur') := by
      have hsz : (a.eval y).cells.size = i.size := by rw [hv1, hl]
      simp [Instr.storeAt, Instr.sureAddr, storeVar, (hT.facts hi).sizeOf, hsz, e1]
    have hsat := chg_sat hs hb hz2 (g := g') (w' := w.setRow g' cur') (by rw [h1]; rfl) (fun k hk => setRow_other w g' k cur' hk) (by simp) rfl rfl rfl
      ⟨g', cur', h1, setRow_heap w g' vs cur' e (0, 0) h2, by rw [e2, h3, hz1], fun k x u hxk hu => by
        rw [hz3] at hxk
        rw [e3] at hu
        simp only [Nat.add_zero, Array.length_toList, hv1] at hu
        split at hxk
        · rename_i hj
          rw [if_pos hj] at hu
          obtain ⟨b1, b2⟩ := hv2 _ x u hxk (by simpa using hu)
          exact ⟨b1.keep (Ext.refl ρ) hk0, b2⟩
        · rename_i hj
          rw [if_neg hj] at hu
          obtain ⟨b1, b2⟩ := h4 k x u hxk hu
          exact ⟨b1.keep (Ext.refl ρ) hk0, b2⟩⟩
    unfold Oper.wp
    simp only [execOp, hq, Sem.run_bind, hrun, Result.andThen_ok, Sem.run_pure]
    exact hK _ _ ⟨ρ, O, hsat⟩

theorem astep_sound {P : Program} {ts : List (Nat × TI)} (hT : TOK P ts) {o : Oper} {σ σ' : St} (h : astep ts o σ = some σ') : AStep P o σ σ' := by
  obtain ⟨dst, op, ty, pos, aft, g⟩ := o
  unfold astep at h
  simp only at h
  split at h
  · rename_i e x
    -- box
    have go : ∀ v, ev σ x = some v → (cellsV v).all isCell = true → amk σ e (cellsV v) dst = some σ' → AStep P ⟨dst, .box e x, ty, pos, aft, g⟩ σ σ' := by
      intro v hv hc hm
      refine amk_step hm (fun c a w ρ O hs => ?_)
      obtain ⟨h1, h2⟩ := (ev_sound hs hv).cells hc
      exact ⟨_, by simp [execOp, Instr.box, newVar, newRow], h1, h2⟩
    split at h
    · rename_i xs hx
      cases hb : xs.all isCell with
      | false => rw [hb] at h; cases h
      | true => rw [hb] at h; exact go _ hx hb h
    · rename_i y hne hy
      cases hb : isCell y with
      | false => rw [hb] at h; cases h
      | true =>
        rw [hb] at h
        have hcy : cellsV y = [y] := by cases y <;> first | rfl | cases hb
        exact go _ hy (by rw [hcy]; simp [hb]) (by rw [hcy]; exact h)
    · cases h
  · rename_i e
    split at h
    · rename_i i hi
      refine amk_step h (fun c a w ρ O hs => ?_)
      obtain ⟨z, hz1, hz2⟩ := (hT.facts hi).zero w
      obtain ⟨h1, h2⟩ := zall_sound hz2
      exact ⟨z.cells, by simp [execOp, Instr.alloc, newVar, newRow, hz1], by simpa using h1, fun k x v hx hv => h2 ρ O w k x v hx (by simpa using hv)⟩
    · cases h
  · rename_i t x y
    split at h
    · rename_i i hi
      split at h
      · rename_i id off hx
        split at h
        · split at h
          · rename_i e cells hb
            split at h
            · rename_i xs hy
              cases hbb : (Nat.beq xs.length i.size && xs.all isCell) with
              | false => rw [hbb] at h; cases h
              | true =>
                rw [hbb] at h
                simp only [Bool.and_eq_true, Nat.beq_eq] at hbb
                exact astore_step hT hi hx hb hy hbb.1 hbb.2 h
            · rename_i v hne hy
              cases hbb : (Nat.beq 1 i.size && isCell v) with
              | false => rw [hbb] at h; cases h
              | true =>
                rw [hbb] at h
                simp only [Bool.and_eq_true, Nat.beq_eq] at hbb
                have hcy : cellsV v = [v] := by
                  have := hbb.2
                  cases v <;> first | rfl | cases this
                exact astore_step hT hi hx hb hy (by rw [hcy]; exact hbb.1) (by rw [hcy]; simp [hbb.2]) (by rw [hcy]; exact h)
            · cases h
          · cases h
        · cases h
      · cases h
    · cases h
  · rename_i hn1 hn2 hn3
    split at h
    · rename_i v hv
      exact AStep.value h (fun c a w ρ O hs => (aval_sound hT hs _ hv).imp fun u h => ⟨h.1 w (Below.refl _ _), h.2⟩)
    · cases h

/-- An operation that leaves the world alone, and answers the same in every later one. -/
def VOp0 (P : Program) (σ : St) (o : Oper) (v : AV) : Prop :=
  ∀ c a w ρ O, SatAt c σ a w ρ O → ∃ u, (∀ w', Below w.heap.size w w' → (execOp a.eval o).run P w' = .ok (.value u) w') ∧ VR ρ O w v u
structure VOp (P : Program) (σ : St) (o : Oper) (v : AV) : Prop where
  h : VOp0 P σ o v
theorem VOp.step {P : Program} {o : Oper} {σ σ' : St} {v : AV} (hv : VOp P σ o v) (h : put σ o.dst v = some σ') : AStep P o σ σ' :=
  AStep.value h (fun c a w ρ O hs => (hv.h c a w ρ O hs).imp fun _ h => ⟨h.1 w (Below.refl _ _), h.2⟩)
theorem VOp.of {P : Program} {ts : List (Nat × TI)} (hT : TOK P ts) {σ : St} {o : Oper} {v : AV} (h : aval ts σ o.op = some v) : VOp P σ o v := VOp.mk fun _ _ _ _ _ hs => aval_sound hT hs o h

/-! ### a region, in the text's order -/
def AL (P : Program) (l : List Oper) (Q : Exit → St → Prop) (rest : List Oper) (σ : St) : Prop := ∀ c a w, Sat c σ a w → wpList P l.toArray (post c Q) rest a w

def wantedA (l : List Oper) (o : Oper) (σ : St) : Option Bool :=
  match o.guard with
  | none => some true
  | some (j, want) => nthK l j fun oj => match oj.dst with
    | none => none
    | some d => match lk σ.T d with
      | some (.d (.one (.bool true))) => some want
      | some (.d (.one (.bool false))) => some (!want)
      | some (.tup _) => some false
      | _ => none

theorem wantedA_sound {l : List Oper} {o : Oper} {σ : St} {b : Bool} (h : wantedA l o σ = some b) {c : Ctx} {a : Act} {w : World} (hs : Sat c σ a w) : Region.wanted o (yielded l.toArray a.tmps) = b := by
  obtain ⟨ρ, O, hs⟩ := hs
  obtain ⟨dst, op, ty, pos, aft, g⟩ := o
  cases g with
  | none =>
    simp only [wantedA] at h
    cases h
    rfl
  | some jw =>
    obtain ⟨j, want⟩ := jw
    simp only [wantedA] at h
    simp only [Region.wanted]
    obtain ⟨oj, h1, h2⟩ := nthK_spec h
    split at h2
    · cases h2
    · rename_i d hd
      have hy : ∀ v, a.tmps[d]? = some v → yielded l.toArray a.tmps j = match v with | .bool b => some b | _ => none := by
        intro v hv
        simp only [yielded, List.getElem?_toArray, h1, Option.bind_some, hd, hv]
        cases v <;> rfl
      split at h2
      · rename_i hT
        cases h2
        obtain ⟨v, e1, e2⟩ := hs.T d _ hT
        have := one_of e2
        subst this
        rw [hy _ e1]
        cases b <;> rfl
      · rename_i hT
        cases h2
        obtain ⟨v, e1, e2⟩ := hs.T d _ hT
        have := one_of e2
        subst this
        rw [hy _ e1]
        cases want <;> rfl
      · rename_i xs hT
        cases h2
        obtain ⟨v, e1, e2⟩ := hs.T d _ hT
        cases e2
        rw [hy _ e1]
        rfl
      · cases h2

section
variable {P : Program} {l rest : List Oper} {Q : Exit → St → Prop} {σ : St} {o : Oper}

theorem AW.region {id : Nat} (h : AL P l Q l σ) : AW P (.region id l.toArray false) Q σ := fun c a w hs => wp_region_lit (h c a w hs)
theorem AL.nil (h : Q .normal σ) : AL P l Q [] σ := fun _ _ _ hs => ⟨σ, h, hs⟩
theorem AL.step {σ' : St} (hw : wantedA l o σ = some true) (hs : AStep P o σ σ') (h : AL P l Q rest σ') : AL P l Q (o :: rest) σ := by
  intro c a w hsat
  refine wpList_step fun K hK => ?_
  rw [if_pos (wantedA_sound hw hsat)]
  exact hs c a w hsat K _ (fun a' w' hs' => hK _ _ (h c a' w' hs'))
/-- A step that needs no proof of its own. -/
theorem AL.do {ts : List (Nat × TI)} (hT : TOK P ts) {σ' : St} (hw : wantedA l o σ = some true) (hs : astep ts o σ = some σ') (h : AL P l Q rest σ') : AL P l Q (o :: rest) σ :=
  AL.step hw (astep_sound hT hs) h
/-- A step whose guard says no. -/
theorem AL.no {σ' : St} (hw : wantedA l o σ = some false) (hp : put σ o.dst (.tup []) = some σ') (h : AL P l Q rest σ') : AL P l Q (o :: rest) σ := by
  intro c a w hsat
  refine wpList_step fun K hK => ?_
  rw [if_neg (by rw [wantedA_sound hw hsat]; simp)]
  obtain ⟨ρ, O, hs⟩ := hsat
  refine hK _ _ (h c _ w ⟨ρ, O, put_sat hs (v := undef) ?_ hp⟩)
  exact .tup [] #[] rfl (fun k x v h => by simp at h)

def know : St → Nat → Bool → St
  | ⟨n, T, H, Hp, clk⟩, t, b => ⟨n, (t, .d (.one (.bool b))) :: T, H, Hp, clk⟩
theorem know_imp {t : Nat} {b : Bool} (hb : lk σ.T t = some (.d (.one (.bool b)))) : Imp σ (know σ t b) := by
  obtain ⟨n, T, H, Hp, clk⟩ := σ
  rintro c a w ⟨ρ, O, hs⟩
  refine ⟨ρ, O, hs.defers, hs.n, hs.par, hs.fresh, fun u x hu => ?_, hs.H, hs.F⟩
  simp only [know, lk] at hu
  cases hb' : Nat.beq t u with
  | true =>
    rw [hb'] at hu
    have := Nat.eq_of_beq_eq_true hb'
    subst this
    simp at hu
    subst hu
    exact hs.T t _ hb
  | false =>
    rw [hb'] at hu
    exact hs.T u x hu
theorem AL.imp {σ' : St} (hi : Imp σ σ') (h : AL P l Q rest σ') : AL P l Q rest σ := fun c a w hs => h c a w (hi c a w hs)
/-- A slot's Bool, both ways. -/
theorem AL.split {t : Nat} {b : Bool} (hb : lk σ.T t = some (.d (.one (.bool b)))) (ht : b = true → AL P l Q rest (know σ t true)) (hf : b = false → AL P l Q rest (know σ t false)) : AL P l Q rest σ := by
  cases b with
  | true => exact AL.imp (know_imp hb) (ht rfl)
  | false => exact AL.imp (know_imp hb) (hf rfl)
/-- A slot's Bool, known. -/
theorem AL.know {t : Nat} {b b' : Bool} (hb : lk σ.T t = some (.d (.one (.bool b)))) (he : b = b') (h : AL P l Q rest (know σ t b')) : AL P l Q rest σ := by
  subst he
  exact AL.imp (know_imp hb) h
def gdst (l : List Oper) (o : Oper) : Option Nat :=
  match o.guard with
  | none => none
  | some (j, _) => nthK l j fun oj => oj.dst
/-- A guard that isn't known: both ways. -/
theorem AL.guard {t : Nat} {b : Bool} (_hg : gdst l o = some t) (hb : lk σ.T t = some (.d (.one (.bool b)))) (ht : b = true → AL P l Q (o :: rest) (Go.AM.know σ t true))
    (hf : b = false → AL P l Q (o :: rest) (Go.AM.know σ t false)) : AL P l Q (o :: rest) σ := AL.split hb ht hf
end

end Go.AM
