/- A machine over pure data: part 7: one step of any kind that needs no proof of its own. -/
import Derived.Test.YtpohebmofcdeiaaAM6
namespace Go.AM
open Go Go.RowKit

def aevs {β : Type} (σ : St) : List Operand → (List AV → Option β) → Option β
  | [], k => k []
  | x :: r, k => match ev σ x with
    | some v => aevs σ r (fun l => k (v :: l))
    | none => none

theorem aevs_spec {σ : St} {β : Type} {r : β} : ∀ {l : List Operand} {k : List AV → Option β}, aevs σ l k = some r → ∃ xs, k xs = some r ∧ xs.length = l.length ∧ ∀ (j : Nat) x o, xs[j]? = some x → l[j]? = some o → ev σ o = some x
  | [], k, h => ⟨[], by simpa [aevs] using h, rfl, fun j x o h => by simp at h⟩
  | y :: l, k, h => by
    simp only [aevs] at h
    split at h
    · rename_i v hv
      obtain ⟨xs, h1, h2, h3⟩ := aevs_spec h
      refine ⟨v :: xs, h1, by simp [h2], fun j x o hx ho => ?_⟩
      cases j with
      | zero => simp at hx ho; subst hx; subst ho; exact hv
      | succ j => exact h3 j x o (by simpa using hx) (by simpa using ho)
    · cases h

/-- What an operation that leaves the world alone comes to. -/
def aval (ts : List (Nat × TI)) (σ : St) : Op → Option AV
  | .move x => ev σ x
  | .assign x => ev σ x
  | .pick c a b => match ev σ c with
    | some (.d (.one (.bool true))) => ev σ a
    | some (.d (.one (.bool false))) => ev σ b
    | _ => none
  | .build t parts => abuild ts σ t parts.toList
  | .load t x => match ev σ x with
    | some v => aload ts σ t v
    | none => none
  | .fieldAddr t x f => match ev σ x with
    | some v => afieldAddr ts t f v
    | none => none
  | .field t x f => match ev σ x with
    | some v => afieldV ts t f v
    | none => none
  | .binOp op _ x y _ => match ev σ x with
    | some (.d (.one u)) => match ev σ y with
      | some (.d (.one v)) => match acmp op u v with
        | some z => some (.d (.one (.bool z)))
        | none => none
      | _ => none
    | _ => none
  | .unOp .not _ x => match ev σ x with
    | some (.d (.one u)) => match aun .not u with
      | some z => some (.d (.one z))
      | none => none
    | _ => none
  | .makeFunc (.func f) ⟨[]⟩ captured => aevs σ captured.toList fun l => some (.fn f l)
  | .extract x k => match ev σ x with
    | some (.tup xs) => nthK xs k fun y => some y
    | _ => none
  | .nilCheck x => match ev σ x with
    | some (.ptr i off) => some (.ptr i off)
    | some (.eptr r) => some (.eptr r)
    | some (.rptr i sz j f) => some (.rptr i sz j f)
    | _ => none
  | .call ⟨.builtin .len, ⟨[x]⟩, ⟨[t]⟩⟩ => match ev σ x with
    | some v => match lk ts t with
      | some i => bif lenKind i.k v then match alen σ v with
        | some n => some (.d (.one (.int .i64 (n : Int))))
        | none => none else none
      | none => none
    | none => none
  | _ => none

theorem one_of {O : Nat → Prop} {w : World} {u v : Value} {ρ : Env} (h : VR ρ O w (.d (.one u)) v) : v = u := by
  cases h with
  | d _ _ h => cases h; rfl

theorem aval_sound {P : Program} {ts : List (Nat × TI)} (hT : TOK P ts) {c : Ctx} {σ : St} {a : Act} {w : World} {ρ : Env} {O : Nat → Prop} (hs : SatAt c σ a w ρ O) (o : Oper) {y : AV}
    (h : aval ts σ o.op = some y) : ∃ u, (∀ w', Below w.heap.size w w' → (execOp a.eval o).run P w' = .ok (.value u) w') ∧ VR ρ O w y u := by
  obtain ⟨dst, op, ty, pos, aft, g⟩ := o
  simp only at h
  unfold aval at h
  split at h
  · exact ⟨_, fun _ _ => rfl, ev_sound hs h⟩
  · exact ⟨_, fun _ _ => rfl, ev_sound hs h⟩
  · rename_i c' x y'
    split at h
    · rename_i hc
      have := one_of (ev_sound hs hc)
      exact ⟨a.eval x, fun _ _ => by simp [execOp, this, asBool], ev_sound hs h⟩
    · rename_i hc
      have := one_of (ev_sound hs hc)
      exact ⟨a.eval y', fun _ _ => by simp [execOp, this, asBool], ev_sound hs h⟩
    · cases h
  · obtain ⟨u, h1, h2⟩ := abuild_sound hT hs h
    exact ⟨u, fun w' _ => by simp [execOp, h1], h2⟩
  · split at h
    · rename_i v hv
      obtain ⟨u, h1, h2⟩ := aload_sound hT hs (ev_sound hs hv) h
      exact ⟨u, fun w' hb => by simp [execOp, h1 w' hb], h2⟩
    · cases h
  · split at h
    · rename_i v hv
      obtain ⟨u, h1, h2⟩ := afieldAddr_sound hT (ev_sound hs hv) h
      exact ⟨u, fun w' _ => by simp [execOp, h1], h2⟩
    · cases h
  · split at h
    · rename_i v hv
      obtain ⟨u, h1, h2⟩ := afieldV_sound hT (ev_sound hs hv) h
      exact ⟨u, fun w' _ => by simp [execOp, h1], h2⟩
    · cases h
  · rename_i op' t x y' yt
    split at h
    · rename_i u hu
      split at h
      · rename_i v hv
        split at h
        · rename_i z hz
          cases h
          have e1 := one_of (ev_sound hs hu)
          have e2 := one_of (ev_sound hs hv)
          refine ⟨.bool z, fun w' _ => ?_, .d _ _ (.one _ rfl)⟩
          simp only [execOp, e1, e2]
          rw [Sem.run_bind, acmp_sound (P := P) (t := t) x y' hz w']
          rfl
        · cases h
      · cases h
    · cases h
  · rename_i t x
    split at h
    · rename_i u hu
      split at h
      · rename_i z hz
        cases h
        have h2 := (aun_sound (P := P) hz w).2
        have e1 := one_of (ev_sound hs hu)
        exact ⟨z, fun w' _ => by simp [execOp, e1, (aun_sound (P := P) hz w').1], .d _ _ (.one z h2)⟩
      · cases h
    · cases h
  · rename_i f captured
    obtain ⟨xs, h1, h2, h3⟩ := aevs_spec h
    cases h1
    refine ⟨.func (.func f) #[] (captured.map a.eval), fun _ _ => by simp [execOp, Instr.makeFunc], .fn f xs _ (by simpa using h2) (fun k x v hx hv => ?_)⟩
    have hk : k < captured.size := by
      have := (List.getElem?_eq_some_iff.1 hx).1
      rw [h2] at this
      simpa using this
    simp [hk] at hv
    subst hv
    exact ev_sound hs (h3 k x _ hx (by simp [hk]))
  · rename_i x k
    split at h
    · rename_i xs hx
      obtain ⟨y', h1, h2⟩ := nthK_spec h
      cases h2
      have hv := ev_sound hs hx
      generalize hq : a.eval x = q at hv
      cases hv with
      | tup _ vs hl hc =>
        have hk : k < vs.size := by rw [← hl]; exact (List.getElem?_eq_some_iff.1 h1).1
        exact ⟨vs[k], fun _ _ => by simp [execOp, hq, Instr.extract, hk], hc k y _ h1 (by simp [hk])⟩
    · cases h
  · rename_i x
    split at h
    · rename_i i off hx
      cases h
      have hv := ev_sound hs hx
      generalize hq : a.eval x = q at hv
      cases hv with
      | ptr _ _ g' hg => exact ⟨_, fun _ _ => by simp [execOp, hq], .ptr _ _ g' hg⟩
    · rename_i r hx
      cases h
      have hv := ev_sound hs hx
      generalize hq : a.eval x = q at hv
      have hv' := hv
      cases hv with
      | eptr => exact ⟨_, fun _ _ => by simp [execOp, hq], hv'⟩
    · rename_i i sz j f hx
      cases h
      have hv := ev_sound hs hx
      generalize hq : a.eval x = q at hv
      have hv' := hv
      cases hv with
      | rptr => exact ⟨_, fun _ _ => by simp [execOp, hq], hv'⟩
    · cases h
  · rename_i x t
    split at h
    · rename_i v hv
      split at h
      · rename_i i hi
        cases hb : lenKind i.k v with
        | false => rw [hb] at h; cases h
        | true =>
          rw [hb] at h
          simp only [cond_true] at h
          split at h
          · rename_i n hn
            cases h
            have := fun w' => alen_sound hT hs (ty := ty) hi hb (ev_sound hs hv) hn w'
            exact ⟨_, fun _ _ => by simp [execOp, resolve, invoke, builtin, this], .d _ _ (.one _ rfl)⟩
          · cases h
      · cases h
    · cases h
  · cases h

def amk : St → TypeId → List AV → Option Tmp → Option St
  | ⟨n, T, H, Hp, clk⟩, e, cs, dst => put ⟨n, T, (clk, some (.box e cs)) :: H, Hp, clk + 1⟩ dst (.ptr (.loc clk) 0)

def setK {β : Type} : List Blk → Nat → Blk → (List Blk → Option β) → Option β
  | _ :: r, 0, b, k => k (b :: r)
  | x :: r, n + 1, b, k => setK r n b (fun l => k (x :: l))
  | [], _, _, _ => none
def aset : St → Id → Blk → Option St
  | ⟨n, T, H, Hp, clk⟩, .loc k, b => some ⟨n, T, (k, some b) :: H, Hp, clk⟩
  | ⟨n, T, H, Hp, clk⟩, .par k, b => setK Hp k b fun l => some ⟨n, T, H, l, clk⟩

theorem setK_spec {β : Type} {r : β} : ∀ {l : List Blk} {n : Nat} {b : Blk} {k : List Blk → Option β}, setK l n b k = some r → n < l.length ∧ k (l.set n b) = some r
  | x :: l, 0, b, k, h => ⟨by simp, by simpa [setK] using h⟩
  | x :: l, n + 1, b, k, h => by
    simp only [setK] at h
    obtain ⟨h1, h2⟩ := setK_spec h
    exact ⟨by simp; omega, by simpa using h2⟩
  | [], n, b, k, h => by simp [setK] at h

theorem aset_hk {σ σ' : St} {i : Id} {b : Blk} (h : aset σ i b = some σ') : hk σ' i = some b ∧ (∀ j, j ≠ i → hk σ' j = hk σ j) ∧ σ'.n = σ.n ∧ σ'.T = σ.T ∧ σ'.clk = σ.clk := by
  obtain ⟨n, T, H, Hp, clk⟩ := σ
  cases i with
  | loc k =>
    simp only [aset] at h
    cases h
    refine ⟨by simp only [hk, lk_cons_self], fun j hj => ?_, rfl, rfl, rfl⟩
    cases j with
    | par m => rfl
    | loc m => simp only [hk, lk_cons_ne (show k ≠ m from fun e => hj (by rw [e]))]
  | par k =>
    simp only [aset] at h
    obtain ⟨h1, h2⟩ := setK_spec h
    cases h2
    refine ⟨by simp [hk, h1], fun j hj => ?_, rfl, rfl, rfl⟩
    cases j with
    | loc m => rfl
    | par m => simp only [hk]; rw [List.getElem?_set_ne (fun e => hj (by rw [e]))]

/-- One block, known, is written; nothing else turns. -/
theorem chg_sat {c : Ctx} {σ σ' : St} {a : Act} {w w' : World} {ρ : Env} {O : Nat → Prop} (hs : SatAt c σ a w ρ O) {i : Id} {b0 b : Blk} (h0 : hk σ i = some b0) (hset : aset σ i b = some σ') {g : Nat} (hg : (ρ i).bind vblk = some g)
    (hold : ∀ k, k ≠ g → w'.heap[k]? = w.heap[k]?) (hsize : w'.heap.size = w.heap.size) (hos : w'.os = w.os) (htape : w'.tape = w.tape) (hout : w'.output = w.output) (hb : BOK ρ O w' i b) : SatAt c σ' a w' ρ O := by
  obtain ⟨h1, h2, h3, h4, h5⟩ := aset_hk hset
  obtain ⟨hO, hlt, hW⟩ := hs.H.own i b0 g h0 hg
  have hk0 : Keeps O w O w' := ⟨by omega, fun k hk hO' => hold k (fun e => hO' (e ▸ hO)), fun k hk => .inl hk⟩
  have hhk : ∀ j b', hk σ' j = some b' → (j = i ∧ b' = b) ∨ (j ≠ i ∧ hk σ j = some b') := by
    intro j b' h
    by_cases hj : j = i
    · subst hj; rw [h1] at h; cases h; exact .inl ⟨rfl, rfl⟩
    · rw [h2 j hj] at h; exact .inr ⟨hj, h⟩
  have hsome : ∀ j b', hk σ' j = some b' → ∃ b'', hk σ j = some b'' := by
    intro j b' h
    rcases hhk j b' h with ⟨rfl, _⟩ | ⟨_, h⟩
    · exact ⟨_, h0⟩
    · exact ⟨_, h⟩
  refine ⟨hs.defers, by rw [h3]; exact hs.n, hs.par, fun k hk => hs.fresh k (by omega), fun t x ht => ?_, ⟨fun j b' h => ?_, fun j b' g' h hg' => ?_, fun j k bj bk g' hj hk' => ?_⟩, ?_⟩
  · rw [h4] at ht
    obtain ⟨u, e1, e2⟩ := hs.T t x ht
    exact ⟨u, e1, e2.keep (Ext.refl ρ) hk0⟩
  · rcases hhk j b' h with ⟨rfl, rfl⟩ | ⟨hj, h⟩
    · exact hb
    · refine (hs.H.ok j b' h).keep (Ext.refl ρ) hk0 (fun g' hg' => hold g' (fun e => hj ?_))
      subst e
      exact hs.H.inj j i b' b0 g' h h0 hg' hg
  · obtain ⟨b'', h'⟩ := hsome j b' h
    obtain ⟨e1, e2, e3⟩ := hs.H.own j b'' g' h' hg'
    exact ⟨e1, by omega, e3⟩
  · obtain ⟨b1, hj'⟩ := hsome j bj hj
    obtain ⟨b2, hk''⟩ := hsome k bk hk'
    exact hs.H.inj j k b1 b2 g' hj' hk''
  · have hF := hs.F
    refine ⟨hos.trans hF.os, htape.trans hF.tape, hout.trans hF.output, by have := hF.size; omega, fun k hk hkW => ?_, hF.mono, hF.news, hF.wlt, fun k hk => by have := hF.olt k hk; omega, hF.olt0⟩
    by_cases he : k = g
    · subst he
      rcases place_or hW with hW | hW
      · exact absurd hW hkW
      · omega
    · exact (hold k he).trans (hF.same k hk hkW)

theorem run_storeSeg {P : Program} (g off : Nat) (t : TypeId) : ∀ (vs : List Value) (i : Nat) (cur : Array Value) (w : World), w.heap[g]? = some (.cells cur t (0, 0)) → off + i + vs.length ≤ cur.size → (∀ v ∈ vs, v.oneCell' = true) →
    ∃ cur', (storeCells ⟨g, off, none⟩ vs i).run P w = .ok () (w.setRow g cur') ∧ cur'.size = cur.size ∧ ∀ m : Nat, cur'[m]? = if off + i ≤ m ∧ m < off + i + vs.length then vs[m - (off + i)]? else cur[m]?
  | [], i, cur, w, hg, hl, _ => by
    refine ⟨cur, ?_, rfl, fun m => by rw [if_neg (by simp)]⟩
    simp only [storeCells]
    show Result.ok () w = _
    congr 1
    have hlt : g < w.heap.size := (Array.getElem?_eq_some_iff.1 hg).1
    have hv : w.heap[g] = .cells cur t (0, 0) := (Array.getElem?_eq_some_iff.1 hg).2
    cases w with
    | mk heap tape drawn os output =>
      simp only [World.setRow]
      congr 1
      apply Array.ext (by simp)
      intro k h1 h2
      simp only [Array.getElem_modify]
      split
      · rename_i e
        subst e
        simp only at hv
        rw [hv]
      · rfl
  | v :: vs, i, cur, w, hg, hl, h1 => by
    simp only [List.length_cons] at hl
    have hc : w.cell? ⟨g, off + i, none⟩ = some (cur[off + i]'(by omega)) := by rw [cell_of_row w g _ cur t (0, 0) hg]; simp
    have hf : w.frozen? ⟨g, off + i, none⟩ = false := by simp [World.frozen?, hg]
    have hstore : (store (⟨g, off + i, none⟩ : Addr) v).run P w = .ok () (w.setRow g (cur.setIfInBounds (off + i) v)) := by
      rw [run_store P w _ v .plain (h1 v List.mem_cons_self), hc]
      simp only [hf]
      rw [setCell_eq_setRow w g (off + i) cur t (0, 0) v hg]
      rfl
    obtain ⟨cur', e1, e2, e3⟩ := run_storeSeg (P := P) g off t vs (i + 1) (cur.setIfInBounds (off + i) v) (w.setRow g (cur.setIfInBounds (off + i) v)) (setRow_heap w g cur _ t (0, 0) hg) (by simp; omega) (fun u hu => h1 u (List.mem_cons_of_mem _ hu))
    refine ⟨cur', ?_, by rw [e2]; simp, fun m => ?_⟩
    · simp only [storeCells, Sem.run_bind, add_ptr, hstore, Result.andThen_ok, e1, setRow_setRow]
    · rw [e3]
      simp only [List.length_cons]
      by_cases hm : m = off + i
      · subst hm
        rw [if_neg (by omega), if_pos (by omega)]
        have : off + i < cur.size := by omega
        simp [this]
      · by_cases hm2 : off + (i + 1) ≤ m ∧ m < off + (i + 1) + vs.length
        · rw [if_pos hm2, if_pos (by omega)]
          have : m - (off + i) = (m - (off + (i + 1))) + 1 := by omega
          rw [this, List.getElem?_cons_succ]
        · rw [if_neg hm2, if_neg (by omega), Array.getElem?_setIfInBounds, if_neg (Ne.symm hm)]

end Go.AM
