/- A machine over pure data: part 15: a row handed on; indexes, cuts, conversions. -/
import Derived.Test.YtpohebmofcdeiaaAM14
import Derived.WalkSpells
namespace Go.AM
open Go Go.RowKit

theorem lk_shadow {α : Type} {T : List (Nat × α)} {s t : Nat} {x y : α} (h : lk ((s, y) :: T) t = some x) : (s = t ∧ y = x) ∨ (s ≠ t ∧ lk T t = some x) := by
  by_cases e : s = t
  · subst e
    rw [lk_cons_self] at h
    injection h with h
    exact .inl ⟨rfl, h⟩
  · rw [lk_cons_ne e] at h
    exact .inr ⟨e, h⟩

/-- A row of the call's own is written no more: it is pure data from here on. -/
theorem freeze_imp {n clk s i e sz : Nat} {T : List (Nat × AV)} {H : List (Nat × Option Blk)} {Hp : List Blk} {xs : List (List D)} (hs : lk T s = some (.own (.loc i))) (hi : hk ⟨n, T, H, Hp, clk⟩ (.loc i) = some (.row e sz xs)) :
    Imp ⟨n, T, H, Hp, clk⟩ ⟨n, (s, .d (.row xs)) :: T, (i, none) :: H, Hp, clk⟩ := by
  rintro c a w ⟨ρ, O, h⟩
  obtain ⟨v, vs, hv, hrest⟩ := h.H.ok (.loc i) _ hi
  have hvO : ∀ g, vblk v = some g → O g ∧ g < w.heap.size ∧ c.w0.heap.size ≤ g := fun g hg => h.H.own (.loc i) _ g hi (by rw [hv]; exact hg)
  have hsub : ∀ k, (O k ∧ vblk v ≠ some k) → O k := fun k hk => hk.1
  have hk0 : Keeps O w (fun k => O k ∧ vblk v ≠ some k) w := ⟨Nat.le_refl _, fun _ _ _ => rfl, fun k hk => .inl hk.1⟩
  have hlk : ∀ j b', hk ⟨n, (s, .d (.row xs)) :: T, (i, none) :: H, Hp, clk⟩ j = some b' → j ≠ .loc i ∧ hk ⟨n, T, H, Hp, clk⟩ j = some b' := by
    intro j b' hb
    cases j with
    | par k => exact ⟨by simp, hb⟩
    | loc k =>
      by_cases e1 : i = k
      · subst e1
        simp only [hk, lk_cons_self] at hb
        cases hb
      · simp only [hk, lk_cons_ne e1] at hb
        exact ⟨fun e => by injection e with e; exact e1 e.symm, hb⟩
  refine ⟨ρ, fun k => O k ∧ vblk v ≠ some k, h.defers, h.n, h.par, h.fresh, fun t x ht => ?_, ⟨fun j b hb => ?_, fun j b g hb hg => ?_, fun j k bj bk g hj hk' => ?_⟩, ?_⟩
  · rcases lk_shadow ht with ⟨rfl, rfl⟩ | ⟨_, ht⟩
    · obtain ⟨u, e1, e2⟩ := h.T s _ hs
      cases e2 with
      | own _ _ h1 _ =>
        refine ⟨u, e1, .d _ _ (own_reads (h.H.ok (.loc i) _ hi) h1 hsub (fun g hg => fun hh => ?_))⟩
        rw [hv] at h1
        injection h1 with h1
        exact hh.2 (h1 ▸ hg)
    · obtain ⟨u, e1, e2⟩ := h.T t x ht
      exact ⟨u, e1, e2.keep (Ext.refl ρ) hk0⟩
  · obtain ⟨h1, h2⟩ := hlk j b hb
    exact (h.H.ok j b h2).keep (Ext.refl ρ) hk0 (fun _ _ => rfl)
  · obtain ⟨h1, h2⟩ := hlk j b hb
    obtain ⟨e1, e2, e3⟩ := h.H.own j b g h2 hg
    refine ⟨⟨e1, fun e => h1 ?_⟩, e2, e3⟩
    exact h.H.inj j (.loc i) b _ g h2 hi hg (by rw [hv]; exact e)
  · exact h.H.inj j k bj bk g (hlk j bj hj).2 (hlk k bk hk').2
  · have hF := h.F
    exact ⟨hF.os, hF.tape, hF.output, hF.size, hF.same, fun k hk' => ⟨hF.mono k hk', fun e => by have h1 := (hvO k e).2.2; have h2 := hF.olt0 k hk'; omega⟩, fun k hk' => hF.news k hk'.1, hF.wlt, fun k hk' => hF.olt k hk'.1, hF.olt0⟩

/-- What is handed over is pure data; a row of the call's own is lent. -/
def lend (σ : St) : AV → AV
  | .own i => match hk σ i with
    | some (.row _ _ xs) => .d (.row xs)
    | _ => .own i
  | x => x
def scal1 : AV → Bool
  | .d (.one _) => true
  | _ => false
def scal : AV → Bool
  | .tup xs => xs.all scal1
  | x => scal1 x
theorem scal1_vr {ρ ρ' : Env} {O O' : Nat → Prop} {w w' : World} {x : AV} (hx : scal1 x = true) {v : Value} (h : VR ρ O w x v) : VR ρ' O' w' x v := by
  cases x with
  | d y =>
    cases y with
    | one u => cases h with | d _ _ h => cases h with | one _ h => exact .d _ _ (.one _ h)
    | row => cases hx
  | _ => cases hx
theorem scal_vr {ρ ρ' : Env} {O O' : Nat → Prop} {w w' : World} {x : AV} (hx : scal x = true) {v : Value} (h : VR ρ O w x v) : VR ρ' O' w' x v := by
  cases x with
  | tup xs =>
    cases h with
    | tup _ vs hl hc => exact .tup _ vs hl fun k x v hx' hv => scal1_vr (List.all_eq_true.1 hx x (List.mem_of_getElem? hx')) (hc k x v hx' hv)
  | d y => exact scal1_vr (x := .d y) hx h
  | _ => cases hx

section
variable {P : Program} {l rest : List Oper} {Q : Exit → St → Prop} {n d clk : Nat} {T : List (Nat × AV)} {H : List (Nat × Option Blk)} {Hp : List Blk} {x y : Operand} {args : Array Operand} {tys : Array TypeId} {t t2 ty : TypeId} {pos : String} {aft : Array Edge} {g : Option (Nat × Bool)}

/-- A call that answers numbers, Bools, strings: rows of the call's own may be lent to it. -/
theorem AL.callB (hw : wantedA l ⟨some d, .call ⟨.value x, args, tys⟩, ty, pos, aft, g⟩ ⟨n, T, H, Hp, clk⟩ = some true) (hd : Nat.blt d n = true) {f : FuncId} {caps as_ : List AV} (hx : ev ⟨n, T, H, Hp, clk⟩ x = some (.fn f caps))
    (ha : aevs ⟨n, T, H, Hp, clk⟩ args.toList some = some as_) {ys : List AV} (hys : (as_.map (lend ⟨n, T, H, Hp, clk⟩)) ++ caps = ys) (hpk : ys.all (pk2 0) = true) {R : AV → Prop} (hc : ACallPR P f ys R)
    (h : ∀ r, R r → scal r = true ∧ AL P l Q rest ⟨n, (d, r) :: T, H, Hp, clk⟩) :
    AL P l Q (⟨some d, .call ⟨.value x, args, tys⟩, ty, pos, aft, g⟩ :: rest) ⟨n, T, H, Hp, clk⟩ := by
  rintro c a w ⟨ρ, O, hs⟩
  refine wpList_step fun K hK => ?_
  rw [if_pos (wantedA_sound hw ⟨ρ, O, hs⟩)]
  have hxv := ev_sound hs hx
  generalize hq : a.eval x = q at hxv
  cases hxv with
  | fn _ _ cvs hcl' hcv =>
    obtain ⟨ha1, ha2⟩ := aevs_vals hs ha
    unfold Oper.wp
    rw [run_call rfl hq hc.1 w]
    rw [Oper.upon_enter]
    have hk0 : Keeps O w (fun _ => False) w := ⟨Nat.le_refl _, fun _ _ _ => rfl, fun k hk => hk.elim⟩
    have hvr : ∀ y v, pk2 0 y = true → VR ρ (fun _ => False) w y v → VR (ρ0 ⟨fun _ => none, fun _ => False, fun _ => False, w⟩) (fun _ => False) w y v := by
      intro y v hy hv
      refine rp2_vr (ρ := ρ) (m := []) (fun k => rfl) hy ?_
      rw [rp2_nil]
      exact hv
    have hini : Ini ⟨fun _ => none, fun _ => False, fun _ => False, w⟩ ys [] (args.map a.eval ++ cvs) := by
      subst hys
      refine ⟨by simp [ha1, hcl'], fun k y v hy hv => ?_, ⟨fun i b hb => ?_, fun i b g hb => ?_, fun i j bi bj g hb => ?_⟩, fun k hk => hk.elim, fun k hk => hk.elim⟩
      · refine hvr y v (List.all_eq_true.1 hpk y (List.mem_of_getElem? hy)) ?_
        rw [Array.getElem?_append] at hv
        simp only [Array.size_map] at hv
        rw [List.getElem?_append] at hy
        simp only [List.length_map] at hy
        by_cases hk' : k < args.size
        · rw [if_pos hk'] at hv
          rw [if_pos (by omega), List.getElem?_map, Option.map_eq_some_iff] at hy
          obtain ⟨z, hz, rfl⟩ := hy
          have hzv := ha2 k z v hz hv
          cases z with
          | own i =>
            simp only [lend]
            split
            · rename_i e sz xs hb
              exact .d _ _ (row_reads hs (x := .own i) (by simp [rowOf, hb]) hzv)
            · exact hzv.keep (Ext.refl ρ) hk0
          | _ => exact hzv.keep (Ext.refl ρ) hk0
        · rw [if_neg hk'] at hv
          rw [if_neg (by omega)] at hy
          rw [ha1] at hy
          exact (hcv _ _ v hy hv).keep (Ext.refl ρ) hk0
      · cases i <;> simp [hkp] at hb
      · cases i <;> simp [hkp] at hb
      · cases i <;> simp [hkp] at hb
    refine (hc.2 _ _ hini).mono ?_
    rintro e w2 ⟨r, Hp', Hr, v, ρ2, O2, ⟨hR, rfl⟩, rfl, hf⟩
    obtain ⟨hsc, h⟩ := h r hR
    have hF2 := hf.F
    have hall : ∀ k, k < w.heap.size → w2.heap[k]? = w.heap[k]? := fun k hk => hF2.same k hk (fun h => h)
    have hkeep : Keeps O w O w2 := ⟨hF2.size, fun k hk _ => hall k hk, fun k hk => .inl hk⟩
    have hF := hs.F
    have hsat : SatAt c ⟨n, T, H, Hp, clk⟩ a w2 ρ O := by
      refine ⟨hs.defers, hs.n, hs.par, hs.fresh, fun t y ht => ?_, ⟨fun i b hb => ?_, fun i b g hb hg => ?_, hs.H.inj⟩, ?_⟩
      · obtain ⟨u, e1, e2⟩ := hs.T t y ht
        exact ⟨u, e1, e2.keep (Ext.refl ρ) hkeep⟩
      · exact (hs.H.ok i b hb).keep (Ext.refl ρ) hkeep (fun g hg => hall g (hs.H.own i b g hb hg).2.1)
      · obtain ⟨e1, e2, e3⟩ := hs.H.own i b g hb hg
        exact ⟨e1, Nat.lt_of_lt_of_le e2 hF2.size, e3⟩
      · exact ⟨hF2.os.trans hF.os, hF2.tape.trans hF.tape, hF2.output.trans hF.output, Nat.le_trans hF.size hF2.size, fun k hk' hkW => (hall k (Nat.lt_of_lt_of_le hk' hF.size)).trans (hF.same k hk' hkW), hF.mono, hF.news, hF.wlt,
          fun k hk' => Nat.lt_of_lt_of_le (hF.olt k hk') hF2.size, hF.olt0⟩
    exact hK _ _ (h c _ w2 ⟨ρ, O, put_sat hsat (v := v) (x := r) (scal_vr hsc hf.r) (by simp [put, hd])⟩)

theorem AL.mkv {op : Op} (hw : wantedA l ⟨some d, op, ty, pos, aft, g⟩ ⟨n, T, H, Hp, clk⟩ = some true) (hd : Nat.blt d n = true) {v : AV}
    (hv : ∀ c a w ρ O, SatAt c ⟨n, T, H, Hp, clk⟩ a w ρ O → ∃ u, (execOp a.eval ⟨some d, op, ty, pos, aft, g⟩).run P w = .ok (.value u) w ∧ VR ρ O w v u)
    (h : AL P l Q rest ⟨n, (d, v) :: T, H, Hp, clk⟩) : AL P l Q (⟨some d, op, ty, pos, aft, g⟩ :: rest) ⟨n, T, H, Hp, clk⟩ :=
  AL.step hw (AStep.value (x := v) (by simp [put, hd]) hv) h

theorem und_slice {ts : List (Nat × TI)} (hT : TOK P ts) {t e s b : Nat} {z : List AV} (ht : lk ts t = some ⟨.slice e, s, b, z⟩) : P.underlying t = some (.slice e) := by
  obtain ⟨du, hu1, hu2⟩ := (hT.facts ht).und
  cases du <;> simp [tkOf] at hu2
  rw [hu1, hu2]
theorem und_str {ts : List (Nat × TI)} (hT : TOK P ts) {t s b : Nat} {z : List AV} (ht : lk ts t = some ⟨.str, s, b, z⟩) : P.underlying t = some .string := by
  obtain ⟨du, hu1, hu2⟩ := (hT.facts ht).und
  cases du <;> simp [tkOf] at hu2
  exact hu1
theorem und_int {ts : List (Nat × TI)} (hT : TOK P ts) {t s b : Nat} {k : IntKind} {z : List AV} (ht : lk ts t = some ⟨.int k, s, b, z⟩) : P.underlying t = some (.int k) := by
  obtain ⟨du, hu1, hu2⟩ := (hT.facts ht).und
  cases du <;> simp [tkOf] at hu2
  rw [hu1, hu2]

/-! ### rows of the call's own: an element's address, read, written -/
theorem row_block {c : Ctx} {σ : St} {a : Act} {w : World} {ρ : Env} {O : Nat → Prop} (hs : SatAt c σ a w ρ O) {id : Id} {e sz : Nat} {xs : List (List D)} (hid : hk σ id = some (.row e sz xs)) (hne : xs ≠ []) :
    ∃ gb cap cur, ρ id = some (.slice (some ⟨gb, 0, none⟩) xs.length cap) ∧ w.heap[gb]? = some (.cells cur e (0, 0)) ∧ cur.size = cap * sz ∧ xs.length ≤ cap ∧ (∀ x ∈ xs, x.length = sz) ∧
      ∀ (j k : Nat) x d, xs[j]? = some x → x[k]? = some d → ∃ u, cur[j * sz + k]? = some u ∧ Reads O w d u := by
  obtain ⟨v, vs, h1, h2, h3, h4⟩ := hs.H.ok id _ hid
  rcases h2.2 with ⟨_, h5⟩ | ⟨gb, cap, cur, rfl, _, hh, hnc, _, hcs, htk⟩
  · exact absurd (List.eq_nil_of_length_eq_zero h5) hne
  · refine ⟨gb, cap, cur, h1, hh, hcs, hnc, h3, fun j k x d hx hd => ?_⟩
    obtain ⟨u, e1, e2⟩ := h4 j k x d hx hd
    refine ⟨u, ?_, e2⟩
    rw [← htk, List.getElem?_take] at e1
    split at e1
    · simpa using e1
    · cases e1

theorem AL.idxO {ts : List (Nat × TI)} (hT : TOK P ts) (hw : wantedA l ⟨some d, .indexAddr t x y, ty, pos, aft, g⟩ ⟨n, T, H, Hp, clk⟩ = some true) (hd : Nat.blt d n = true) {id : Id} {e sz : Nat} {xs : List (List D)} (hx : ev ⟨n, T, H, Hp, clk⟩ x = some (.own id))
    (hid : hk ⟨n, T, H, Hp, clk⟩ id = some (.row e sz xs)) {k : IntKind} {i : Int} (hy : ev ⟨n, T, H, Hp, clk⟩ y = some (.d (.one (.int k i)))) {e' s b : Nat} {z : List AV} (ht : lk ts t = some ⟨.slice e', s, b, z⟩) {ie : TI} (he : lk ts e' = some ie)
    (hsz : Nat.beq ie.size sz = true) (h0 : 0 ≤ i) (h1 : i.toNat < xs.length) (h : AL P l Q rest ⟨n, (d, .rptr id sz i.toNat 0) :: T, H, Hp, clk⟩) : AL P l Q (⟨some d, .indexAddr t x y, ty, pos, aft, g⟩ :: rest) ⟨n, T, H, Hp, clk⟩ := by
  refine AL.mkv hw hd (v := .rptr id sz i.toNat 0) (fun c ac w ρ O hs => ?_) h
  have hsz := Nat.eq_of_beq_eq_true hsz
  have hne : xs ≠ [] := fun e => by rw [e] at h1; simp at h1
  obtain ⟨gb, cap, cur, b1, b2, b3, b4, b5, b6⟩ := row_block hs hid hne
  have e1 := ev_sound hs hx
  have e2 := one_of (ev_sound hs hy)
  have hsize := (hT.facts he).sizeOf w
  generalize hq : ac.eval x = q at e1
  cases e1 with
  | own _ _ hρ _ =>
    rw [b1] at hρ
    injection hρ with hρ
    subst hρ
    refine ⟨.pointer (some ⟨gb, i.toNat * sz + 0, none⟩), ?_, .rptr _ _ _ _ gb (by rw [b1]; rfl)⟩
    have hcond : 0 ≤ i ∧ i < (xs.length : Int) := ⟨h0, by omega⟩
    simp [execOp, hq, e2, Instr.indexAt, asIntOf, run_underlying (und_slice hT ht), hsize, hcond, hsz, add_ptr]

theorem AL.loadR {ts : List (Nat × TI)} (hT : TOK P ts) (hw : wantedA l ⟨some d, .load t x, ty, pos, aft, g⟩ ⟨n, T, H, Hp, clk⟩ = some true) (hd : Nat.blt d n = true) {id : Id} {e sz j f : Nat} {xs : List (List D)} (hx : ev ⟨n, T, H, Hp, clk⟩ x = some (.rptr id sz j f))
    (hid : hk ⟨n, T, H, Hp, clk⟩ id = some (.row e sz xs)) {el : List D} (hel : xs[j]? = some el) {v : AV} (hv : (dropK el f fun r => aload ts ⟨n, T, H, Hp, clk⟩ t (.eptr r)) = some v)
    (h : AL P l Q rest ⟨n, (d, v) :: T, H, Hp, clk⟩) : AL P l Q (⟨some d, .load t x, ty, pos, aft, g⟩ :: rest) ⟨n, T, H, Hp, clk⟩ := by
  refine AL.mkv hw hd (v := v) (fun c ac w ρ O hs => ?_) h
  have hne : xs ≠ [] := fun e => by rw [e] at hel; simp at hel
  obtain ⟨gb, cap, cur, b1, b2, b3, b4, b5, b6⟩ := row_block hs hid hne
  obtain ⟨hfl, hv⟩ := dropK_spec hv
  have e1 := ev_sound hs hx
  generalize hq : ac.eval x = q at e1
  cases e1 with
  | rptr _ _ _ _ g' hg =>
    rw [b1] at hg
    simp [vblk] at hg
    subst hg
    have hcell : ∀ (k : Nat) dd, el[k]? = some dd → ∃ u, w.cell? ⟨gb, j * sz + k, none⟩ = some u ∧ Reads O w dd u := by
      intro k dd hk'
      obtain ⟨u, c1, c2⟩ := b6 j k el dd hel hk'
      exact ⟨u, by rw [cell_of_row w gb _ cur e (0, 0) b2]; exact c1, c2⟩
    -- the reading of a load, as at an element of pure data
    unfold aload at hv
    split at hv
    · cases hv
    · rename_i i hi
      have hu : ∃ us : List Value, us.length = (el.drop f).length ∧ (∀ (k : Nat) u, us[k]? = some u → w.cell? (Addr.add ⟨gb, j * sz + f, none⟩ k) = some u) ∧ ∀ (k : Nat) dd u, (el.drop f)[k]? = some dd → us[k]? = some u → Reads O w dd u := by
        refine ⟨(List.range (el.drop f).length).map fun k => (w.cell? ⟨gb, j * sz + (f + k), none⟩).getD undef, by simp, fun k u hu => ?_, fun k dd u hdd hu => ?_⟩
        · rw [List.getElem?_map] at hu
          by_cases hk' : k < (el.drop f).length
          · rw [List.getElem?_range hk'] at hu
            simp only [Option.map_some, Option.some.injEq] at hu
            obtain ⟨u', c1, _⟩ := hcell (f + k) _ (List.getElem?_eq_getElem (by simp at hk'; omega))
            rw [c1] at hu
            simp at hu
            subst hu
            rw [add_ptr, Nat.add_assoc]
            exact c1
          · rw [List.getElem?_eq_none (by simp; simp at hk'; omega)] at hu
            cases hu
        · rw [List.getElem?_drop] at hdd
          obtain ⟨u', c1, c2⟩ := hcell (f + k) dd hdd
          have hk' : k < (el.drop f).length := by
            have := (List.getElem?_eq_some_iff.1 hdd).1
            simp
            omega
          rw [List.getElem?_map, List.getElem?_range hk'] at hu
          simp only [Option.map_some, Option.some.injEq] at hu
          rw [c1] at hu
          simp at hu
          subst hu
          exact c2
      obtain ⟨us, u1, u2, u3⟩ := hu
      simp only at hv
      cases hg : szAgg i with
      | true =>
        rw [hg] at hv
        simp only [cond_true] at hv
        obtain ⟨h8, h9⟩ := takeD_spec hv
        injection h9 with h9
        subst h9
        have hld := loadVar_run hT hi (w := w) ⟨gb, j * sz + f, none⟩ (us.take i.size) (by rw [hg]; simp at h8 u1 ⊢; omega) (fun k v hv => u2 k v (by
          rw [List.getElem?_take] at hv
          split at hv
          · exact hv
          · cases hv))
        rw [hg] at hld
        refine ⟨_, by simp only [execOp, hq, Instr.loadAt, Instr.sureAddr, Sem.run_bind, Sem.run_pure, Result.andThen_ok, hld]; rfl, .agg _ _ (by simp at h8 u1 ⊢; omega) (fun k x' v hx' hv' => ?_)⟩
        simp only [List.getElem?_map, List.getElem?_take] at hx'
        split at hx'
        · rename_i hk'
          rw [Option.map_eq_some_iff] at hx'
          obtain ⟨dd, hdd, rfl⟩ := hx'
          simp [hk'] at hv'
          exact .d _ _ (u3 k dd v hdd hv')
        · simp at hx'
      | false =>
        rw [hg] at hv
        simp only [cond_false] at hv
        obtain ⟨y', h6, h7⟩ := nthK_spec hv
        injection h7 with h7
        subst h7
        have hlt : 0 < us.length := by rw [u1]; exact (List.getElem?_eq_some_iff.1 h6).1
        have hld := loadVar_run hT hi (w := w) ⟨gb, j * sz + f, none⟩ [us[0]] (by rw [hg]; rfl) (fun k v hv => by
          cases k with
          | zero => exact u2 0 v (by simpa [hlt] using hv)
          | succ k => simp at hv)
        rw [hg] at hld
        refine ⟨_, by simp only [execOp, hq, Instr.loadAt, Instr.sureAddr, Sem.run_bind, Sem.run_pure, Result.andThen_ok, hld]; rfl, .d _ _ (u3 0 y' _ h6 (by simp [hlt]))⟩

/-! ### cuts -/
def bnd (σ : St) (o : Option Operand) (dflt : Int) : Option Int :=
  match o with
  | none => some dflt
  | some o => match ev σ o with
    | some (.d (.one (.int _ i))) => some i
    | _ => none

theorem bnd_sound {c : Ctx} {σ : St} {a : Act} {w : World} {ρ : Env} {O : Nat → Prop} (hs : SatAt c σ a w ρ O) {o : Option Operand} {dflt i : Int} (h : bnd σ o dflt = some i) :
    (o = none ∧ i = dflt) ∨ ∃ k, o.map a.eval = some (.int k i) := by
  unfold bnd at h
  split at h
  · cases h; exact .inl ⟨rfl, rfl⟩
  · split at h
    · rename_i o' k i' he
      cases h
      exact .inr ⟨k, by simp [one_of (ev_sound hs he)]⟩
    · cases h

theorem Reads.cut {O : Nat → Prop} {w : World} {xs : List (List D)} {A : Option Addr} {c sz : Nat} (h : Reads O w (.row xs) (.slice A xs.length c)) (hsz : ∀ x ∈ xs, x.length = sz) {i j m : Nat} (hij : i ≤ j) (hj : j ≤ xs.length) (hjm : j ≤ m) (hm : m ≤ c) :
    Reads O w (.row ((xs.take j).drop i)) (.slice (if m = i then A else A.map (·.add (i * sz))) (j - i) (m - i)) := by
  have hlen : ((xs.take j).drop i).length = j - i := by simp; omega
  by_cases he : j = i
  · have : (xs.take j).drop i = [] := List.eq_nil_of_length_eq_zero (by omega)
    rw [this, he, Nat.sub_self]
    exact .none _ _
  · rw [if_neg (by omega)]
    cases h with
    | none => simp at hj; omega
    | row _ sz' _ ad u hl hc hmx hO hb hcell hsub =>
      have hget : ∀ q : Nat, ((xs.take j).drop i)[q]? = if q < j - i then xs[i + q]? else Option.none := by
        intro q
        rw [List.getElem?_drop, List.getElem?_take]
        by_cases hq : q < j - i
        · rw [if_pos hq, if_pos (by omega)]
        · rw [if_neg hq, if_neg (by omega)]
      have hmem : ∀ x ∈ (xs.take j).drop i, x ∈ xs := fun x hx => List.mem_of_mem_take (List.mem_of_mem_drop hx)
      have := Reads.row (O := O) (w := w) ((xs.take j).drop i) sz (m - i) (ad.add (i * sz)) (fun q k => u (i + q) k) (fun x hx => hsz x (hmem x hx)) (by rw [hlen]; omega) (by rw [hlen]; omega) (by rw [block_add]; exact hO) (by rw [block_add]; exact hb)
        (fun q k x d hx hd => by
          rw [hget] at hx
          split at hx
          · have h1 := hcell (i + q) k x d hx hd
            have : sz' = sz := by rw [← hl x (List.mem_of_getElem? hx), hsz x (List.mem_of_getElem? hx)]
            subst this
            rw [add_add, ← Nat.add_assoc, ← Nat.add_mul]
            exact h1
          · cases hx)
        (fun q k x d hx hd => by
          rw [hget] at hx
          split at hx
          · exact hsub (i + q) k x d hx hd
          · cases hx)
      rw [hlen] at this
      exact this

theorem VOp.slice {ts : List (Nat × TI)} (hT : TOK P ts) {lo hi mx : Option Operand} {o : Option Tmp} {σ : St} {xs : List (List D)} (hx : ev σ x = some (.d (.row xs)))
    {e s b : Nat} {z : List AV} (ht : lk ts t = some ⟨.slice e, s, b, z⟩) {ie : TI} (he : lk ts e = some ie) (hsz : ∀ x ∈ xs, x.length = ie.size) {i j m : Int} (hlo : bnd σ lo 0 = some i) (hhi : bnd σ hi xs.length = some j) (hmx : bnd σ mx j = some m)
    (hmh : mx.isSome = true → hi.isSome = true) (h0 : 0 ≤ i) (h1 : i ≤ j) (h2 : j ≤ xs.length) (h3 : j ≤ m) (h4 : m ≤ xs.length) : VOp P σ ⟨o, .slice t x lo hi mx, ty, pos, aft, g⟩ (.d (.row ((xs.take j.toNat).drop i.toNat))) := by
  refine VOp.mk fun c ac w ρ O hs => ?_
  have e1 := ev_sound hs hx
  generalize hq : ac.eval x = q at e1
  cases e1 with
  | d _ _ hr =>
    obtain ⟨A, cc, rfl, hcc, hm63⟩ := hr.slice
    have hsize := (hT.facts he).sizeOf (P := P)
    have hrun : ∃ m', j.toNat ≤ m' ∧ m' ≤ cc ∧ ∀ w, (Instr.sliceBounds true xs.length cc (lo.map ac.eval) (hi.map ac.eval) (mx.map ac.eval)).run P w = .ok (i.toNat, j.toNat, m') w := by
      rcases bnd_sound hs hmx with ⟨rfl, rfl⟩ | ⟨k3, hk3⟩
      · refine ⟨cc, by omega, Nat.le_refl _, fun w => ?_⟩
        rcases bnd_sound hs hlo with ⟨rfl, rfl⟩ | ⟨k1, hk1⟩ <;> rcases bnd_sound hs hhi with ⟨rfl, rfl⟩ | ⟨k2, hk2⟩
        · simp [Instr.sliceBounds]
        · have : (0 : Int) ≤ m ∧ m ≤ (cc : Int) := ⟨by omega, by omega⟩
          simp [Instr.sliceBounds, hk2, Instr.sliceBound, asIntOf, this]
        · have : (0 : Int) ≤ i ∧ i ≤ (xs.length : Int) := ⟨by omega, by omega⟩
          simp [Instr.sliceBounds, hk1, Instr.sliceBound, asIntOf, this]
        · have a1 : (0 : Int) ≤ m ∧ m ≤ (cc : Int) := ⟨by omega, by omega⟩
          have a2 : (0 : Int) ≤ i ∧ i ≤ ((m.toNat : Nat) : Int) := ⟨by omega, by omega⟩
          simp only [Instr.sliceBounds, hk1, hk2, Instr.sliceBound, asIntOf, a1, a2, Option.map_none, Sem.run_bind, Sem.run_pure, Result.andThen_ok, and_self, if_true, Sem.run_ite]
      · refine ⟨m.toNat, by omega, by omega, fun w => ?_⟩
        have hmxs : mx.isSome = true := by cases mx <;> simp at hk3 ⊢
        rcases bnd_sound hs hhi with ⟨rfl, _⟩ | ⟨k2, hk2⟩
        · exact absurd (hmh hmxs) (by simp)
        · have a0 : (0 : Int) ≤ m ∧ m ≤ (cc : Int) := ⟨by omega, by omega⟩
          have a1 : (0 : Int) ≤ j ∧ j ≤ ((m.toNat : Nat) : Int) := ⟨by omega, by omega⟩
          have a2 : (0 : Int) ≤ i ∧ i ≤ ((j.toNat : Nat) : Int) := ⟨by omega, by omega⟩
          rcases bnd_sound hs hlo with ⟨rfl, rfl⟩ | ⟨k1, hk1⟩
          · simp only [Instr.sliceBounds, hk3, hk2, Instr.sliceBound, asIntOf, a0, a1, Option.map_none, Sem.run_bind, Sem.run_pure, Result.andThen_ok, and_self, if_true, Sem.run_ite]
            rfl
          · simp only [Instr.sliceBounds, hk3, hk1, hk2, Instr.sliceBound, asIntOf, a0, a1, a2, Sem.run_bind, Sem.run_pure, Result.andThen_ok, and_self, if_true, Sem.run_ite]
    obtain ⟨m', hm1, hm2, hrun⟩ := hrun
    refine ⟨.slice (if m' = i.toNat then A else A.map (·.add (i.toNat * ie.size))) (j.toNat - i.toNat) (m' - i.toNat), fun w' _ => ?_, .d _ _ (hr.cut hsz (by omega) (by omega) hm1 hm2)⟩
    simp only [execOp, hq, Instr.sliceAt, Sem.run_bind, run_underlying (und_slice hT ht), Result.andThen_ok, Instr.slice, hrun, hsize, Sem.run_pure]

theorem AL.slice {ts : List (Nat × TI)} (hT : TOK P ts) {lo hi mx : Option Operand} (hw : wantedA l ⟨some d, .slice t x lo hi mx, ty, pos, aft, g⟩ ⟨n, T, H, Hp, clk⟩ = some true) (hd : Nat.blt d n = true) {xs : List (List D)} (hx : ev ⟨n, T, H, Hp, clk⟩ x = some (.d (.row xs)))
    {e s b : Nat} {z : List AV} (ht : lk ts t = some ⟨.slice e, s, b, z⟩) {ie : TI} (he : lk ts e = some ie) (hsz : ∀ x ∈ xs, x.length = ie.size) {i j m : Int} (hlo : bnd ⟨n, T, H, Hp, clk⟩ lo 0 = some i) (hhi : bnd ⟨n, T, H, Hp, clk⟩ hi xs.length = some j) (hmx : bnd ⟨n, T, H, Hp, clk⟩ mx j = some m)
    (hmh : mx.isSome = true → hi.isSome = true) (h0 : 0 ≤ i) (h1 : i ≤ j) (h2 : j ≤ xs.length) (h3 : j ≤ m) (h4 : m ≤ xs.length) (h : AL P l Q rest ⟨n, (d, .d (.row ((xs.take j.toNat).drop i.toNat))) :: T, H, Hp, clk⟩) :
    AL P l Q (⟨some d, .slice t x lo hi mx, ty, pos, aft, g⟩ :: rest) ⟨n, T, H, Hp, clk⟩ :=
  AL.v hw hd (.slice hT hx ht he hsz hlo hhi hmx hmh h0 h1 h2 h3 h4) h

/-- A byte of a string. -/
def byteAt (s : ByteArray) (i : Nat) : Int := ((s.data.toList.getD i 0).toNat : Int)

theorem VOp.sidx {ts : List (Nat × TI)} (hT : TOK P ts) {o : Option Tmp} {σ : St} {s : ByteArray} (hx : ev σ x = some (st s))
    {k : IntKind} {i : Int} (hy : ev σ y = some (.d (.one (.int k i)))) {s1 b1 : Nat} {z : List AV} (ht : lk ts t = some ⟨.str, s1, b1, z⟩) (h0 : 0 ≤ i) (h1 : i < s.size) :
    VOp P σ ⟨o, .index t x y, ty, pos, aft, g⟩ (.d (.one (.int .u8 (byteAt s i.toNat)))) := by
  refine VOp.mk fun c ac w ρ O hs => ?_
  have e1 := one_of (ev_sound hs hx)
  have e2 := one_of (ev_sound hs hy)
  refine ⟨.int .u8 (byteAt s i.toNat), fun w' _ => ?_, .d _ _ (.one _ rfl)⟩
  have hlt : i.toNat < s.size := by omega
  have hb : s[i.toNat]? = some (s[i.toNat]'hlt) := getElem?_pos s i.toNat hlt
  have hby : ((s[i.toNat]'hlt).toNat : Int) = byteAt s i.toNat := by
    have hl : i.toNat < s.data.toList.length := by rw [Array.length_toList]; exact hlt
    simp only [byteAt, List.getD_eq_getElem?_getD, List.getElem?_eq_getElem hl, Option.getD_some]
    rfl
  simp only [execOp, e1, e2, Instr.index, asIntOf, Sem.run_bind, Sem.run_pure, Result.andThen_ok, run_underlying (und_str hT ht), h0, if_true, hb, hby]
theorem AL.sidx {ts : List (Nat × TI)} (hT : TOK P ts) (hw : wantedA l ⟨some d, .index t x y, ty, pos, aft, g⟩ ⟨n, T, H, Hp, clk⟩ = some true) (hd : Nat.blt d n = true) {s : ByteArray} (hx : ev ⟨n, T, H, Hp, clk⟩ x = some (st s))
    {k : IntKind} {i : Int} (hy : ev ⟨n, T, H, Hp, clk⟩ y = some (.d (.one (.int k i)))) {s1 b1 : Nat} {z : List AV} (ht : lk ts t = some ⟨.str, s1, b1, z⟩) (h0 : 0 ≤ i) (h1 : i < s.size)
    (h : AL P l Q rest ⟨n, (d, .d (.one (.int .u8 (byteAt s i.toNat)))) :: T, H, Hp, clk⟩) : AL P l Q (⟨some d, .index t x y, ty, pos, aft, g⟩ :: rest) ⟨n, T, H, Hp, clk⟩ :=
  AL.v hw hd (.sidx hT hx hy ht h0 h1) h
end

end Go.AM
