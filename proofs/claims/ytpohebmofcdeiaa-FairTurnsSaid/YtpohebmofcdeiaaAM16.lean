/- A machine over pure data: part 16: regions that draw their order. -/
import Derived.Test.YtpohebmofcdeiaaAM15
import Derived.Deep.Quiet
namespace Go.AM
open Go Go.RowKit

theorem sat_below {c : Ctx} {σ : St} {a : Act} {w w' : World} {ρ : Env} {O : Nat → Prop} (hs : SatAt c σ a w ρ O) (hb : Below w.heap.size w w') : SatAt c σ a w' ρ O := by
  have hall : ∀ k, k < w.heap.size → w'.heap[k]? = w.heap[k]? := fun k hk => hb.block k hk
  have hkeep : Keeps O w O w' := ⟨hb.size, fun k hk _ => hall k hk, fun k hk => .inl hk⟩
  have hF := hs.F
  refine ⟨hs.defers, hs.n, hs.par, hs.fresh, fun t y ht => ?_, ⟨fun i b hb => ?_, fun i b g hb' hg => ?_, hs.H.inj⟩, ?_⟩
  · obtain ⟨u, e1, e2⟩ := hs.T t y ht
    exact ⟨u, e1, e2.keep (Ext.refl ρ) hkeep⟩
  · exact (hs.H.ok i b hb).keep (Ext.refl ρ) hkeep (fun g hg => hall g (hs.H.own i b g hb hg).2.1)
  · obtain ⟨e1, e2, e3⟩ := hs.H.own i b g hb' hg
    exact ⟨e1, Nat.lt_of_lt_of_le e2 hb.size, e3⟩
  · exact ⟨hb.os.trans hF.os, hb.tape.trans hF.tape, hb.output.trans hF.output, Nat.le_trans hF.size hb.size, fun k hk' hkW => (hall k (Nat.lt_of_lt_of_le hk' hF.size)).trans (hF.same k hk' hkW), hF.mono, hF.news, hF.wlt,
      fun k hk' => Nat.lt_of_lt_of_le (hF.olt k hk') hb.size, hF.olt0⟩

/-- The one value that a number, a Bool, a string, or a tuple of these, is. -/
def vOf1 : AV → Value
  | .d (.one u) => u
  | _ => undef
def vOf : AV → Value
  | .tup xs => .tuple (xs.map vOf1).toArray
  | x => vOf1 x
theorem scal1_vOf {ρ : Env} {O : Nat → Prop} {w : World} {x : AV} (hx : scal1 x = true) {v : Value} (h : VR ρ O w x v) : v = vOf1 x := by
  cases x with
  | d y =>
    cases y with
    | one u => exact one_of h
    | row => cases hx
  | _ => cases hx
theorem scal_vOf {ρ : Env} {O : Nat → Prop} {w : World} {x : AV} (hx : scal x = true) {v : Value} (h : VR ρ O w x v) : v = vOf x := by
  cases x with
  | tup xs =>
    cases h with
    | tup _ vs hl hc =>
      simp only [vOf]
      congr 1
      apply Array.ext (by simp [hl])
      intro k h1 h2
      have hk : k < xs.length := by rw [hl]; exact h1
      have := scal1_vOf (List.all_eq_true.1 hx _ (List.getElem_mem hk)) (hc k xs[k] vs[k] (List.getElem?_eq_getElem hk) (Array.getElem?_eq_getElem h1))
      simp [this]
  | d y => exact scal1_vOf (x := .d y) hx h
  | _ => cases hx

def sok1 : AV → Bool
  | .d (.one u) => u.oneCell'
  | _ => false
def sok : AV → Bool
  | .tup xs => xs.all sok1
  | x => sok1 x
theorem sok1_vr {x : AV} (h : sok1 x = true) (ρ : Env) (O : Nat → Prop) (w : World) : scal1 x = true ∧ VR ρ O w x (vOf1 x) := by
  cases x with
  | d y =>
    cases y with
    | one u => exact ⟨rfl, .d _ _ (.one u h)⟩
    | row => cases h
  | _ => cases h
theorem sok_vr {x : AV} (h : sok x = true) (ρ : Env) (O : Nat → Prop) (w : World) : scal x = true ∧ VR ρ O w x (vOf x) := by
  cases x with
  | tup xs =>
    have h1 : ∀ y ∈ xs, scal1 y = true ∧ VR ρ O w y (vOf1 y) := fun y hy => sok1_vr (List.all_eq_true.1 h y hy) ρ O w
    refine ⟨List.all_eq_true.2 fun y hy => (h1 y hy).1, .tup xs _ (by simp) fun k y v hy hv => ?_⟩
    rw [List.getElem?_toArray, List.getElem?_map, hy] at hv
    simp at hv
    subst hv
    exact (h1 y (List.mem_of_getElem? hy)).2
  | d y => exact sok1_vr (x := .d y) h ρ O w
  | _ => cases h

/-- A call that is lent rows, from a world. -/
theorem lend_calls {P : Program} {c : Ctx} {σ : St} {a : Act} {w : World} {ρ : Env} {O : Nat → Prop} (hs : SatAt c σ a w ρ O) {args : Array Operand} {as_ caps ys : List AV} {cvs : Array Value} (ha : aevs σ args.toList some = some as_)
    (hcl' : caps.length = cvs.size) (hcv : ∀ (k : Nat) x v, caps[k]? = some x → cvs[k]? = some v → VR ρ O w x v) (hys : (as_.map (lend σ)) ++ caps = ys) (hpk : ys.all (pk2 0) = true) {f : FuncId} {R : AV → Prop} (hc : ACallPR P f ys R) :
    Calls P f (args.map a.eval ++ cvs) w fun e w2 => ∃ r v, R r ∧ e = .returned v ∧ (∃ ρ2 O2, VR ρ2 O2 w2 r v) ∧ Below w.heap.size w w2 := by
  obtain ⟨ha1, ha2⟩ := aevs_vals hs ha
  have hk0 : Keeps O w (fun _ => False) w := ⟨Nat.le_refl _, fun _ _ _ => rfl, fun k hk => hk.elim⟩
  have hvr : ∀ y v, pk2 0 y = true → VR ρ (fun _ => False) w y v → VR (ρ0 ⟨fun _ => none, fun _ => False, fun _ => False, w⟩) (fun _ => False) w y v := by
    intro y v hy hv
    refine rp2_vr (ρ := ρ) (m := []) (fun k => rfl) hy ?_
    rw [rp2_nil]
    exact hv
  have hini : Ini ⟨fun _ => none, fun _ => False, fun _ => False, w⟩ ys [] (args.map a.eval ++ cvs) := by
    subst hys
    refine ⟨by simp [ha1, hcl'], fun k y v hy hv => ?_, ⟨fun i b hb => ?_, fun i b g hb => ?_, fun i j bi bj g hb => ?_⟩, fun k hk => hk.elim, fun k hk => hk.elim⟩
    · refine hvr y v (List.all_eq_true.1 hpk y (List.mem_of_getElem? hy)) ?_
      rw [Array.getElem?_append] at hv
      simp only [Array.size_map] at hv
      rw [List.getElem?_append] at hy
      simp only [List.length_map] at hy
      by_cases hk' : k < args.size
      · rw [if_pos hk'] at hv
        rw [if_pos (by omega), List.getElem?_map, Option.map_eq_some_iff] at hy
        obtain ⟨z, hz, rfl⟩ := hy
        have hzv := ha2 k z v hz hv
        cases z with
        | own i =>
          simp only [lend]
          split
          · rename_i e sz xs hb
            exact .d _ _ (row_reads hs (x := .own i) (by simp [rowOf, hb]) hzv)
          · exact hzv.keep (Ext.refl ρ) hk0
        | _ => exact hzv.keep (Ext.refl ρ) hk0
      · rw [if_neg hk'] at hv
        rw [if_neg (by omega)] at hy
        rw [ha1] at hy
        exact (hcv _ _ v hy hv).keep (Ext.refl ρ) hk0
    · cases i <;> simp [hkp] at hb
    · cases i <;> simp [hkp] at hb
    · cases i <;> simp [hkp] at hb
  refine (hc.2 _ _ hini).mono ?_
  rintro e w2 ⟨r, Hp', Hr, v, ρ2, O2, ⟨hR, rfl⟩, rfl, hf⟩
  have hF2 := hf.F
  exact ⟨r, v, hR, rfl, ⟨ρ2, O2, hf.r⟩, ⟨hF2.os, hF2.tape, hF2.output, hF2.size, fun k hk => hF2.same k hk (fun h => h)⟩⟩

/-! ### every operation a value, or a call that answers one: the text's order serves every order -/
def AQ (P : Program) (l : List Oper) (Q : Exit → St → Prop) (rest : List Oper) (σ : St) : Prop :=
  ∀ c a w, Sat c σ a w → wpQuiet P l.toArray (fun w' => Below w.heap.size w w') (fun a' => ∀ w', Below w.heap.size w w' → post c Q .normal a' w') rest a

section
variable {P : Program} {l rest : List Oper} {Q : Exit → St → Prop} {σ : St} {o : Oper}
theorem AW.drawn {id : Nat} (hm : P.follows .mixedOrders = true) (hB : Region.lexB .any l.toArray = true) (h : AQ P l Q l σ) : AW P (.region id l.toArray true) Q σ := fun c a w hs =>
  wp_region_quiet (C := fun w' => Below w.heap.size w w') hm hB ⟨rfl, rfl, rfl, Nat.le_refl _, fun _ _ => rfl⟩ (h c a w hs)
theorem AQ.nil (h : Q .normal σ) : AQ P l Q [] σ := fun _ _ _ ⟨ρ, O, hs⟩ => wpQuiet_nil fun _ hb => ⟨σ, h, ρ, O, sat_below hs hb⟩
theorem AQ.imp {σ' : St} (hi : Imp σ σ') (h : AQ P l Q rest σ') : AQ P l Q rest σ := fun c a w hs => h c a w (hi c a w hs)
theorem AQ.v {σ' : St} {v : AV} (hw : wantedA l o σ = some true) (hv : VOp P σ o v) (hp : put σ o.dst v = some σ') (h : AQ P l Q rest σ') : AQ P l Q (o :: rest) σ := by
  rintro c a w ⟨ρ, O, hs⟩
  refine wpQuiet_step fun K hK => ?_
  rw [if_pos (wantedA_sound hw ⟨ρ, O, hs⟩)]
  obtain ⟨u, h1, h2⟩ := hv.h c a w ρ O hs
  refine ⟨u, fun w' hb => ?_, hK _ (h c _ w ⟨ρ, O, put_sat hs h2 hp⟩)⟩
  unfold Oper.quietAt
  rw [h1 w' hb]
  exact ⟨rfl, rfl⟩
theorem AQ.do {ts : List (Nat × TI)} (hT : TOK P ts) {σ' : St} {v : AV} (hw : wantedA l o σ = some true) (hv : aval ts σ o.op = some v) (hp : put σ o.dst v = some σ') (h : AQ P l Q rest σ') : AQ P l Q (o :: rest) σ :=
  AQ.v hw (.of hT hv) hp h
theorem AQ.no {σ' : St} (hw : wantedA l o σ = some false) (hp : put σ o.dst (.tup []) = some σ') (h : AQ P l Q rest σ') : AQ P l Q (o :: rest) σ := by
  intro c a w hsat
  refine wpQuiet_step fun K hK => ?_
  rw [if_neg (by rw [wantedA_sound hw hsat]; simp)]
  obtain ⟨ρ, O, hs⟩ := hsat
  refine hK _ (h c _ w ⟨ρ, O, put_sat hs (v := undef) ?_ hp⟩)
  exact .tup [] #[] rfl (fun k x v h => by simp at h)
theorem AQ.split {t : Nat} {b : Bool} (hb : lk σ.T t = some (.d (.one (.bool b)))) (ht : b = true → AQ P l Q rest (Go.AM.know σ t true)) (hf : b = false → AQ P l Q rest (Go.AM.know σ t false)) : AQ P l Q rest σ := by
  cases b with
  | true => exact AQ.imp (know_imp hb) (ht rfl)
  | false => exact AQ.imp (know_imp hb) (hf rfl)
theorem AQ.guard {t : Nat} {b : Bool} (_hg : gdst l o = some t) (hb : lk σ.T t = some (.d (.one (.bool b)))) (ht : b = true → AQ P l Q (o :: rest) (Go.AM.know σ t true))
    (hf : b = false → AQ P l Q (o :: rest) (Go.AM.know σ t false)) : AQ P l Q (o :: rest) σ := AQ.split hb ht hf
end

section
variable {P : Program} {l rest : List Oper} {Q : Exit → St → Prop} {n d clk : Nat} {T : List (Nat × AV)} {H : List (Nat × Option Blk)} {Hp : List Blk} {x y : Operand} {args : Array Operand} {tys : Array TypeId} {t t2 ty : TypeId} {pos : String} {aft : Array Edge} {g : Option (Nat × Bool)}
theorem AQ.callB (hw : wantedA l ⟨some d, .call ⟨.value x, args, tys⟩, ty, pos, aft, g⟩ ⟨n, T, H, Hp, clk⟩ = some true) (hd : Nat.blt d n = true) {f : FuncId} {caps as_ : List AV} (hx : ev ⟨n, T, H, Hp, clk⟩ x = some (.fn f caps))
    (ha : aevs ⟨n, T, H, Hp, clk⟩ args.toList some = some as_) {ys : List AV} (hys : (as_.map (lend ⟨n, T, H, Hp, clk⟩)) ++ caps = ys) (hpk : ys.all (pk2 0) = true) {r : AV} (hc : ACallP P f ys r)
    (hr : sok r = true) (h : AQ P l Q rest ⟨n, (d, r) :: T, H, Hp, clk⟩) : AQ P l Q (⟨some d, .call ⟨.value x, args, tys⟩, ty, pos, aft, g⟩ :: rest) ⟨n, T, H, Hp, clk⟩ := by
  rintro c a w ⟨ρ, O, hs⟩
  refine wpQuiet_step fun K hK => ?_
  rw [if_pos (wantedA_sound hw ⟨ρ, O, hs⟩)]
  have hxv := ev_sound hs hx
  generalize hq : a.eval x = q at hxv
  cases hxv with
  | fn _ _ cvs hcl' hcv =>
    have hq1 : ∀ w', Below w.heap.size w w' → Calls P f (args.map a.eval ++ cvs) w' fun e w2 => e = .returned (vOf r) ∧ Below w.heap.size w w2 := by
      intro w' hb
      have hs' := sat_below hs hb
      refine (lend_calls (cvs := cvs) hs' ha hcl' (fun k y v hy hv => ?_) hys hpk hc).mono ?_
      · have hkeep : Keeps O w O w' := ⟨hb.size, fun k hk _ => hb.block k hk, fun k hk => .inl hk⟩
        exact (hcv k y v hy hv).keep (Ext.refl ρ) hkeep
      · rintro e w2 ⟨r', v, rfl, rfl, ⟨ρ2, O2, hv⟩, hb2⟩
        exact ⟨by rw [scal_vOf (sok_vr hr ρ O w).1 hv], ⟨hb2.os.trans hb.os, hb2.tape.trans hb.tape, hb2.output.trans hb.output, Nat.le_trans hb.size hb2.size, fun k hk => (hb2.block k (Nat.lt_of_lt_of_le hk hb.size)).trans (hb.block k hk)⟩⟩
    refine ⟨vOf r, fun w' hb => ?_, ?_⟩
    · unfold Oper.quietAt
      rw [run_call rfl hq hc.1 w']
      exact ⟨rfl, hq1 w' hb⟩
    · refine hK _ (h c _ w ⟨ρ, O, put_sat hs (v := vOf r) (x := r) (sok_vr hr ρ O w).2 (by simp [put, hd])⟩)

/-! ### every order, one by one -/
/-- One operation. -/
def AOp (P : Program) (l : List Oper) (i : Nat) (K : St → Prop) (σ : St) : Prop :=
  match l[i]? with
  | none => K σ
  | some o => AL P l (fun e σ' => e = .normal ∧ K σ') [o] σ
def AD (P : Program) (l : List Oper) (Q : Exit → St → Prop) : Nat → Array Bool → St → Prop
  | 0, listed, σ => Region.ready .any l.toArray listed = [] ∧ Q .normal σ
  | fuel + 1, listed, σ => (Region.ready .any l.toArray listed = [] → Q .normal σ) ∧ ∀ i ∈ Region.ready .any l.toArray listed, AOp P l i (AD P l Q fuel (listed.setIfInBounds i true)) σ

theorem wp_both {o : Oper} {a : Act} {w : World} {K K' : Act → World → Prop} {Q Q' : Exit → Act → World → Prop} (h : ∀ a w, K a w → K' a w) (hQ : ∀ e a w, e ≠ .normal → Q e a w → Q' e a w) (hh : o.wp P a w K Q) : o.wp P a w K' Q' := by
  unfold Oper.wp at *
  generalize (execOp a.eval o).run P w = r at *
  cases r with
  | ok n w' =>
    cases n <;> simp only [Oper.upon] at hh ⊢ <;>
      first
        | exact h _ _ hh
        | exact Calls.mono hh (fun e w'' he => by cases e <;> first | exact h _ _ he | exact hQ _ _ _ (by simp) he | exact he.imp fun _ => .imp fun _ => hQ _ _ _ (by simp))
        | exact Rows.mono hh (fun _ _ he => h _ _ he)
  | halt x w' => cases x <;> simp only [Oper.upon] at hh ⊢ <;> exact hQ _ _ _ (by simp) hh

theorem AOp.sound {i : Nat} {K : St → Prop} {σ : St} {c : Ctx} {a : Act} {w : World} (h : AOp P l i K σ) (hs : Sat c σ a w) (Q' : Exit → Act → World → Prop) {K' : Act → World → Prop} (hK : ∀ σ' a' w', K σ' → Sat c σ' a' w' → K' a' w') : wpOp P l.toArray Q' i K' a w := by
  unfold AOp at h
  unfold wpOp
  rw [List.getElem?_toArray]
  cases ho : l[i]? with
  | none => rw [ho] at h; exact hK σ a w h hs
  | some o =>
    rw [ho] at h
    have h1 := h c a w hs
    simp only [wpList] at h1
    have hnil : ∀ a' w', post c (fun e σ' => e = .normal ∧ K σ') .normal a' w' → K' a' w' := by
      rintro a' w' ⟨σ', ⟨_, h2⟩, h3⟩
      exact hK σ' a' w' h2 h3
    split at h1
    · rename_i hw
      simp only [hw, if_true]
      rcases h1 with h1 | ⟨_, a', w', σ', ⟨he, _⟩, _⟩
      · exact .inl (wp_both hnil (fun e a' w' hne ⟨σ', ⟨he, _⟩, _⟩ => absurd he hne) h1)
      · cases he
    · rename_i hw
      simp only [hw]
      exact hnil _ _ h1

theorem AD.sound {Q : Exit → St → Prop} : ∀ (fuel : Nat) (listed : Array Bool) (σ : St), AD P l Q fuel listed σ → ∀ c a w, Sat c σ a w → wpAny P .any l.toArray (post c Q) fuel listed a w
  | 0, _, σ, h, _, _, _, hs => ⟨h.1, σ, h.2, hs⟩
  | fuel + 1, _, σ, h, c, _, _, hs => ⟨fun h0 => ⟨σ, h.1 h0, hs⟩, fun i hi => (h.2 i hi).sound hs _ fun σ' a' w' h1 h2 => AD.sound fuel _ σ' h1 c a' w' h2⟩

theorem AW.orders {id : Nat} {σ : St} (hm : P.follows .mixedOrders = true) (h : AD P l Q l.length (Array.replicate l.length false) σ) : AW P (.region id l.toArray true) Q σ := by
  rintro c a w ⟨ρ, O, hs⟩
  refine wp_region_any hm ?_
  have := AD.sound _ _ σ h c a { w with drawn := w.drawn + 1 } ⟨ρ, O, sat_below hs ⟨rfl, rfl, rfl, Nat.le_refl _, fun _ _ => rfl⟩⟩
  simpa using this

/-- Which may come next: one by one. -/
def EachO (F : Nat → Prop) (rs : List Nat) : Nat → Prop
  | 0 => True
  | k + 1 => (k ∈ rs → F k) ∧ EachO F rs k
theorem EachO.zero {F : Nat → Prop} {rs : List Nat} : EachO F rs 0 := trivial
theorem EachO.no {F : Nat → Prop} {rs : List Nat} {k : Nat} (h0 : rs.contains k = false) (h : EachO F rs k) : EachO F rs (k + 1) := ⟨fun hm => by simp at h0; exact absurd hm h0, h⟩
theorem EachO.yes {F : Nat → Prop} {rs : List Nat} {k : Nat} (h1 : F k) (h : EachO F rs k) : EachO F rs (k + 1) := ⟨fun _ => h1, h⟩
theorem EachO.all {F : Nat → Prop} {rs : List Nat} : ∀ {n : Nat}, EachO F rs n → ∀ k ∈ rs, k < n → F k
  | 0, _, k, _, h => by omega
  | n + 1, h, k, hk, hl => by
    by_cases e : k = n
    · subst e; exact h.1 hk
    · exact h.2.all k hk (by omega)
theorem AD.step {fuel : Nat} {listed : Array Bool} {σ : St} (hne : (Region.ready .any l.toArray listed).isEmpty = false) (h : EachO (fun i => AOp P l i (AD P l Q fuel (listed.setIfInBounds i true)) σ) (Region.ready .any l.toArray listed) l.length) : AD P l Q (fuel + 1) listed σ := by
  refine And.intro (fun h0 => by rw [h0] at hne; cases hne) (fun i hi => EachO.all h i hi ?_)
  obtain ⟨_, o, ho, _⟩ := mem_ready.1 hi
  have := (Array.getElem?_eq_some_iff.1 ho).1
  simpa using this
theorem AD.done {listed : Array Bool} {σ : St} (hr : (Region.ready .any l.toArray listed).isEmpty = true) (h : Q .normal σ) : AD P l Q 0 listed σ := ⟨List.isEmpty_iff.1 hr, h⟩
theorem AOp.some {i : Nat} {o : Oper} {K : St → Prop} {σ : St} (ho : l[i]? = some o) (h : AL P l (fun e σ' => e = .normal ∧ K σ') [o] σ) : AOp P l i K σ := by
  unfold AOp
  rw [ho]
  exact h
end

end Go.AM
