/- A machine over pure data: part 80: calls that are handed variables, and blocks of any kind for good, and that hand back blocks of any kind. -/
import Derived.Test.YtagdffkagpeomaaAM79
set_option linter.unusedVariables false
set_option linter.unusedSimpArgs false
namespace Go.AM
open Go Go.RowKit

def v1 (m : List Id) (is : List Nat) : AV → AV
  | .ptr i off => .ptr (mpI m is i) off
  | .own i => .own (mpI m is i)
  | .bsl i n => .bsl (mpI m is i) n
  | .rptr i sz j f => .rptr (mpI m is i) sz j f
  | x => x
def k1 (p q : Nat) : AV → Bool
  | .ptr i _ => okI p q i
  | .own i => okI p q i
  | .bsl i _ => okI p q i
  | .rptr i _ _ _ => okI p q i
  | .d _ => true
  | .nilrow => true
  | .eptr _ => true
  | .junk => true
  | _ => false
def v2 (m : List Id) (is : List Nat) : AV → AV
  | .agg xs => .agg (xs.map (v1 m is))
  | .fn f xs => .fn f (xs.map (v1 m is))
  | x => v1 m is x
def k2 (p q : Nat) : AV → Bool
  | .agg xs => xs.all (k1 p q)
  | .fn _ xs => xs.all (k1 p q)
  | x => k1 p q x
def v3 (m : List Id) (is : List Nat) : AV → AV
  | .tup xs => .tup (xs.map (v2 m is))
  | x => v2 m is x
def k3 (p q : Nat) : AV → Bool
  | .tup xs => xs.all (k2 p q)
  | x => k2 p q x
def vB (m : List Id) (is : List Nat) : Blk → Blk
  | .box e cells => .box e (cells.map (v2 m is))
  | b => b
def kB (p q : Nat) : Blk → Bool
  | .box _ cells => cells.all (k2 p q)
  | _ => true

section
variable {ρ ρ' : Env} {O : Nat → Prop} {w : World} {m : List Id} {is : List Nat} {p q : Nat}
theorem v1_iff (h : ∀ i, okI p q i = true → ρ' i = ρ (mpI m is i)) {x : AV} (hx : k1 p q x = true) {v : Value} : VR ρ O w (v1 m is x) v ↔ VR ρ' O w x v := by
  cases x with
  | ptr i off =>
    have e := h i hx
    constructor
    · intro g; cases g with | ptr _ _ g hg => exact .ptr _ _ g (by rw [e]; exact hg)
    · intro g; cases g with | ptr _ _ g hg => exact .ptr _ _ g (by rw [← e]; exact hg)
  | own i =>
    have e := h i hx
    constructor
    · intro g; cases g with | own _ _ g h1 => exact .own _ _ (by rw [e]; exact g) h1
    · intro g; cases g with | own _ _ g h1 => exact .own _ _ (by rw [← e]; exact g) h1
  | bsl i n =>
    have e := h i hx
    constructor
    · intro g; cases g with | bsl _ _ g hg => exact .bsl _ _ g (by rw [e]; exact hg)
    · intro g; cases g with | bsl _ _ g hg => exact .bsl _ _ g (by rw [← e]; exact hg)
  | rptr i sz j f =>
    have e := h i hx
    constructor
    · intro g; cases g with | rptr _ _ _ _ g hg => exact .rptr _ _ _ _ g (by rw [e]; exact hg)
    · intro g; cases g with | rptr _ _ _ _ g hg => exact .rptr _ _ _ _ g (by rw [← e]; exact hg)
  | d y => exact ⟨fun h => by cases h with | d _ _ h => exact .d _ _ h, fun h => by cases h with | d _ _ h => exact .d _ _ h⟩
  | nilrow => exact ⟨fun h => by cases h; exact .nilrow, fun h => by cases h; exact .nilrow⟩
  | eptr r => exact ⟨fun h => by cases h with | eptr _ p u a b c d => exact .eptr _ p u a b c d, fun h => by cases h with | eptr _ p u a b c d => exact .eptr _ p u a b c d⟩
  | junk => exact ⟨fun _ => .junk v, fun _ => .junk v⟩
  | _ => simp [k1] at hx
theorem vl_iff {f : AV → AV} {g : AV → Bool} (h : ∀ x v, g x = true → (VR ρ O w (f x) v ↔ VR ρ' O w x v)) {xs : List AV} (hx : xs.all g = true) {vs : Array Value} :
    (∀ (k : Nat) x v, (xs.map f)[k]? = some x → vs[k]? = some v → VR ρ O w x v) ↔ ∀ (k : Nat) x v, xs[k]? = some x → vs[k]? = some v → VR ρ' O w x v := by
  constructor
  · intro q k x v hk hv
    exact (h x v (List.all_eq_true.1 hx x (List.mem_of_getElem? hk))).1 (q k _ v (by simp [hk]) hv)
  · intro q k x v hk hv
    rw [List.getElem?_map, Option.map_eq_some_iff] at hk
    obtain ⟨y, hy, rfl⟩ := hk
    exact (h y v (List.all_eq_true.1 hx y (List.mem_of_getElem? hy))).2 (q k y v hy hv)
theorem v2_iff (h : ∀ i, okI p q i = true → ρ' i = ρ (mpI m is i)) {x : AV} (hx : k2 p q x = true) {v : Value} : VR ρ O w (v2 m is x) v ↔ VR ρ' O w x v := by
  have hl := fun (x : AV) (v : Value) (hx : k1 p q x = true) => v1_iff (O := O) (w := w) h hx (v := v)
  cases x with
  | agg xs =>
    constructor
    · intro g; cases g with | agg _ vs hl' hc => exact .agg _ vs (by simpa using hl') ((vl_iff hl hx).1 hc)
    · intro g; cases g with | agg _ vs hl' hc => exact .agg _ vs (by simpa using hl') ((vl_iff hl hx).2 hc)
  | fn f xs =>
    constructor
    · intro g; cases g with | fn _ _ vs hl' hc => exact .fn _ _ vs (by simpa using hl') ((vl_iff hl hx).1 hc)
    · intro g; cases g with | fn _ _ vs hl' hc => exact .fn _ _ vs (by simpa using hl') ((vl_iff hl hx).2 hc)
  | ptr i off => exact v1_iff (x := .ptr i off) h hx
  | own i => exact v1_iff (x := .own i) h hx
  | d y => exact v1_iff (x := .d y) h hx
  | nilrow => exact v1_iff (x := .nilrow) h hx
  | eptr y => exact v1_iff (x := .eptr y) h hx
  | rptr i sz j f => exact v1_iff (x := .rptr i sz j f) h hx
  | sub i sz lo n full => exact v1_iff (x := .sub i sz lo n full) h hx
  | bsl i n => exact v1_iff (x := .bsl i n) h hx
  | tup xs => exact v1_iff (x := .tup xs) h hx
  | junk => exact v1_iff (x := .junk) h hx
theorem v3_iff (h : ∀ i, okI p q i = true → ρ' i = ρ (mpI m is i)) {x : AV} (hx : k3 p q x = true) {v : Value} : VR ρ O w (v3 m is x) v ↔ VR ρ' O w x v := by
  have hl := fun (x : AV) (v : Value) (hx : k2 p q x = true) => v2_iff (O := O) (w := w) h hx (v := v)
  cases x with
  | tup xs =>
    constructor
    · intro g; cases g with | tup _ vs hl' hc => exact .tup _ vs (by simpa using hl') ((vl_iff hl hx).1 hc)
    · intro g; cases g with | tup _ vs hl' hc => exact .tup _ vs (by simpa using hl') ((vl_iff hl hx).2 hc)
  | agg xs => exact v2_iff (x := .agg xs) h hx
  | fn f xs => exact v2_iff (x := .fn f xs) h hx
  | ptr i off => exact v2_iff (x := .ptr i off) h hx
  | own i => exact v2_iff (x := .own i) h hx
  | d y => exact v2_iff (x := .d y) h hx
  | nilrow => exact v2_iff (x := .nilrow) h hx
  | eptr y => exact v2_iff (x := .eptr y) h hx
  | rptr i sz j f => exact v2_iff (x := .rptr i sz j f) h hx
  | sub i sz lo n full => exact v2_iff (x := .sub i sz lo n full) h hx
  | bsl i n => exact v2_iff (x := .bsl i n) h hx
  | junk => exact v2_iff (x := .junk) h hx
theorem vB_iff (h : ∀ i, okI p q i = true → ρ' i = ρ (mpI m is i)) {b : Blk} (hb : kB p q b = true) {i i' : Id} (hi : ρ i = ρ' i') : BOK ρ O w i (vB m is b) ↔ BOK ρ' O w i' b := by
  cases b with
  | box e cells =>
    constructor
    · rintro ⟨g, vs, h1, h2, h3, h4⟩
      refine ⟨g, vs, by rw [← hi]; exact h1, h2, by simpa using h3, fun k x v hx hv => ⟨(v2_iff h (List.all_eq_true.1 hb x (List.mem_of_getElem? hx))).1 (h4 k (v2 m is x) v (by simp [hx]) hv).1, (h4 k (v2 m is x) v (by simp [hx]) hv).2⟩⟩
    · rintro ⟨g, vs, h1, h2, h3, h4⟩
      refine ⟨g, vs, by rw [hi]; exact h1, h2, by simpa using h3, fun k x v hx hv => ?_⟩
      rw [List.getElem?_map, Option.map_eq_some_iff] at hx
      obtain ⟨y, hy, rfl⟩ := hx
      exact ⟨(v2_iff h (List.all_eq_true.1 hb y (List.mem_of_getElem? hy))).2 (h4 k y v hy hv).1, (h4 k y v hy hv).2⟩
  | row e sz xs => exact ⟨fun g => blkC_bok (b := .row e sz xs) hi rfl g, fun g => blkC_bok (b := .row e sz xs) hi.symm rfl g⟩
  | iter s pos => exact ⟨fun g => blkC_bok (b := .iter s pos) hi rfl g, fun g => blkC_bok (b := .iter s pos) hi.symm rfl g⟩
  | mp es clock => exact ⟨fun g => blkC_bok (b := .mp es clock) hi rfl g, fun g => blkC_bok (b := .mp es clock) hi.symm rfl g⟩
  | mpr g0 es clock => exact ⟨fun g => blkC_bok (b := .mpr g0 es clock) hi rfl g, fun g => blkC_bok (b := .mpr g0 es clock) hi.symm rfl g⟩
  | gen p => exact ⟨fun g => blkC_bok (b := .gen p) hi rfl g, fun g => blkC_bok (b := .gen p) hi.symm rfl g⟩
  | rowc t sz xs L C => exact ⟨fun g => blkC_bok (b := .rowc t sz xs L C) hi rfl g, fun g => blkC_bok (b := .rowc t sz xs L C) hi.symm rfl g⟩
end

/-! ### contracts -/
def hv (Hp Hr : List Blk) : Id → Option Blk
  | .par k => Hp[k]?
  | .loc k => Hr[k]?
def blksH : Nat → List Blk → List (Nat × Option Blk)
  | _, [] => []
  | k, b :: l => (k, some b) :: blksH (k + 1) l
theorem lk_blksH (H : List (Nat × Option Blk)) : ∀ (l : List Blk) (k t : Nat), lk (blksH k l ++ H) t = if k ≤ t ∧ t < k + l.length then (l[t - k]?).map some else lk H t
  | [], k, t => by
    rw [if_neg (fun h => by have h1 := h.1; have h2 : t < k + 0 := h.2; omega)]
    rfl
  | b :: l, k, t => by
    simp only [blksH, List.cons_append]
    by_cases h : k = t
    · subst h
      rw [lk_cons_self, if_pos (by simp)]
      simp
    · rw [lk_cons_ne h, lk_blksH H l (k + 1) t]
      by_cases h1 : k + 1 ≤ t ∧ t < k + 1 + l.length
      · rw [if_pos h1, if_pos (by simp; omega)]
        rw [show t - k = (t - (k + 1)) + 1 by omega]
        rfl
      · rw [if_neg h1, if_neg (by simp; omega)]
structure IniV (c : Ctx) (args : List AV) (Hp Hg : List Blk) (vs : Array Value) (ρ : Env) : Prop where
  len : vs.size = args.length
  par : ∀ k, ρ (.par k) = c.ρp k
  fresh : ∀ k, Hg.length ≤ k → ρ (.loc k) = none
  args : ∀ (k : Nat) x v, args[k]? = some x → vs[k]? = some v → VR ρ (fun g => c.O0 g ∨ c.G g) c.w0 x v
  H : HS c ρ (fun g => c.O0 g ∨ c.G g) c.w0 (hv Hp Hg)
  wlt : ∀ k, c.W k → c.O0 k ∧ k < c.w0.heap.size
  olt : ∀ k, c.O0 k → k < c.w0.heap.size
  glt : ∀ k, c.G k → ¬ c.O0 k ∧ k < c.w0.heap.size
  df : c.dfr = []
structure FinV (c : Ctx) (r : AV) (Hp Hr : List Blk) (v : Value) (w : World) (ρ : Env) (O : Nat → Prop) : Prop where
  par : ∀ k, ρ (.par k) = c.ρp k
  fresh : ∀ k, Hr.length ≤ k → ρ (.loc k) = none
  H : HS c ρ O w (hv Hp Hr)
  F : Fr c O w
  r : VR ρ O w r v
/-- Handed the variables Hp, and the blocks Hg for good; it returns. -/
def ACallsV (P : Program) (f : FuncId) (args : List AV) (Hp Hg : List Blk) (R : AV → List Blk → List Blk → Prop) : Prop :=
  Callable P f ∧ ∀ c vs ρ, IniV c args Hp Hg vs ρ → Calls P f vs c.w0 fun e w' => ∃ r Hp' Hr v ρ O, R r Hp' Hr ∧ e = .returned v ∧ FinV c r Hp' Hr v w' ρ O
theorem ACallsV.mono {P : Program} {f : FuncId} {args : List AV} {Hp Hg : List Blk} {R R' : AV → List Blk → List Blk → Prop} (h : ACallsV P f args Hp Hg R) (hr : ∀ r Hp' Hr, R r Hp' Hr → R' r Hp' Hr) : ACallsV P f args Hp Hg R' :=
  ⟨h.1, fun c vs ρ hi => (h.2 c vs ρ hi).mono fun _ _ ⟨r, Hp', Hr, v, ρ, O, h1, h2⟩ => ⟨r, Hp', Hr, v, ρ, O, hr _ _ _ h1, h2⟩⟩

theorem hk_blksH (n : Nat) (T : List (Nat × AV)) (Hp Hg : List Blk) (clk : Nat) (i : Id) : hk ⟨n, T, blksH 0 Hg, Hp, clk⟩ i = hv Hp Hg i := by
  cases i with
  | par k => rfl
  | loc k =>
    have e := lk_blksH [] Hg 0 k
    simp only [List.append_nil] at e
    simp only [hk, e, hv]
    by_cases hk' : k < Hg.length
    · rw [if_pos (by omega)]
      simp [hk']
    · rw [if_neg (by omega)]
      simp [lk, List.getElem?_eq_none (Nat.not_lt.1 hk')]
theorem iniv_sat {c : Ctx} {args : List AV} {Hp Hg : List Blk} {vs : Array Value} {ρ : Env} (h : IniV c args Hp Hg vs ρ) (n : Nat) (hn : args.length ≤ n) :
    SatAt c ⟨n, argT 0 args, blksH 0 Hg, Hp, Hg.length⟩ { tmps := vs ++ Array.replicate (n - vs.size) undef, defers := [] } c.w0 ρ (fun g => c.O0 g ∨ c.G g) := by
  have hl := h.len
  have hH : HS c ρ (fun g => c.O0 g ∨ c.G g) c.w0 (hk ⟨n, argT 0 args, blksH 0 Hg, Hp, Hg.length⟩) := by
    rw [show hk ⟨n, argT 0 args, blksH 0 Hg, Hp, Hg.length⟩ = hv Hp Hg from funext (hk_blksH n _ Hp Hg _)]
    exact h.H
  refine ⟨h.df.symm, by simp; omega, h.par, h.fresh, fun t x ht => ?_, hH, ⟨rfl, rfl, rfl, Nat.le_refl _, fun _ _ _ _ => rfl, fun _ h => .inl h, fun k hk => hk.imp id .inr, h.wlt, fun k hk => hk.elim (h.olt k) (fun hk => (h.glt k hk).2), h.olt, h.glt⟩⟩
  obtain ⟨_, h2⟩ := lk_argT args 0 t ht
  simp only [Nat.sub_zero] at h2
  have hlt : t < vs.size := by rw [hl]; exact (List.getElem?_eq_some_iff.1 h2).1
  refine ⟨vs[t], ?_, h.args t x _ h2 (by simp [hlt])⟩
  simp [Array.getElem?_append, hlt]

/-- What a call leaves: the result, the variables that it was handed, the blocks that it hands back (mm tells which). -/
structure OutV (σ : St) (R : List Blk → List Blk → Prop) (Hp' Hr : List Blk) (mm : List Nat) : Prop where
  post : R Hp' Hr
  nodup : mm.Nodup
  rows : mm.map (fun j => hk σ (.loc j)) = Hr.map fun b => some (vB [] mm b)
  hp : σ.Hp = Hp'.map (vB [] mm)
  ok : Hp'.all (kB Hp'.length mm.length) = true
  okr : Hr.all (kB Hp'.length mm.length) = true
theorem outV_fin {c : Ctx} {σ : St} {a : Act} {w : World} {ρ : Env} {O : Nat → Prop} (hs' : SatAt c σ a w ρ O) {R : List Blk → List Blk → Prop} {Hp' Hr : List Blk} {mm : List Nat} (ho : OutV σ R Hp' Hr mm) {r : AV} {v : Value} (hr : VR (envO c ρ mm) O w r v) :
    FinV c r Hp' Hr v w (envO c ρ mm) O := by
  have hlen : mm.length = Hr.length := by have := congrArg List.length ho.rows; simpa using this
  have heq : ∀ i, okI Hp'.length mm.length i = true → envO c ρ mm i = ρ (mpI [] mm i) := envO_eq hs'.par mm
  have hhk : ∀ i b, hv Hp' Hr i = some b → (∃ k, i = .par k ∧ hk σ (.par k) = some (vB [] mm b) ∧ kB Hp'.length mm.length b = true) ∨ ∃ k j, i = .loc k ∧ mm[k]? = some j ∧ hk σ (.loc j) = some (vB [] mm b) ∧ kB Hp'.length mm.length b = true := by
    intro i b hb'
    cases i with
    | par k =>
      have hb' : Hp'[k]? = some b := hb'
      refine .inl ⟨k, rfl, ?_, List.all_eq_true.1 ho.ok b (List.mem_of_getElem? hb')⟩
      show σ.Hp[k]? = _
      rw [ho.hp, List.getElem?_map, hb']
      rfl
    | loc k =>
      have hb' : Hr[k]? = some b := hb'
      have e := congrArg (fun l => l[k]?) ho.rows
      simp only [List.getElem?_map, hb', Option.map_some] at e
      obtain ⟨j, e1, e2⟩ := Option.map_eq_some_iff.1 e
      exact .inr ⟨k, j, rfl, e1, e2, List.all_eq_true.1 ho.okr b (List.mem_of_getElem? hb')⟩
  have hblk : ∀ i b g, hv Hp' Hr i = some b → (envO c ρ mm i).bind vblk = some g → ∃ i' b', hk σ i' = some b' ∧ (ρ i').bind vblk = some g ∧ ((∃ k, i = .par k ∧ i' = .par k) ∨ ∃ k j, i = .loc k ∧ i' = .loc j ∧ mm[k]? = some j) := by
    intro i b g hb' hg
    rcases hhk i b hb' with ⟨k, rfl, h2, _⟩ | ⟨k, j, rfl, h1, h4, _⟩
    · exact ⟨.par k, _, h2, by rw [hs'.par]; exact hg, .inl ⟨k, rfl, rfl⟩⟩
    · refine ⟨.loc j, _, h4, ?_, .inr ⟨k, j, rfl, rfl, h1⟩⟩
      simpa only [envO, h1] using hg
  refine ⟨fun _ => rfl, fun k hk' => ?_, ⟨fun i b hb' => ?_, fun i b g hb' hg => ?_, fun i j bi bj g hbi hbj hgi hgj => ?_⟩, hs'.F, hr⟩
  · have : mm[k]? = none := by rw [List.getElem?_eq_none]; rw [hlen]; exact hk'
    simp only [envO, this]
  · rcases hhk i b hb' with ⟨k, rfl, h2, h3⟩ | ⟨k, j, rfl, h1, h4, h3⟩
    · exact (vB_iff (ρ := ρ) (m := []) (is := mm) heq h3 (i := .par k) (i' := .par k) (hs'.par k)).1 (hs'.H.ok (.par k) _ h2)
    · exact (vB_iff (ρ := ρ) (m := []) (is := mm) heq h3 (i := .loc j) (i' := .loc k) (by simp only [envO, h1])).1 (hs'.H.ok (.loc j) _ h4)
  · obtain ⟨i', b', h1, h2, h3⟩ := hblk i b g hb' hg
    obtain ⟨e1, e2, e3⟩ := hs'.H.own i' b' g h1 h2
    refine ⟨e1, e2, ?_⟩
    rcases h3 with ⟨k, rfl, rfl⟩ | ⟨k, j, rfl, rfl, _⟩
    · exact e3
    · exact e3
  · obtain ⟨i', bi', a1, a2, a3⟩ := hblk i bi g hbi hgi
    obtain ⟨j', bj', b1, b2, b3⟩ := hblk j bj g hbj hgj
    have := hs'.H.inj i' j' bi' bj' g a1 b1 a2 b2
    subst this
    rcases a3 with ⟨k, rfl, e1⟩ | ⟨k, x, rfl, e1, e2⟩ <;> rcases b3 with ⟨k', rfl, e3⟩ | ⟨k', x', rfl, e3, e4⟩
    · rw [e1] at e3; injection e3 with e3; rw [e3]
    · rw [e1] at e3; cases e3
    · rw [e1] at e3; cases e3
    · rw [e1] at e3
      injection e3 with e3
      subst e3
      congr 1
      have hk1 : k < mm.length := (List.getElem?_eq_some_iff.1 e2).1
      exact (List.getElem?_inj hk1 ho.nodup).1 (e2.trans e4.symm)
def retV (ts : List (Nat × TI)) (rs : List ResultVar) (R : AV → List Blk → List Blk → Prop) : Exit → St → Prop
  | .normal, σ => ∃ rf r Hp' Hr mm, ares ts rs σ = some rf ∧ v3 [] mm r = rf ∧ k3 Hp'.length mm.length r = true ∧ OutV σ (R r) Hp' Hr mm
  | .ret, σ => ∃ rf r Hp' Hr mm, ares ts rs σ = some rf ∧ v3 [] mm r = rf ∧ k3 Hp'.length mm.length r = true ∧ OutV σ (R r) Hp' Hr mm
  | _, _ => False
theorem ACallsV.body {P : Program} {ts : List (Nat × TI)} (hT : TOK P ts) {f : FuncId} {fn : Func} {code : Code} {args : List AV} {Hp Hg : List Blk} {R : AV → List Blk → List Blk → Prop}
    (hf : P.funcs[f]? = some fn) (hb : fn.body = some code) (hname : (fn.name == "runtime.NumGoroutine") = false) (hn : args.length ≤ fn.ntmps)
    (h : AW P code (retV ts fn.results.toList R) ⟨fn.ntmps, argT 0 args, blksH 0 Hg, Hp, Hg.length⟩) : ACallsV P f args Hp Hg R := by
  refine ⟨⟨fn, hf, hname, by rw [hb]; rfl⟩, fun c vs ρ hi => ?_⟩
  have hs := iniv_sat hi fn.ntmps hn
  refine calls_of_wp hf hb (wp_mono (h c _ _ ⟨_, _, hs⟩) ?_)
  have fin : ∀ a w σ, (∃ rf r Hp' Hr mm, ares ts fn.results.toList σ = some rf ∧ v3 [] mm r = rf ∧ k3 Hp'.length mm.length r = true ∧ OutV σ (R r) Hp' Hr mm) → Sat c σ a w →
      a.defers = [] ∧ ∃ v, (results fn a.tmps).run P w = .ok v w ∧ ∃ r Hp' Hr v' ρ O, R r Hp' Hr ∧ Ending.returned v = .returned v' ∧ FinV c r Hp' Hr v' w ρ O := by
    rintro a w σ ⟨rf, r, Hp', Hr, mm, h1, h2, h3, h4⟩ ⟨ρ', O', hs'⟩
    obtain ⟨v, e1, e2⟩ := ares_sound hT hs' h1
    rw [← h2] at e2
    exact ⟨hs'.defers.trans hi.df, v, e1, r, Hp', Hr, v, _, O', h4.post, rfl, outV_fin hs' h4 ((v3_iff (ρ := ρ') (envO_eq hs'.par mm) h3).1 e2)⟩
  rintro e a w ⟨σ, hq, hs'⟩
  cases e with
  | normal => exact fin a w σ hq hs'
  | ret => exact fin a w σ hq hs'
  | exit id => exact hq.elim
  | goto l => exact hq.elim
  | panic ch => exact hq.elim
  | outgrown => exact hq.elim
end Go.AM
