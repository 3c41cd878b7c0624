/- A machine over pure data: part 66: calls that are handed variables, and rows for good, which the variables mention; calls that panic. -/
import Derived.Test.YtagdffkagpeomaaAM65
set_option linter.unusedVariables false
set_option linter.unusedSimpArgs false
namespace Go.AM
open Go Go.RowKit

def mpI (m : List Id) (is : List Nat) : Id → Id
  | .par k => m.getD k (.par k)
  | .loc k => .loc (is.getD k 0)
def okI (p q : Nat) : Id → Bool
  | .par k => Nat.blt k p
  | .loc k => Nat.blt k q
def mp1 (m : List Id) (is : List Nat) : AV → AV
  | .ptr i off => .ptr (mpI m is i) off
  | .own i => .own (mpI m is i)
  | x => x
def okm1 (p q : Nat) : AV → Bool
  | .ptr i _ => okI p q i
  | .own i => okI p q i
  | .d _ => true
  | .nilrow => true
  | .eptr _ => true
  | .junk => true
  | _ => false
def mp2 (m : List Id) (is : List Nat) : AV → AV
  | .agg xs => .agg (xs.map (mp1 m is))
  | .tup xs => .tup (xs.map (mp1 m is))
  | .fn f xs => .fn f (xs.map (mp1 m is))
  | x => mp1 m is x
def okm2 (p q : Nat) : AV → Bool
  | .agg xs => xs.all (okm1 p q)
  | .tup xs => xs.all (okm1 p q)
  | .fn _ xs => xs.all (okm1 p q)
  | x => okm1 p q x
def mpB (m : List Id) (is : List Nat) : Blk → Blk
  | .box e cells => .box e (cells.map (mp1 m is))
  | b => b
def okmB (p q : Nat) : Blk → Bool
  | .box _ cells => cells.all (okm1 p q)
  | _ => true

section
variable {ρ ρ' : Env} {O : Nat → Prop} {w : World} {m : List Id} {is : List Nat} {p q : Nat}
theorem mp1_iff (h : ∀ i, okI p q i = true → ρ' i = ρ (mpI m is i)) {x : AV} (hx : okm1 p q x = true) {v : Value} : VR ρ O w (mp1 m is x) v ↔ VR ρ' O w x v := by
  cases x with
  | ptr i off =>
    have e := h i hx
    constructor
    · intro g; cases g with | ptr _ _ g hg => exact .ptr _ _ g (by rw [e]; exact hg)
    · intro g; cases g with | ptr _ _ g hg => exact .ptr _ _ g (by rw [← e]; exact hg)
  | own i =>
    have e := h i hx
    constructor
    · intro g; cases g with | own _ _ g h1 => exact .own _ _ (by rw [e]; exact g) h1
    · intro g; cases g with | own _ _ g h1 => exact .own _ _ (by rw [← e]; exact g) h1
  | d y => exact ⟨fun h => by cases h with | d _ _ h => exact .d _ _ h, fun h => by cases h with | d _ _ h => exact .d _ _ h⟩
  | nilrow => exact ⟨fun h => by cases h; exact .nilrow, fun h => by cases h; exact .nilrow⟩
  | eptr r => exact ⟨fun h => by cases h with | eptr _ p u a b c d => exact .eptr _ p u a b c d, fun h => by cases h with | eptr _ p u a b c d => exact .eptr _ p u a b c d⟩
  | junk => exact ⟨fun _ => .junk v, fun _ => .junk v⟩
  | _ => simp [okm1] at hx
theorem mpl_iff (h : ∀ i, okI p q i = true → ρ' i = ρ (mpI m is i)) {xs : List AV} (hx : xs.all (okm1 p q) = true) {vs : Array Value} :
    (∀ (k : Nat) x v, (xs.map (mp1 m is))[k]? = some x → vs[k]? = some v → VR ρ O w x v) ↔ ∀ (k : Nat) x v, xs[k]? = some x → vs[k]? = some v → VR ρ' O w x v := by
  constructor
  · intro g k x v hk hv
    exact (mp1_iff h (List.all_eq_true.1 hx x (List.mem_of_getElem? hk))).1 (g k _ v (by simp [hk]) hv)
  · intro g k x v hk hv
    rw [List.getElem?_map, Option.map_eq_some_iff] at hk
    obtain ⟨y, hy, rfl⟩ := hk
    exact (mp1_iff h (List.all_eq_true.1 hx y (List.mem_of_getElem? hy))).2 (g k y v hy hv)
theorem mp2_iff (h : ∀ i, okI p q i = true → ρ' i = ρ (mpI m is i)) {x : AV} (hx : okm2 p q x = true) {v : Value} : VR ρ O w (mp2 m is x) v ↔ VR ρ' O w x v := by
  cases x with
  | agg xs =>
    constructor
    · intro g; cases g with | agg _ vs hl hc => exact .agg _ vs (by simpa using hl) ((mpl_iff h hx).1 hc)
    · intro g; cases g with | agg _ vs hl hc => exact .agg _ vs (by simpa using hl) ((mpl_iff h hx).2 hc)
  | tup xs =>
    constructor
    · intro g; cases g with | tup _ vs hl hc => exact .tup _ vs (by simpa using hl) ((mpl_iff h hx).1 hc)
    · intro g; cases g with | tup _ vs hl hc => exact .tup _ vs (by simpa using hl) ((mpl_iff h hx).2 hc)
  | fn f xs =>
    constructor
    · intro g; cases g with | fn _ _ vs hl hc => exact .fn _ _ vs (by simpa using hl) ((mpl_iff h hx).1 hc)
    · intro g; cases g with | fn _ _ vs hl hc => exact .fn _ _ vs (by simpa using hl) ((mpl_iff h hx).2 hc)
  | ptr i off => exact mp1_iff (x := .ptr i off) h hx
  | own i => exact mp1_iff (x := .own i) h hx
  | d y => exact mp1_iff (x := .d y) h hx
  | nilrow => exact mp1_iff (x := .nilrow) h hx
  | eptr y => exact mp1_iff (x := .eptr y) h hx
  | rptr i sz j f => exact mp1_iff (x := .rptr i sz j f) h hx
  | sub i sz lo n full => exact mp1_iff (x := .sub i sz lo n full) h hx
  | bsl i n => exact mp1_iff (x := .bsl i n) h hx
  | junk => exact mp1_iff (x := .junk) h hx
theorem mpB_iff (h : ∀ i, okI p q i = true → ρ' i = ρ (mpI m is i)) {b : Blk} (hb : okmB p q b = true) {i i' : Id} (hi : ρ i = ρ' i') : BOK ρ O w i (mpB m is b) ↔ BOK ρ' O w i' b := by
  cases b with
  | box e cells =>
    constructor
    · rintro ⟨g, vs, h1, h2, h3, h4⟩
      refine ⟨g, vs, by rw [← hi]; exact h1, h2, by simpa using h3, fun k x v hx hv => ⟨(mp1_iff h (List.all_eq_true.1 hb x (List.mem_of_getElem? hx))).1 (h4 k (mp1 m is x) v (by simp [hx]) hv).1, (h4 k (mp1 m is x) v (by simp [hx]) hv).2⟩⟩
    · rintro ⟨g, vs, h1, h2, h3, h4⟩
      refine ⟨g, vs, by rw [hi]; exact h1, h2, by simpa using h3, fun k x v hx hv => ?_⟩
      rw [List.getElem?_map, Option.map_eq_some_iff] at hx
      obtain ⟨y, hy, rfl⟩ := hx
      exact ⟨(mp1_iff h (List.all_eq_true.1 hb y (List.mem_of_getElem? hy))).2 (h4 k y v hy hv).1, (h4 k y v hy hv).2⟩
  | row e sz xs => exact ⟨fun g => blkC_bok (b := .row e sz xs) hi rfl g, fun g => blkC_bok (b := .row e sz xs) hi.symm rfl g⟩
  | iter s pos => exact ⟨fun g => blkC_bok (b := .iter s pos) hi rfl g, fun g => blkC_bok (b := .iter s pos) hi.symm rfl g⟩
  | mp es clock => exact ⟨fun g => blkC_bok (b := .mp es clock) hi rfl g, fun g => blkC_bok (b := .mp es clock) hi.symm rfl g⟩
  | mpr g0 es clock => exact ⟨fun g => blkC_bok (b := .mpr g0 es clock) hi rfl g, fun g => blkC_bok (b := .mpr g0 es clock) hi.symm rfl g⟩
  | gen p => exact ⟨fun g => blkC_bok (b := .gen p) hi rfl g, fun g => blkC_bok (b := .gen p) hi.symm rfl g⟩
  | rowc t sz xs L C => exact ⟨fun g => blkC_bok (b := .rowc t sz xs L C) hi rfl g, fun g => blkC_bok (b := .rowc t sz xs L C) hi.symm rfl g⟩
end

/-! ### contracts -/
structure IniX (c : Ctx) (args : List AV) (Hp : List Blk) (Hg : List Rw) (vs : Array Value) (ρ : Env) : Prop where
  len : vs.size = args.length
  par : ∀ k, ρ (.par k) = c.ρp k
  fresh : ∀ k, Hg.length ≤ k → ρ (.loc k) = none
  args : ∀ (k : Nat) x v, args[k]? = some x → vs[k]? = some v → VR ρ (fun g => c.O0 g ∨ c.G g) c.w0 x v
  H : HS c ρ (fun g => c.O0 g ∨ c.G g) c.w0 (hk (finS Hp Hg))
  wlt : ∀ k, c.W k → c.O0 k ∧ k < c.w0.heap.size
  olt : ∀ k, c.O0 k → k < c.w0.heap.size
  glt : ∀ k, c.G k → ¬ c.O0 k ∧ k < c.w0.heap.size
  df : c.dfr = []
/-- Handed the variables Hp, and the rows Hg for good; it returns. -/
def ACallsX (P : Program) (f : FuncId) (args : List AV) (Hp : List Blk) (Hg : List Rw) (R : AV → List Blk → List Rw → Prop) : Prop :=
  Callable P f ∧ ∀ c vs ρ, IniX c args Hp Hg vs ρ → Calls P f vs c.w0 fun e w' => ∃ r Hp' Hr v ρ O, R r Hp' Hr ∧ e = .returned v ∧ FinAt c r Hp' Hr v w' ρ O
/-- The same; it panics. -/
def ACallsXP (P : Program) (f : FuncId) (args : List AV) (Hp : List Blk) (Hg : List Rw) (ch : List PanicEntry) (R : List Blk → List Rw → Prop) : Prop :=
  Callable P f ∧ ∀ c vs ρ, IniX c args Hp Hg vs ρ → Calls P f vs c.w0 fun e w' => ∃ Hp' Hr v ρ O, R Hp' Hr ∧ e = .panicked ch ∧ FinAt c .junk Hp' Hr v w' ρ O

theorem inix_sat {c : Ctx} {args : List AV} {Hp : List Blk} {Hg : List Rw} {vs : Array Value} {ρ : Env} (h : IniX c args Hp Hg vs ρ) (n : Nat) (hn : args.length ≤ n) :
    SatAt c ⟨n, argT 0 args, rowsH 0 Hg, Hp, Hg.length⟩ { tmps := vs ++ Array.replicate (n - vs.size) undef, defers := [] } c.w0 ρ (fun g => c.O0 g ∨ c.G g) := by
  have hl := h.len
  refine ⟨h.df.symm, by simp; omega, h.par, h.fresh, fun t x ht => ?_, h.H, ⟨rfl, rfl, rfl, Nat.le_refl _, fun _ _ _ _ => rfl, fun _ h => .inl h, fun k hk => hk.imp id .inr, h.wlt, fun k hk => hk.elim (h.olt k) (fun hk => (h.glt k hk).2), h.olt, h.glt⟩⟩
  obtain ⟨_, h2⟩ := lk_argT args 0 t ht
  simp only [Nat.sub_zero] at h2
  have hlt : t < vs.size := by rw [hl]; exact (List.getElem?_eq_some_iff.1 h2).1
  refine ⟨vs[t], ?_, h.args t x _ h2 (by simp [hlt])⟩
  simp [Array.getElem?_append, hlt]

/-- What a call leaves: the result, the variables that it was handed, the rows that it hands back (mm tells which). -/
structure OutX (σ : St) (R : List Blk → List Rw → Prop) (Hp' : List Blk) (Hr : List Rw) (mm : List Nat) : Prop where
  post : R Hp' Hr
  len : Hr.length = mm.length
  nodup : mm.Nodup
  rows : ∀ (k j : Nat) rw, mm[k]? = some j → Hr[k]? = some rw → hk σ (.loc j) = some rw.blk
  hp : σ.Hp = Hp'.map (mpB [] mm)
  ok : Hp'.all (okmB Hp'.length mm.length) = true
def envO (c : Ctx) (ρ : Env) (mm : List Nat) : Env
  | .par k => c.ρp k
  | .loc k => match mm[k]? with
    | some j => ρ (.loc j)
    | none => none
theorem envO_eq {c : Ctx} {ρ : Env} (hp : ∀ k, ρ (.par k) = c.ρp k) (mm : List Nat) {p : Nat} : ∀ i, okI p mm.length i = true → envO c ρ mm i = ρ (mpI [] mm i) := by
  intro i hi
  cases i with
  | par k => exact (hp k).symm
  | loc k =>
    have hk : k < mm.length := by simpa [okI] using hi
    simp [envO, mpI, hk]
theorem outX_fin {c : Ctx} {σ : St} {a : Act} {w : World} {ρ : Env} {O : Nat → Prop} (hs' : SatAt c σ a w ρ O) {R : List Blk → List Rw → Prop} {Hp' : List Blk} {Hr : List Rw} {mm : List Nat} (ho : OutX σ R Hp' Hr mm) {r : AV} {v : Value} (hr : VR (envO c ρ mm) O w r v) :
    FinAt c r Hp' Hr v w (envO c ρ mm) O := by
  have heq : ∀ i, okI Hp'.length mm.length i = true → envO c ρ mm i = ρ (mpI [] mm i) := envO_eq hs'.par mm
  have hhk : ∀ i b, hk (finS Hp' Hr) i = some b → (∃ k, i = .par k ∧ Hp'[k]? = some b ∧ hk σ (.par k) = some (mpB [] mm b) ∧ okmB Hp'.length mm.length b = true) ∨ ∃ k j rw, i = .loc k ∧ mm[k]? = some j ∧ Hr[k]? = some rw ∧ b = rw.blk ∧ hk σ (.loc j) = some b := by
    intro i b hb'
    cases i with
    | par k =>
      have hb' : Hp'[k]? = some b := hb'
      refine .inl ⟨k, rfl, hb', ?_, List.all_eq_true.1 ho.ok b (List.mem_of_getElem? hb')⟩
      show σ.Hp[k]? = _
      rw [ho.hp, List.getElem?_map, hb']
      rfl
    | loc k =>
      have e := lk_rowsH [] Hr 0 k
      simp only [List.append_nil] at e
      simp only [finS, hk, e] at hb'
      by_cases hk' : k < Hr.length
      · rw [if_pos (by omega)] at hb'
        simp [hk'] at hb'
        have hkm : k < mm.length := by rw [← ho.len]; exact hk'
        refine .inr ⟨k, mm[k], Hr[k], rfl, by simp [hkm], by simp [hk'], hb'.symm, ?_⟩
        rw [← hb']
        exact ho.rows k _ _ (by simp [hkm]) (by simp [hk'])
      · rw [if_neg (by omega)] at hb'
        simp [lk] at hb'
  have hblk : ∀ i b g, hk (finS Hp' Hr) i = some b → (envO c ρ mm i).bind vblk = some g → ∃ i' b', hk σ i' = some b' ∧ (ρ i').bind vblk = some g ∧ ((∃ k, i = .par k ∧ i' = .par k) ∨ ∃ k j, i = .loc k ∧ i' = .loc j ∧ mm[k]? = some j) := by
    intro i b g hb' hg
    rcases hhk i b hb' with ⟨k, rfl, h1, h2, _⟩ | ⟨k, j, rw', rfl, h1, h2, h3, h4⟩
    · exact ⟨.par k, _, h2, by rw [hs'.par]; exact hg, .inl ⟨k, rfl, rfl⟩⟩
    · refine ⟨.loc j, b, h4, ?_, .inr ⟨k, j, rfl, rfl, h1⟩⟩
      simpa only [envO, h1] using hg
  refine ⟨fun _ => rfl, fun k hk' => ?_, ⟨fun i b hb' => ?_, fun i b g hb' hg => ?_, fun i j bi bj g hbi hbj hgi hgj => ?_⟩, hs'.F, hr⟩
  · have : mm[k]? = none := by rw [List.getElem?_eq_none]; rw [← ho.len]; exact hk'
    simp only [envO, this]
  · rcases hhk i b hb' with ⟨k, rfl, h1, h2, h3⟩ | ⟨k, j, rw', rfl, h1, h2, h3, h4⟩
    · exact (mpB_iff (ρ := ρ) (m := []) (is := mm) heq h3 (i := .par k) (i' := .par k) (hs'.par k)).1 (hs'.H.ok (.par k) _ h2)
    · have := hs'.H.ok (.loc j) b h4
      subst h3
      exact LFB.bok (ρ := ρ) hs'.par (by simp only [envO, h1]) trivial this
  · obtain ⟨i', b', h1, h2, h3⟩ := hblk i b g hb' hg
    obtain ⟨e1, e2, e3⟩ := hs'.H.own i' b' g h1 h2
    refine ⟨e1, e2, ?_⟩
    rcases h3 with ⟨k, rfl, rfl⟩ | ⟨k, j, rfl, rfl, _⟩
    · exact e3
    · exact e3
  · obtain ⟨i', bi', a1, a2, a3⟩ := hblk i bi g hbi hgi
    obtain ⟨j', bj', b1, b2, b3⟩ := hblk j bj g hbj hgj
    have := hs'.H.inj i' j' bi' bj' g a1 b1 a2 b2
    subst this
    rcases a3 with ⟨k, rfl, e1⟩ | ⟨k, x, rfl, e1, e2⟩ <;> rcases b3 with ⟨k', rfl, e3⟩ | ⟨k', x', rfl, e3, e4⟩
    · rw [e1] at e3; injection e3 with e3; rw [e3]
    · rw [e1] at e3; cases e3
    · rw [e1] at e3; cases e3
    · rw [e1] at e3
      injection e3 with e3
      subst e3
      congr 1
      have hk1 : k < mm.length := (List.getElem?_eq_some_iff.1 e2).1
      exact (List.getElem?_inj hk1 ho.nodup).1 (e2.trans e4.symm)

/-- The ways out: it returns, as R says, or panics, as RP says. -/
def retX (ts : List (Nat × TI)) (rs : List ResultVar) (R : AV → List Blk → List Rw → Prop) (RP : List PanicEntry → List Blk → List Rw → Prop) : Exit → St → Prop
  | .normal, σ => ∃ rf r Hp' Hr mm, ares ts rs σ = some rf ∧ mp2 [] mm r = rf ∧ okm2 Hp'.length mm.length r = true ∧ OutX σ (R r) Hp' Hr mm
  | .ret, σ => ∃ rf r Hp' Hr mm, ares ts rs σ = some rf ∧ mp2 [] mm r = rf ∧ okm2 Hp'.length mm.length r = true ∧ OutX σ (R r) Hp' Hr mm
  | .panic ch, σ => ∃ Hp' Hr mm, OutX σ (RP ch) Hp' Hr mm
  | _, _ => False
/-- What comes of a body, its deferred calls left aside. -/
theorem retX_fin {P : Program} {ts : List (Nat × TI)} (hT : TOK P ts) {fn : Func} {c : Ctx} {σ : St} {a : Act} {w : World} {R : AV → List Blk → List Rw → Prop} (hs : Sat c σ a w) (h : ∃ rf r Hp' Hr mm, ares ts fn.results.toList σ = some rf ∧ mp2 [] mm r = rf ∧ okm2 Hp'.length mm.length r = true ∧ OutX σ (R r) Hp' Hr mm) :
    ∃ v, (results fn a.tmps).run P w = .ok v w ∧ ∃ r Hp' Hr ρ O, R r Hp' Hr ∧ FinAt c r Hp' Hr v w ρ O := by
  obtain ⟨rf, r, Hp', Hr, mm, h1, h2, h3, h4⟩ := h
  obtain ⟨ρ, O, hs'⟩ := hs
  obtain ⟨v, e1, e2⟩ := ares_sound hT hs' h1
  refine ⟨v, e1, r, Hp', Hr, _, O, h4.post, outX_fin hs' h4 ?_⟩
  rw [← h2] at e2
  exact (mp2_iff (ρ := ρ) (envO_eq hs'.par mm) h3).1 e2
theorem ACallsX.body {P : Program} {ts : List (Nat × TI)} (hT : TOK P ts) {f : FuncId} {fn : Func} {code : Code} {args : List AV} {Hp : List Blk} {Hg : List Rw} {R : AV → List Blk → List Rw → Prop}
    (hf : P.funcs[f]? = some fn) (hb : fn.body = some code) (hname : (fn.name == "runtime.NumGoroutine") = false) (hn : args.length ≤ fn.ntmps)
    (h : AW P code (retX ts fn.results.toList R fun _ _ _ => False) ⟨fn.ntmps, argT 0 args, rowsH 0 Hg, Hp, Hg.length⟩) : ACallsX P f args Hp Hg R := by
  refine ⟨⟨fn, hf, hname, by rw [hb]; rfl⟩, fun c vs ρ hi => ?_⟩
  have hs := inix_sat hi fn.ntmps hn
  refine calls_of_wp hf hb (wp_mono (h c _ _ ⟨_, _, hs⟩) ?_)
  have fin : ∀ a w σ, (∃ rf r Hp' Hr mm, ares ts fn.results.toList σ = some rf ∧ mp2 [] mm r = rf ∧ okm2 Hp'.length mm.length r = true ∧ OutX σ (R r) Hp' Hr mm) → Sat c σ a w →
      a.defers = [] ∧ ∃ v, (results fn a.tmps).run P w = .ok v w ∧ ∃ r Hp' Hr v' ρ O, R r Hp' Hr ∧ Ending.returned v = .returned v' ∧ FinAt c r Hp' Hr v' w ρ O := by
    intro a w σ hq hs'
    obtain ⟨v, h1, r, Hp', Hr, ρ, O, h2, h3⟩ := retX_fin hT hs' hq
    obtain ⟨ρ', O', hs''⟩ := hs'
    exact ⟨hs''.defers.trans hi.df, v, h1, r, Hp', Hr, v, ρ, O, h2, rfl, h3⟩
  rintro e a w ⟨σ, hq, hs'⟩
  cases e with
  | normal => exact fin a w σ hq hs'
  | ret => exact fin a w σ hq hs'
  | exit id => exact hq.elim
  | goto l => exact hq.elim
  | panic ch => obtain ⟨_, _, _, h⟩ := hq; exact h.post.elim
  | outgrown => exact hq.elim
end Go.AM
