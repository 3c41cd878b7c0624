/- A machine over pure data: part 9: contracts over pure data; a function's body; calls. -/
import Derived.Test.YtpohebmofcdeiaaAM8
import Derived.Conc.MuLone
namespace Go.AM
open Go Go.RowKit

/-- A row of the call's own that is handed back. -/
structure Rw where
  e : TypeId
  sz : Nat
  xs : List (List D)
def Rw.blk (r : Rw) : Blk := .row r.e r.sz r.xs

def rowsH : Nat → List Rw → List (Nat × Option Blk)
  | _, [] => []
  | k, r :: rs => (k, some r.blk) :: rowsH (k + 1) rs

theorem lk_rowsH (H : List (Nat × Option Blk)) : ∀ (rs : List Rw) (k0 k : Nat), lk (rowsH k0 rs ++ H) k = if k0 ≤ k ∧ k < k0 + rs.length then (rs[k - k0]?).map (fun r => some r.blk) else lk H k
  | [], k0, k => by simp [rowsH]; intro h1 h2; omega
  | r :: rs, k0, k => by
    simp only [rowsH, List.cons_append, List.length_cons]
    by_cases h : k0 = k
    · subst h
      rw [lk_cons_self, if_pos (by omega)]
      simp
    · rw [lk_cons_ne h, lk_rowsH H rs (k0 + 1) k]
      by_cases h2 : k0 + 1 ≤ k ∧ k < k0 + 1 + rs.length
      · rw [if_pos h2, if_pos (by omega)]
        have : k - k0 = (k - (k0 + 1)) + 1 := by omega
        rw [this, List.getElem?_cons_succ]
      · rw [if_neg h2, if_neg (by omega)]

def argT : Nat → List AV → List (Nat × AV)
  | _, [] => []
  | k, x :: r => (k, x) :: argT (k + 1) r

theorem lk_argT : ∀ (xs : List AV) (k0 k : Nat) {x : AV}, lk (argT k0 xs) k = some x → k0 ≤ k ∧ xs[k - k0]? = some x
  | [], k0, k, x, h => by simp [argT, lk] at h
  | y :: xs, k0, k, x, h => by
    simp only [argT] at h
    by_cases he : k0 = k
    · subst he
      rw [lk_cons_self] at h
      exact ⟨Nat.le_refl _, by simpa using h⟩
    · rw [lk_cons_ne he] at h
      obtain ⟨h1, h2⟩ := lk_argT xs (k0 + 1) k h
      refine ⟨by omega, ?_⟩
      have : k - k0 = (k - (k0 + 1)) + 1 := by omega
      rw [this, List.getElem?_cons_succ]
      exact h2

def Callable (P : Program) (f : FuncId) : Prop := ∃ fn, P.funcs[f]? = some fn ∧ (fn.name == "runtime.NumGoroutine") = false ∧ fn.body.isNone = false

def ρ0 (c : Ctx) : Env
  | .par k => c.ρp k
  | .loc _ => none

def hkp (Hp : List Blk) : Id → Option Blk
  | .par k => Hp[k]?
  | .loc _ => none

structure Ini (c : Ctx) (args : List AV) (Hp : List Blk) (vs : Array Value) : Prop where
  len : vs.size = args.length
  args : ∀ (k : Nat) x v, args[k]? = some x → vs[k]? = some v → VR (ρ0 c) c.O0 c.w0 x v
  H : HS c (ρ0 c) c.O0 c.w0 (hkp Hp)
  wlt : ∀ k, c.W k → c.O0 k ∧ k < c.w0.heap.size
  olt : ∀ k, c.O0 k → k < c.w0.heap.size

def finS (Hp : List Blk) (Hr : List Rw) : St := ⟨0, [], rowsH 0 Hr, Hp, Hr.length⟩

structure FinAt (c : Ctx) (r : AV) (Hp : List Blk) (Hr : List Rw) (v : Value) (w : World) (ρ : Env) (O : Nat → Prop) : Prop where
  par : ∀ k, ρ (.par k) = c.ρp k
  fresh : ∀ k, Hr.length ≤ k → ρ (.loc k) = none
  H : HS c ρ O w (hk (finS Hp Hr))
  F : Fr c O w
  r : VR ρ O w r v

def ACalls (P : Program) (f : FuncId) (args : List AV) (Hp : List Blk) (R : AV → List Blk → List Rw → Prop) : Prop :=
  Callable P f ∧ ∀ c vs, Ini c args Hp vs → Calls P f vs c.w0 fun e w' => ∃ r Hp' Hr v ρ O, R r Hp' Hr ∧ e = .returned v ∧ FinAt c r Hp' Hr v w' ρ O

theorem ACalls.mono {P : Program} {f : FuncId} {args : List AV} {Hp : List Blk} {R R' : AV → List Blk → List Rw → Prop} (h : ACalls P f args Hp R) (hr : ∀ r Hp' Hr, R r Hp' Hr → R' r Hp' Hr) : ACalls P f args Hp R' :=
  ⟨h.1, fun c vs hi => (h.2 c vs hi).mono fun _ _ ⟨r, Hp', Hr, v, ρ, O, h1, h2⟩ => ⟨r, Hp', Hr, v, ρ, O, hr _ _ _ h1, h2⟩⟩

/-! ### what names no block, or none of the call's own -/
/-- No block of the call's own is named. -/
inductive LF : AV → Prop
  | d (x : D) : LF (.d x)
  | nilrow : LF .nilrow
  | ptr (k off : Nat) : LF (.ptr (.par k) off)
  | rptr (k sz j f : Nat) : LF (.rptr (.par k) sz j f)
  | eptr (r : List D) : LF (.eptr r)
  | own (k : Nat) : LF (.own (.par k))
  | sub (k sz lo n : Nat) (full : Bool) : LF (.sub (.par k) sz lo n full)
  | agg (xs : List AV) (h : ∀ x ∈ xs, LF x) : LF (.agg xs)
  | tup (xs : List AV) (h : ∀ x ∈ xs, LF x) : LF (.tup xs)
  | fn (f : FuncId) (xs : List AV) (h : ∀ x ∈ xs, LF x) : LF (.fn f xs)
  | junk : LF .junk

theorem VR.lf {c : Ctx} {O : Nat → Prop} {w : World} {x : AV} {v : Value} (h : VR (ρ0 c) O w x v) : LF x := by
  induction h with
  | d x v h => exact .d x
  | nilrow => exact .nilrow
  | ptr i off g h =>
    cases i with
    | loc k => simp [ρ0] at h
    | par k => exact .ptr k off
  | rptr i sz j f g h =>
    cases i with
    | loc k => simp [ρ0] at h
    | par k => exact .rptr k sz j f
  | eptr rest p u hO hb hcell hsub => exact .eptr rest
  | own i v h h1 =>
    cases i with
    | loc k => simp [ρ0] at h
    | par k => exact .own k
  | agg xs vs hl h ih =>
    exact .agg xs fun x hx => by
      obtain ⟨k, hk⟩ := List.getElem?_of_mem hx
      have hlt : k < vs.size := by rw [← hl]; exact (List.getElem?_eq_some_iff.1 hk).1
      exact ih k x vs[k] hk (by simp [hlt])
  | tup xs vs hl h ih =>
    exact .tup xs fun x hx => by
      obtain ⟨k, hk⟩ := List.getElem?_of_mem hx
      have hlt : k < vs.size := by rw [← hl]; exact (List.getElem?_eq_some_iff.1 hk).1
      exact ih k x vs[k] hk (by simp [hlt])
  | fn f xs vs hl h ih =>
    exact .fn f xs fun x hx => by
      obtain ⟨k, hk⟩ := List.getElem?_of_mem hx
      have hlt : k < vs.size := by rw [← hl]; exact (List.getElem?_eq_some_iff.1 hk).1
      exact ih k x vs[k] hk (by simp [hlt])
  | sub i sz lo n full g L C c off h =>
    cases i with
    | loc k => simp [ρ0] at h
    | par k => exact .sub k sz lo n full
  | subN i sz full h =>
    cases i with
    | loc k => simp [ρ0] at h
    | par k => exact .sub k sz 0 0 full
  | junk v => exact .junk

theorem LF.vr {ρ ρ' : Env} (hp : ∀ k, ρ (.par k) = ρ' (.par k)) {O : Nat → Prop} {w : World} {x : AV} (hx : LF x) : ∀ {v : Value}, VR ρ O w x v → VR ρ' O w x v := by
  induction hx with
  | d x => intro v h; cases h with | d _ _ h => exact .d _ _ h
  | nilrow => intro v h; cases h; exact .nilrow
  | ptr k off => intro v h; cases h with | ptr _ _ g hg => exact .ptr _ _ g (by rw [← hp]; exact hg)
  | rptr k sz j f => intro v h; cases h with | rptr _ _ _ _ g hg => exact .rptr _ _ _ _ g (by rw [← hp]; exact hg)
  | eptr r => intro v h; cases h with | eptr _ p u a b c d => exact .eptr _ p u a b c d
  | own k => intro v h; cases h with | own _ _ h h1 => exact .own _ _ (by rw [← hp]; exact h) h1
  | sub k sz lo n full =>
    intro v h
    cases h with
    | sub _ _ _ _ _ g L C c off h h1 h2 h3 h4 h5 => exact .sub _ _ _ _ _ g L C c off (by rw [← hp]; exact h) h1 h2 h3 h4 h5
    | subN _ _ _ h => exact .subN _ _ _ (by rw [← hp]; exact h)
  | agg xs h ih =>
    intro v hv
    cases hv with
    | agg _ vs hl hc => exact .agg _ vs hl fun k x v hx hv => ih x (List.mem_of_getElem? hx) (hc k x v hx hv)
  | tup xs h ih =>
    intro v hv
    cases hv with
    | tup _ vs hl hc => exact .tup _ vs hl fun k x v hx hv => ih x (List.mem_of_getElem? hx) (hc k x v hx hv)
  | fn f xs h ih =>
    intro v hv
    cases hv with
    | fn _ _ vs hl hc => exact .fn _ _ vs hl fun k x v hx hv => ih x (List.mem_of_getElem? hx) (hc k x v hx hv)
  | junk => intro v h; exact .junk v

def LFB : Blk → Prop
  | .box _ cells => ∀ x ∈ cells, LF x
  | .row .. => True
  | .iter .. => True

theorem BOK.lf {c : Ctx} {O : Nat → Prop} {w : World} {i : Id} {b : Blk} (h : BOK (ρ0 c) O w i b) : LFB b := by
  cases b with
  | box e cells =>
    obtain ⟨g, vs, _, _, hl, hc⟩ := h
    intro x hx
    obtain ⟨k, hk⟩ := List.getElem?_of_mem hx
    have hlt : k < vs.size := by rw [hl]; exact (List.getElem?_eq_some_iff.1 hk).1
    exact (hc k x vs[k] hk (by simp [hlt])).1.lf
  | row => trivial
  | iter => trivial

theorem LFB.bok {ρ ρ' : Env} (hp : ∀ k, ρ (.par k) = ρ' (.par k)) {O : Nat → Prop} {w : World} {i i' : Id} (hi : ρ i = ρ' i') {b : Blk} (hb : LFB b) (h : BOK ρ O w i b) : BOK ρ' O w i' b := by
  cases b with
  | box e cells =>
    obtain ⟨g, vs, h1, h2, h3, h4⟩ := h
    exact ⟨g, vs, by rw [← hi]; exact h1, h2, h3, fun k x v hx hv => ⟨(hb x (List.mem_of_getElem? hx)).vr hp (h4 k x v hx hv).1, (h4 k x v hx hv).2⟩⟩
  | row e sz xs =>
    obtain ⟨v, vs, h1, h2⟩ := h
    exact ⟨v, vs, by rw [← hi]; exact h1, h2⟩
  | iter s pos =>
    obtain ⟨g, h1, h2⟩ := h
    exact ⟨g, by rw [← hi]; exact h1, h2⟩

/-- Cells of which the only blocks named are rows of the call's own, told by their numbers in m. -/
def ren1 (m : List Nat) : AV → AV
  | .own (.loc j) => .own (.loc (m.getD j 0))
  | x => x
def ren2 (m : List Nat) : AV → AV
  | .agg xs => .agg (xs.map (ren1 m))
  | x => ren1 m x
def ren3 (m : List Nat) : AV → AV
  | .tup xs => .tup (xs.map (ren2 m))
  | x => ren2 m x
def ok1 (n : Nat) : AV → Bool
  | .own (.loc j) => Nat.blt j n
  | .d _ => true
  | .nilrow => true
  | .eptr _ => true
  | _ => false
def ok2 (n : Nat) : AV → Bool
  | .agg xs => xs.all (ok1 n)
  | x => ok1 n x
def ok3 (n : Nat) : AV → Bool
  | .tup xs => xs.all (ok2 n)
  | x => ok2 n x

section
variable {ρ ρ' : Env} {O : Nat → Prop} {w : World} {m : List Nat}
theorem ren1_iff (hm : ∀ j, j < m.length → ρ' (.loc j) = ρ (.loc (m.getD j 0))) {x : AV} (hx : ok1 m.length x = true) {v : Value} : VR ρ O w (ren1 m x) v ↔ VR ρ' O w x v := by
  cases x with
  | own i =>
    cases i with
    | loc j =>
      have hj : j < m.length := by simpa [ok1] using hx
      constructor
      · intro h; cases h with | own _ _ h h1 => exact .own _ _ (by rw [hm j hj]; exact h) h1
      · intro h; cases h with | own _ _ h h1 => exact .own _ _ (by rw [← hm j hj]; exact h) h1
    | par k => simp [ok1] at hx
  | d x => exact ⟨fun h => by cases h with | d _ _ h => exact .d _ _ h, fun h => by cases h with | d _ _ h => exact .d _ _ h⟩
  | nilrow => exact ⟨fun h => by cases h; exact .nilrow, fun h => by cases h; exact .nilrow⟩
  | eptr r => exact ⟨fun h => by cases h with | eptr _ p u a b c d => exact .eptr _ p u a b c d, fun h => by cases h with | eptr _ p u a b c d => exact .eptr _ p u a b c d⟩
  | _ => simp [ok1] at hx
theorem list_iff {f : AV → AV} {xs : List AV} {vs : Array Value} (hf : ∀ x ∈ xs, ∀ v, VR ρ O w (f x) v ↔ VR ρ' O w x v) :
    (∀ (k : Nat) x v, (xs.map f)[k]? = some x → vs[k]? = some v → VR ρ O w x v) ↔ ∀ (k : Nat) x v, xs[k]? = some x → vs[k]? = some v → VR ρ' O w x v := by
  constructor
  · intro h k x v hx hv
    exact (hf x (List.mem_of_getElem? hx) v).1 (h k (f x) v (by simp [hx]) hv)
  · intro h k x v hx hv
    rw [List.getElem?_map, Option.map_eq_some_iff] at hx
    obtain ⟨y, hy, rfl⟩ := hx
    exact (hf y (List.mem_of_getElem? hy) v).2 (h k y v hy hv)
theorem ren2_iff (hm : ∀ j, j < m.length → ρ' (.loc j) = ρ (.loc (m.getD j 0))) {x : AV} (hx : ok2 m.length x = true) {v : Value} : VR ρ O w (ren2 m x) v ↔ VR ρ' O w x v := by
  cases x with
  | agg xs =>
    have hx' : ∀ x ∈ xs, ok1 m.length x = true := List.all_eq_true.1 hx
    constructor
    · intro h
      cases h with
      | agg _ vs hl hc => exact .agg _ vs (by simpa using hl) ((list_iff fun x hx v => ren1_iff hm (hx' x hx)).1 hc)
    · intro h
      cases h with
      | agg _ vs hl hc => exact .agg _ vs (by simpa using hl) ((list_iff fun x hx v => ren1_iff hm (hx' x hx)).2 hc)
  | d y => exact ren1_iff (x := .d y) hm hx
  | nilrow => exact ren1_iff (x := .nilrow) hm hx
  | ptr i off => exact ren1_iff (x := .ptr i off) hm hx
  | eptr y => exact ren1_iff (x := .eptr y) hm hx
  | rptr i sz j f => exact ren1_iff (x := .rptr i sz j f) hm hx
  | own i => exact ren1_iff (x := .own i) hm hx
  | sub i sz lo n full => exact ren1_iff (x := .sub i sz lo n full) hm hx
  | tup y => exact ren1_iff (x := .tup y) hm hx
  | fn f y => exact ren1_iff (x := .fn f y) hm hx
  | junk => exact ren1_iff (x := .junk) hm hx
theorem ren3_iff (hm : ∀ j, j < m.length → ρ' (.loc j) = ρ (.loc (m.getD j 0))) {x : AV} (hx : ok3 m.length x = true) {v : Value} : VR ρ O w (ren3 m x) v ↔ VR ρ' O w x v := by
  cases x with
  | tup xs =>
    have hx' : ∀ x ∈ xs, ok2 m.length x = true := List.all_eq_true.1 hx
    constructor
    · intro h
      cases h with
      | tup _ vs hl hc => exact .tup _ vs (by simpa using hl) ((list_iff fun x hx v => ren2_iff hm (hx' x hx)).1 hc)
    · intro h
      cases h with
      | tup _ vs hl hc => exact .tup _ vs (by simpa using hl) ((list_iff fun x hx v => ren2_iff hm (hx' x hx)).2 hc)
  | d y => exact ren2_iff (x := .d y) hm hx
  | nilrow => exact ren2_iff (x := .nilrow) hm hx
  | ptr i off => exact ren2_iff (x := .ptr i off) hm hx
  | eptr y => exact ren2_iff (x := .eptr y) hm hx
  | rptr i sz j f => exact ren2_iff (x := .rptr i sz j f) hm hx
  | own i => exact ren2_iff (x := .own i) hm hx
  | sub i sz lo n full => exact ren2_iff (x := .sub i sz lo n full) hm hx
  | agg y => exact ren2_iff (x := .agg y) hm hx
  | fn f y => exact ren2_iff (x := .fn f y) hm hx
  | junk => exact ren2_iff (x := .junk) hm hx
end

/-! ### a body -/
def aresL (ts : List (Nat × TI)) (σ : St) : List ResultVar → (List AV → Option AV) → Option AV
  | [], k => k []
  | .tmp t :: r, k => match lk σ.T t with
    | some x => aresL ts σ r fun l => k (x :: l)
    | none => none
  | .cell p t :: r, k => match lk σ.T p with
    | some x => match aload ts σ t x with
      | some y => aresL ts σ r fun l => k (y :: l)
      | none => none
    | none => none
def ares (ts : List (Nat × TI)) (rs : List ResultVar) (σ : St) : Option AV :=
  aresL ts σ rs fun l => match l with
    | [x] => some x
    | l => some (.tup l)

/-- What a call leaves: the result, and the rows of its own that it hands back (m tells which). -/
structure Out (Hp : List Blk) (σ : St) (rf : AV) (R : AV → List Blk → List Rw → Prop) (r : AV) (Hr : List Rw) (m : List Nat) : Prop where
  post : R r σ.Hp Hr
  ren : ren3 m r = rf
  ok : ok3 m.length r = true
  len : Hr.length = m.length
  nodup : m.Nodup
  rows : ∀ (k j : Nat) rw, m[k]? = some j → Hr[k]? = some rw → hk σ (.loc j) = some rw.blk
  hp : σ.Hp = Hp ∨ ∀ b ∈ σ.Hp, LFB b

theorem ren3_nil {r : AV} (hok : ok3 0 r = true) : ren3 [] r = r := by
  have h1 : ∀ x, ok1 0 x = true → ren1 [] x = x := fun x hx => by
    cases x with
    | own i => cases i <;> simp [ok1] at hx
    | _ => rfl
  have h2 : ∀ x, ok2 0 x = true → ren2 [] x = x := fun x hx => by
    cases x with
    | agg xs =>
      simp only [ren2]
      rw [List.map_congr_left (fun y hy => h1 y (List.all_eq_true.1 hx y hy))]
      simp
    | own i => cases i <;> simp [ok2, ok1] at hx
    | _ => rfl
  cases r with
  | tup xs =>
    simp only [ren3]
    rw [List.map_congr_left (fun y hy => h2 y (List.all_eq_true.1 hok y hy))]
    simp
  | agg xs => exact h2 (.agg xs) hok
  | own i => cases i <;> simp [ok3, ok2, ok1] at hok
  | _ => rfl

/-- A result that names no block. -/
theorem Out.pure {Hp : List Blk} {σ : St} {rf : AV} {R : AV → List Blk → List Rw → Prop} (hok : ok3 0 rf = true) (h : R rf σ.Hp []) (hp : σ.Hp = Hp) : Out Hp σ rf R rf [] [] :=
  ⟨h, ren3_nil hok, hok, rfl, List.nodup_nil, fun k j rw h => by simp at h, .inl hp⟩
/-- A row of the call's own. -/
theorem Out.row {Hp : List Blk} {σ : St} {j e sz : Nat} {xs : List (List D)} {R : AV → List Blk → List Rw → Prop} (hk' : hk σ (.loc j) = some (.row e sz xs)) (h : R (.own (.loc 0)) σ.Hp [⟨e, sz, xs⟩]) (hp : σ.Hp = Hp) :
    Out Hp σ (.own (.loc j)) R (.own (.loc 0)) [⟨e, sz, xs⟩] [j] := by
  refine ⟨h, rfl, rfl, rfl, by simp, fun k i rw h1 h2 => ?_, .inl hp⟩
  cases k with
  | zero =>
    simp at h1 h2
    subst h1; subst h2
    exact hk'
  | succ k => simp at h1

def retQ (ts : List (Nat × TI)) (rs : List ResultVar) (Hp : List Blk) (R : AV → List Blk → List Rw → Prop) : Exit → St → Prop
  | .normal, σ => ∃ rf r Hr m, ares ts rs σ = some rf ∧ Out Hp σ rf R r Hr m
  | .ret, σ => ∃ rf r Hr m, ares ts rs σ = some rf ∧ Out Hp σ rf R r Hr m
  | _, _ => False

def resv (tmps : Array Value) : ResultVar → Sem Value
  | .tmp t => pure (tmps.getD t undef)
  | .cell p t => do loadVar t (← asAddr (tmps.getD p undef))

theorem results_eq (fn : Func) (tmps : Array Value) : results fn tmps = (do
    let vs ← fn.results.mapM (resv tmps)
    pure (if h : vs.size = 1 then vs[0] else .tuple vs)) := by
  unfold results
  have : (fun (x : ResultVar) => (match x with
    | .tmp t => (pure (tmps.getD t undef) : Sem Value)
    | .cell a t => do loadVar t (← asAddr (tmps.getD a undef)))) = resv tmps := by
    funext x
    cases x <;> rfl
  rw [← this]
  rfl

theorem aresL_sound {P : Program} {ts : List (Nat × TI)} (hT : TOK P ts) {c : Ctx} {σ : St} {a : Act} {w : World} {ρ : Env} {O : Nat → Prop} (hs : SatAt c σ a w ρ O) {y : AV} :
    ∀ {rs : List ResultVar} {k : List AV → Option AV}, aresL ts σ rs k = some y → ∃ (xs : List AV) (vs : List Value), k xs = some y ∧
      (rs.mapM (resv a.tmps)).run P w = .ok vs w ∧ xs.length = vs.length ∧ ∀ (k : Nat) x v, xs[k]? = some x → vs[k]? = some v → VR ρ O w x v
  | [], k, h => ⟨[], [], by simpa [aresL] using h, rfl, rfl, fun k x v h => by simp at h⟩
  | .tmp t :: r, k, h => by
    simp only [aresL] at h
    split at h
    · rename_i x hx
      obtain ⟨xs, vs, h1, h2, h3, h4⟩ := aresL_sound hT hs h
      obtain ⟨v, e1, e2⟩ := hs.T t x hx
      refine ⟨x :: xs, v :: vs, h1, ?_, by simp [h3], fun k y u hy hu => ?_⟩
      · have hv : a.tmps.getD t undef = v := by simp [Array.getD_eq_getD_getElem?, e1]
        rw [List.mapM_cons]
        simp only [resv, Sem.run_bind, Sem.run_pure, Result.andThen_ok, hv, h2]
      · cases k with
        | zero => simp at hy hu; subst hy; subst hu; exact e2
        | succ k => exact h4 k y u (by simpa using hy) (by simpa using hu)
    · cases h
  | .cell p t :: r, k, h => by
    simp only [aresL] at h
    split at h
    · rename_i x hx
      split at h
      · rename_i y' hy'
        obtain ⟨xs, vs, h1, h2, h3, h4⟩ := aresL_sound hT hs h
        obtain ⟨v, e1, e2⟩ := hs.T p x hx
        obtain ⟨u, f1, f2⟩ := aload_sound hT hs e2 hy'
        refine ⟨y' :: xs, u :: vs, h1, ?_, by simp [h3], fun k z q hz hq => ?_⟩
        · have hv : a.tmps.getD p undef = v := by simp [Array.getD_eq_getD_getElem?, e1]
          have hload : (do loadVar t (← asAddr v) : Sem Value).run P w = .ok u w := by
            unfold Instr.loadAt at f1
            cases e2 with
            | ptr _ _ g hg => simpa [asAddr, Instr.sureAddr] using f1 w (Below.refl _ _)
            | eptr _ q => simpa [asAddr, Instr.sureAddr] using f1 w (Below.refl _ _)
            | _ => (unfold aload at hy'; cases hlk : lk ts t <;> rw [hlk] at hy' <;> simp at hy')
          rw [List.mapM_cons]
          simp only [resv, hv]
          rw [Sem.run_bind, hload]
          simp only [Result.andThen_ok, Sem.run_bind, h2, Sem.run_pure]
        · cases k with
          | zero => simp at hz hq; subst hz; subst hq; exact f2
          | succ k => exact h4 k z q (by simpa using hz) (by simpa using hq)
      · cases h
    · cases h

theorem ares_sound {P : Program} {ts : List (Nat × TI)} (hT : TOK P ts) {c : Ctx} {σ : St} {a : Act} {w : World} {ρ : Env} {O : Nat → Prop} (hs : SatAt c σ a w ρ O) {y : AV} {fn : Func}
    (h : ares ts fn.results.toList σ = some y) : ∃ v, (results fn a.tmps).run P w = .ok v w ∧ VR ρ O w y v := by
  obtain ⟨xs, vs, h1, h2, h3, h4⟩ := aresL_sound hT hs h
  have hrun : (fn.results.mapM (resv a.tmps)).run P w = .ok vs.toArray w := by
    have : fn.results = fn.results.toList.toArray := by simp
    rw [this, List.mapM_toArray, Sem.run_map, h2]
    rfl
  rw [results_eq]
  simp only [Sem.run_bind, hrun, Result.andThen_ok, Sem.run_pure]
  split at h1
  · rename_i x
    cases h1
    match vs, h3 with
    | [v], _ => exact ⟨v, by simp, h4 0 y v rfl rfl⟩
  · rename_i hne
    cases h1
    refine ⟨.tuple vs.toArray, ?_, .tup _ _ (by simpa using h3) (fun k x v hx hv => h4 k x v hx (by simpa using hv))⟩
    rw [dif_neg]
    intro he
    match xs, vs, h3 with
    | [x], [v], _ => exact hne x rfl
    | [], [], _ => simp at he
    | _ :: _ :: _, _ :: _ :: _, _ => simp at he

theorem ini_sat {c : Ctx} {args : List AV} {Hp : List Blk} {vs : Array Value} (h : Ini c args Hp vs) (n : Nat) (hn : args.length ≤ n) :
    SatAt c ⟨n, argT 0 args, [], Hp, 0⟩ { tmps := vs ++ Array.replicate (n - vs.size) undef, defers := [] } c.w0 (ρ0 c) c.O0 := by
  have hl := h.len
  have hh : hk ⟨n, argT 0 args, [], Hp, 0⟩ = hkp Hp := by
    funext i
    cases i <;> rfl
  refine ⟨rfl, by simp; omega, fun _ => rfl, fun _ _ => rfl, fun t x ht => ?_, by rw [hh]; exact h.H, ⟨rfl, rfl, rfl, Nat.le_refl _, fun _ _ _ => rfl, fun _ h => h, fun _ h => .inl h, h.wlt, h.olt, h.olt⟩⟩
  obtain ⟨_, h2⟩ := lk_argT args 0 t ht
  simp only [Nat.sub_zero] at h2
  have hlt : t < vs.size := by rw [hl]; exact (List.getElem?_eq_some_iff.1 h2).1
  refine ⟨vs[t], ?_, h.args t x _ h2 (by simp [hlt])⟩
  simp [Array.getElem?_append, hlt]

/-- A function's body. -/
theorem ACalls.body {P : Program} {ts : List (Nat × TI)} (hT : TOK P ts) {f : FuncId} {fn : Func} {code : Code} {args : List AV} {Hp : List Blk} {R : AV → List Blk → List Rw → Prop}
    (hf : P.funcs[f]? = some fn) (hb : fn.body = some code) (hname : (fn.name == "runtime.NumGoroutine") = false) (hn : args.length ≤ fn.ntmps)
    (h : AW P code (retQ ts fn.results.toList Hp R) ⟨fn.ntmps, argT 0 args, [], Hp, 0⟩) : ACalls P f args Hp R := by
  refine ⟨⟨fn, hf, hname, by rw [hb]; rfl⟩, fun c vs hi => ?_⟩
  have hs := ini_sat hi fn.ntmps hn
  refine calls_of_wp hf hb (wp_mono (h c _ _ ⟨_, _, hs⟩) ?_)
  have fin : ∀ a w σ, (∃ rf r Hr m, ares ts fn.results.toList σ = some rf ∧ Out Hp σ rf R r Hr m) → Sat c σ a w →
      a.defers = [] ∧ ∃ v, (results fn a.tmps).run P w = .ok v w ∧ ∃ r Hp' Hr v' ρ O, R r Hp' Hr ∧ Ending.returned v = .returned v' ∧ FinAt c r Hp' Hr v' w ρ O := by
    rintro a w σ ⟨rf, r, Hr, m, hr, ho⟩ ⟨ρ, O, hs'⟩
    obtain ⟨v, h1, h2⟩ := ares_sound hT hs' hr
    refine ⟨hs'.defers, v, h1, r, σ.Hp, Hr, v, (fun | .par k => c.ρp k | .loc k => match m[k]? with | some j => ρ (.loc j) | none => none), O, ho.post, rfl, ?_⟩
    have hm : ∀ j, j < m.length → (match m[j]? with | some j => ρ (.loc j) | none => none) = ρ (.loc (m.getD j 0)) := by
      intro j hj
      simp [hj]
    have hlf : ∀ (k : Nat) b, σ.Hp[k]? = some b → LFB b := by
      intro k b hb'
      rcases ho.hp with he | hl
      · rw [he] at hb'
        exact (hi.H.ok (.par k) b hb').lf
      · exact hl b (List.mem_of_getElem? hb')
    have hhk : ∀ i b, hk (finS σ.Hp Hr) i = some b → (∃ k, i = .par k ∧ σ.Hp[k]? = some b) ∨ ∃ k j rw, i = .loc k ∧ m[k]? = some j ∧ Hr[k]? = some rw ∧ b = rw.blk ∧ hk σ (.loc j) = some b := by
      intro i b hb'
      cases i with
      | par k => exact .inl ⟨k, rfl, hb'⟩
      | loc k =>
        have e := lk_rowsH [] Hr 0 k
        simp only [List.append_nil] at e
        simp only [finS, hk, e] at hb'
        by_cases hk' : k < Hr.length
        · rw [if_pos (by omega)] at hb'
          simp [hk'] at hb'
          have hkm : k < m.length := by rw [← ho.len]; exact hk'
          refine .inr ⟨k, m[k], Hr[k], rfl, by simp [hkm], by simp [hk'], hb'.symm, ?_⟩
          rw [← hb']
          exact ho.rows k _ _ (by simp [hkm]) (by simp [hk'])
        · rw [if_neg (by omega)] at hb'
          simp [lk] at hb'
    have hblk : ∀ i b g, hk (finS σ.Hp Hr) i = some b → ((fun | .par k => c.ρp k | .loc k => match m[k]? with | some j => ρ (.loc j) | none => none : Env) i).bind vblk = some g →
        ∃ i', hk σ i' = some b ∧ (ρ i').bind vblk = some g ∧ ((∃ k, i = .par k ∧ i' = .par k) ∨ ∃ k j, i = .loc k ∧ i' = .loc j ∧ m[k]? = some j) := by
      intro i b g hb' hg
      rcases hhk i b hb' with ⟨k, rfl, h1⟩ | ⟨k, j, rw', rfl, h1, h2, h3, h4⟩
      · exact ⟨.par k, h1, by rw [hs'.par]; exact hg, .inl ⟨k, rfl, rfl⟩⟩
      · refine ⟨.loc j, h4, ?_, .inr ⟨k, j, rfl, rfl, h1⟩⟩
        simpa only [h1] using hg
    refine ⟨fun _ => rfl, fun k hk' => ?_, ⟨fun i b hb' => ?_, fun i b g hb' hg => ?_, fun i j bi bj g hbi hbj hgi hgj => ?_⟩, hs'.F, ?_⟩
    · have : m[k]? = none := by rw [List.getElem?_eq_none]; rw [← ho.len]; exact hk'
      simp only [this]
    · rcases hhk i b hb' with ⟨k, rfl, h1⟩ | ⟨k, j, rw', rfl, h1, h2, h3, h4⟩
      · exact (hlf k b h1).bok (ρ := ρ) hs'.par (hs'.par k) (hs'.H.ok (.par k) b h1)
      · have := hs'.H.ok (.loc j) b h4
        subst h3
        exact LFB.bok (ρ := ρ) hs'.par (by simp only [h1]) trivial this
    · obtain ⟨i', h1, h2, h3⟩ := hblk i b g hb' hg
      obtain ⟨e1, e2, e3⟩ := hs'.H.own i' b g h1 h2
      refine ⟨e1, e2, ?_⟩
      rcases h3 with ⟨k, rfl, rfl⟩ | ⟨k, j, rfl, rfl, _⟩
      · exact e3
      · exact e3
    · obtain ⟨i', a1, a2, a3⟩ := hblk i bi g hbi hgi
      obtain ⟨j', b1, b2, b3⟩ := hblk j bj g hbj hgj
      have := hs'.H.inj i' j' bi bj g a1 b1 a2 b2
      subst this
      rcases a3 with ⟨k, rfl, e1⟩ | ⟨k, x, rfl, e1, e2⟩ <;> rcases b3 with ⟨k', rfl, e3⟩ | ⟨k', x', rfl, e3, e4⟩
      · rw [e1] at e3; injection e3 with e3; rw [e3]
      · rw [e1] at e3; cases e3
      · rw [e1] at e3; cases e3
      · rw [e1] at e3
        injection e3 with e3
        subst e3
        congr 1
        have hk1 : k < m.length := (List.getElem?_eq_some_iff.1 e2).1
        exact (List.getElem?_inj hk1 ho.nodup).1 (e2.trans e4.symm)
    · have h2' := h2
      rw [← ho.ren] at h2'
      exact (ren3_iff (ρ := ρ) hm ho.ok).1 h2'
  rintro e a w ⟨σ, hq, hs'⟩
  cases e with
  | normal => exact fin a w σ hq hs'
  | ret => exact fin a w σ hq hs'
  | exit id => exact hq.elim
  | goto l => exact hq.elim
  | panic ch => exact hq.elim
  | outgrown => exact hq.elim

end Go.AM
