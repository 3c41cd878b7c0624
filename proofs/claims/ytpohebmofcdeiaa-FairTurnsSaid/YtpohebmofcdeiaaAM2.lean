/- A machine over pure data: part 2: its states, what they say of Go's frame and world, and the rules for pieces of code. -/
import Derived.Test.YtpohebmofcdeiaaAM1
namespace Go.AM
open Go

def lk {α : Type} : List (Nat × α) → Nat → Option α
  | [], _ => none
  | (s, v) :: r, t => bif Nat.beq s t then some v else lk r t

structure St where
  n : Nat
  T : List (Nat × AV)
  H : List (Nat × Option Blk)
  Hp : List Blk
  clk : Nat

def hk (σ : St) : Id → Option Blk
  | .loc k => match lk σ.H k with
    | some (some b) => some b
    | _ => none
  | .par k => σ.Hp[k]?

/-- What a call began with: the caller's blocks that it is handed (W: it may write them), the world. -/
structure Ctx where
  ρp : Nat → Option Value
  O0 : Nat → Prop
  W : Nat → Prop
  w0 : World

structure Fr (c : Ctx) (O : Nat → Prop) (w : World) : Prop where
  os : w.os = c.w0.os
  tape : w.tape = c.w0.tape
  output : w.output = c.w0.output
  size : c.w0.heap.size ≤ w.heap.size
  same : ∀ k, k < c.w0.heap.size → ¬ c.W k → w.heap[k]? = c.w0.heap[k]?
  mono : ∀ k, c.O0 k → O k
  news : ∀ k, O k → c.O0 k ∨ c.w0.heap.size ≤ k
  wlt : ∀ k, c.W k → c.O0 k ∧ k < c.w0.heap.size
  olt : ∀ k, O k → k < w.heap.size
  olt0 : ∀ k, c.O0 k → k < c.w0.heap.size

/-- Where a block may lie: one that was handed in is one that may be written; one of the call's own is new. -/
def place (c : Ctx) : Id → Nat → Prop
  | .par _, g => c.W g
  | .loc _, g => c.w0.heap.size ≤ g
theorem place_or {c : Ctx} {i : Id} {g : Nat} (h : place c i g) : c.W g ∨ c.w0.heap.size ≤ g := by
  cases i with
  | par k => exact .inl h
  | loc k => exact .inr h

structure HS (c : Ctx) (ρ : Env) (O : Nat → Prop) (w : World) (h : Id → Option Blk) : Prop where
  ok : ∀ i b, h i = some b → BOK ρ O w i b
  own : ∀ i b g, h i = some b → (ρ i).bind vblk = some g → O g ∧ g < w.heap.size ∧ place c i g
  inj : ∀ i j bi bj g, h i = some bi → h j = some bj → (ρ i).bind vblk = some g → (ρ j).bind vblk = some g → i = j

/-- Go's frame and world are as the state says, at ρ and O. -/
structure SatAt (c : Ctx) (σ : St) (a : Act) (w : World) (ρ : Env) (O : Nat → Prop) : Prop where
  defers : a.defers = []
  n : a.tmps.size = σ.n
  par : ∀ k, ρ (.par k) = c.ρp k
  fresh : ∀ k, σ.clk ≤ k → ρ (.loc k) = none
  T : ∀ t x, lk σ.T t = some x → ∃ v, a.tmps[t]? = some v ∧ VR ρ O w x v
  H : HS c ρ O w (hk σ)
  F : Fr c O w

def Sat (c : Ctx) (σ : St) (a : Act) (w : World) : Prop := ∃ ρ O, SatAt c σ a w ρ O

def Imp (σ σ' : St) : Prop := ∀ c a w, Sat c σ a w → Sat c σ' a w
theorem Imp.refl (σ : St) : Imp σ σ := fun _ _ _ h => h
theorem Imp.trans {a b c : St} (h : Imp a b) (k : Imp b c) : Imp a c := fun x y z q => k x y z (h x y z q)

def post (c : Ctx) (Q : Exit → St → Prop) : Exit → Act → World → Prop := fun e a w => ∃ σ, Q e σ ∧ Sat c σ a w

def AW (P : Program) (code : Code) (Q : Exit → St → Prop) (σ : St) : Prop := ∀ c a w, Sat c σ a w → code.wp P (post c Q) a w

def thenQ (N : St → Prop) (Q : Exit → St → Prop) : Exit → St → Prop
  | .normal, σ => N σ
  | e, σ => Q e σ

def inBlockQ (id : Nat) (Q : Exit → St → Prop) : Exit → St → Prop
  | .exit id', σ => if id' = id then Q .normal σ else Q (.exit id') σ
  | e, σ => Q e σ

section
variable {P : Program} {Q : Exit → St → Prop} {σ : St}

theorem AW.mono {code : Code} {Q' : Exit → St → Prop} (h : AW P code Q σ) (hq : ∀ e σ, Q e σ → Q' e σ) : AW P code Q' σ :=
  fun c a w hs => wp_mono (h c a w hs) fun _ _ _ ⟨σ', q, s⟩ => ⟨σ', hq _ _ q, s⟩

theorem AW.imp {code : Code} {σ' : St} (hi : Imp σ σ') (h : AW P code Q σ') : AW P code Q σ := fun c a w hs => h c a w (hi c a w hs)

theorem AW.skip (h : Q .normal σ) : AW P .skip Q σ := fun _ _ _ hs => wp_skip ⟨σ, h, hs⟩
theorem AW.label {l : Nat} (h : Q .normal σ) : AW P (.label l) Q σ := fun _ _ _ hs => wp_label ⟨σ, h, hs⟩
theorem AW.exit {id : Nat} (h : Q (.exit id) σ) : AW P (.exit id) Q σ := fun _ _ _ hs => wp_exit ⟨σ, h, hs⟩
theorem AW.ret (h : Q .ret σ) : AW P .ret Q σ := fun _ _ _ hs => wp_ret ⟨σ, h, hs⟩

theorem AW.seq {x y : Code} (h : ∀ K : St → Prop, (∀ σ, AW P y Q σ → K σ) → AW P x (thenQ K Q) σ) : AW P (.seq x y) Q σ := by
  intro c a w hs
  refine wp_seq (wp_mono (h (AW P y Q) (fun _ q => q) c a w hs) ?_)
  rintro e a' w' ⟨σ', hq, hs'⟩
  cases e with
  | normal => exact hq c a' w' hs'
  | exit id => exact ⟨σ', hq, hs'⟩
  | goto l => exact ⟨σ', hq, hs'⟩
  | ret => exact ⟨σ', hq, hs'⟩
  | panic ch => exact ⟨σ', hq, hs'⟩
  | outgrown => exact ⟨σ', hq, hs'⟩

theorem AW.block {id : Nat} {x : Code} (h : AW P x (inBlockQ id Q) σ) : AW P (.block id x) Q σ := by
  intro c a w hs
  refine wp_block (wp_mono (h c a w hs) ?_)
  rintro e a' w' ⟨σ', hq, hs'⟩
  cases e with
  | exit id' =>
    simp only [inBlockQ] at hq
    simp only [Exit.inBlock]
    split
    · rename_i h; rw [if_pos h] at hq; exact ⟨σ', hq, hs'⟩
    · rename_i h; rw [if_neg h] at hq; exact ⟨σ', hq, hs'⟩
  | normal => exact ⟨σ', hq, hs'⟩
  | goto l => exact ⟨σ', hq, hs'⟩
  | ret => exact ⟨σ', hq, hs'⟩
  | panic ch => exact ⟨σ', hq, hs'⟩
  | outgrown => exact ⟨σ', hq, hs'⟩

/-- A loop: a family of states, each a number, which every round lowers. -/
theorem AW.loop {body : Code} {ι : Type} (I : ι → St) (Pre : ι → Prop) (μ : ι → Nat) (x0 : ι) (h0 : Pre x0) (hi : Imp σ (I x0))
    (round : ∀ x, Pre x → ∀ K : St → Prop, (∀ σ' y, Pre y → μ y < μ x → Imp σ' (I y) → K σ') → AW P body (thenQ K Q) (I x)) : AW P (.loop body) Q σ := by
  intro c a w hs
  refine wp_loop_ghost (fun n a w => ∃ x, Pre x ∧ μ x = n ∧ Sat c (I x) a w) (μ x0) ⟨x0, h0, rfl, hi c a w hs⟩ ?_
  rintro n a w ⟨x, hp, rfl, hs⟩
  refine wp_mono (round x hp (fun σ' => ∃ y, Pre y ∧ μ y < μ x ∧ Imp σ' (I y)) (fun σ' y h1 h2 h3 => ⟨y, h1, h2, h3⟩) c a w hs) ?_
  rintro e a' w' ⟨σ', hq, hs'⟩
  cases e with
  | normal =>
    obtain ⟨y, h1, h2, h3⟩ := hq
    exact ⟨μ y, h2, y, h1, rfl, h3 _ _ _ hs'⟩
  | exit id => exact ⟨σ', hq, hs'⟩
  | goto l => exact ⟨σ', hq, hs'⟩
  | ret => exact ⟨σ', hq, hs'⟩
  | panic ch => exact ⟨σ', hq, hs'⟩
  | outgrown => exact ⟨σ', hq, hs'⟩
end

/-! ### operands -/
def cv : Value → Option AV
  | .slice none 0 0 => some .nilrow
  | .agg _ => none
  | .tuple _ => none
  | v => some (.d (.one v))
def cvs : List Value → Option (List AV)
  | [] => some []
  | v :: r => match cv v with
    | some x => match cvs r with
      | some xs => some (x :: xs)
      | none => none
    | none => none

def ev (σ : St) : Operand → Option AV
  | .tmp t => lk σ.T t
  | .const v => match v with
    | .agg cs => match cvs cs.toList with
      | some xs => some (.agg xs)
      | none => none
    | v => cv v
  | .func f => some (.fn f [])
  | .global _ => none

theorem cv_sound {v : Value} {x : AV} (h : cv v = some x) (ρ : Env) (O : Nat → Prop) (w : World) : VR ρ O w x v := by
  unfold cv at h
  split at h
  · cases h; exact .nilrow
  · cases h
  · cases h
  · rename_i h1 h2 h3
    cases h
    refine .d _ _ (.one _ ?_)
    cases v <;> first | rfl | (exact absurd rfl (h2 _)) | (exact absurd rfl (h3 _))

theorem cvs_sound : ∀ {vs : List Value} {xs : List AV}, cvs vs = some xs → xs.length = vs.length ∧ ∀ (ρ : Env) (O : Nat → Prop) (w : World) (k : Nat) x v, xs[k]? = some x → vs[k]? = some v → VR ρ O w x v
  | [], xs, h => by
    simp only [cvs] at h
    cases h
    exact ⟨rfl, fun ρ O w k x v h => by simp at h⟩
  | v :: r, xs, h => by
    simp only [cvs] at h
    split at h
    · rename_i x hx
      split at h
      · rename_i ys hy
        cases h
        obtain ⟨h1, h2⟩ := cvs_sound hy
        refine ⟨by simp [h1], fun ρ O w k x' v' h3 h4 => ?_⟩
        cases k with
        | zero =>
          simp at h3 h4
          subst h3; subst h4
          exact cv_sound hx ρ O w
        | succ k => exact h2 ρ O w k x' v' (by simpa using h3) (by simpa using h4)
      · cases h
    · cases h

theorem ev_sound {c : Ctx} {σ : St} {a : Act} {w : World} {ρ : Env} {O : Nat → Prop} (hs : SatAt c σ a w ρ O) {x : Operand} {av : AV} (h : ev σ x = some av) : VR ρ O w av (a.eval x) := by
  cases x with
  | tmp t =>
    obtain ⟨v, h1, h2⟩ := hs.T t av h
    have : a.eval (.tmp t) = v := by
      simp [Act.eval, Array.getD_eq_getD_getElem?, h1]
    rw [this]; exact h2
  | const v =>
    show VR ρ O w av v
    simp only [ev] at h
    split at h
    · rename_i cs
      split at h
      · rename_i xs hx
        cases h
        obtain ⟨h1, h2⟩ := cvs_sound hx
        exact .agg _ _ (by simpa using h1) (fun k x v h3 h4 => h2 ρ O w k x v h3 (by simpa using h4))
      · cases h
    · exact cv_sound h ρ O w
  | func f =>
    simp only [ev] at h
    cases h
    exact .fn f [] #[] rfl (fun k x v h => by simp at h)
  | global g => cases h

theorem AW.cond {P : Program} {Q : Exit → St → Prop} {σ : St} {x y : Code} {o : Operand} {b : Bool} (hc : ev σ o = some (.d (.one (.bool b))))
    (ht : b = true → AW P x Q σ) (hf : b = false → AW P y Q σ) : AW P (.cond o x y) Q σ := by
  rintro c a w ⟨ρ, O, hs⟩
  have h := ev_sound hs hc
  generalize hv : a.eval o = v at h
  cases h with
  | d _ _ h =>
    cases h with
    | one _ _ =>
      refine wp_cond_split hv (fun h => ht h c a w ⟨ρ, O, hs⟩) (fun h => hf h c a w ⟨ρ, O, hs⟩)

end Go.AM
