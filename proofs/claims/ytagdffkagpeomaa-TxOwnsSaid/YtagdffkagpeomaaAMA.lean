/- A machine over pure data, and what it says of Go's machine: parts 1 to 12. -/
import Derived.Below
import Derived.Maps.AppendAt
import Derived.Deep.LoopGhost
import Derived.Laws.Rows
import Derived.Laws.Tables
import Derived.ChangeKeysEq
import Derived.Laws.Cells
import Derived.KernelRfl
import Derived.Laws.Strings
import Derived.Conc.MuLone
/- A machine over pure data, and what it says of Go's machine: part 1: data, readings, how they move. -/
namespace Go.AM
open Go

/-- Pure data: one cell's value, or a slice's elements, each a list of cells. -/
inductive D where
  | one (v : Value)
  | row (xs : List (List D))

/-- In world w the value v reads as x; no block of O is looked into. -/
inductive Reads (O : Nat → Prop) (w : World) : D → Value → Prop
  | one (v : Value) (h : v.oneCell' = true) : Reads O w (.one v) v
  | none (a : Option Addr) (c : Nat) : Reads O w (.row []) (.slice a 0 c)
  | row (xs : List (List D)) (sz c : Nat) (ad : Addr) (u : Nat → Nat → Value)
      (hlen : ∀ x ∈ xs, x.length = sz) (hc : xs.length ≤ c) (hm : xs.length ≤ 9223372036854775807)
      (hO : ¬ O ad.block) (hb : ad.block < w.heap.size)
      (hcell : ∀ (j i : Nat) x d, xs[j]? = some x → x[i]? = some d → w.cell? (ad.add (j * sz + i)) = some (u j i))
      (hsub : ∀ (j i : Nat) x d, xs[j]? = some x → x[i]? = some d → Reads O w d (u j i)) :
      Reads O w (.row xs) (.slice (some ad) xs.length c)

theorem Reads.oneCell {O : Nat → Prop} {w : World} {x : D} {v : Value} (h : Reads O w x v) : v.oneCell' = true := by
  cases h with
  | one _ h => exact h
  | none a c => rfl
  | row => rfl

theorem Reads.slice {O : Nat → Prop} {w : World} {xs : List (List D)} {v : Value} (h : Reads O w (.row xs) v) :
    ∃ A c, v = .slice A xs.length c ∧ xs.length ≤ c ∧ xs.length ≤ 9223372036854775807 := by
  cases h with
  | none a c => exact ⟨a, c, rfl, Nat.zero_le _, by simp⟩
  | row _ sz c ad u hlen hc hm => exact ⟨_, c, rfl, hc, hm⟩

theorem block_add (a : Addr) (n : Nat) : (a.add n).block = a.block := by
  unfold Addr.add
  split <;> rfl

/-- What a step may do to the world, as far as readings are concerned. -/
structure Keeps (O : Nat → Prop) (w : World) (O' : Nat → Prop) (w' : World) : Prop where
  size : w.heap.size ≤ w'.heap.size
  same : ∀ k, k < w.heap.size → ¬ O k → w'.heap[k]? = w.heap[k]?
  news : ∀ k, O' k → O k ∨ w.heap.size ≤ k

theorem Keeps.refl (O : Nat → Prop) (w : World) : Keeps O w O w := ⟨Nat.le_refl _, fun _ _ _ => rfl, fun _ h => .inl h⟩

theorem Reads.keep {O O' : Nat → Prop} {w w' : World} (k : Keeps O w O' w') {x : D} {v : Value} (h : Reads O w x v) : Reads O' w' x v := by
  induction h with
  | one v h => exact .one v h
  | none a c => exact .none a c
  | row xs sz c ad u hlen hc hm hO hb hcell hsub ih =>
    refine .row xs sz c ad u hlen hc hm (fun h => ?_) (Nat.lt_of_lt_of_le hb k.size) (fun j i x d h1 h2 => ?_) ih
    · rcases k.news _ h with h | h
      · exact hO h
      · omega
    · rw [← hcell j i x d h1 h2]
      exact World.cell?_of_block (by rw [block_add]; exact k.same _ hb hO)

/-- A block of the call's own, or of one that it may write: a variable; a slice's row; a string's iterator. -/
inductive Id where
  | loc (k : Nat)
  | par (k : Nat)
  deriving DecidableEq

inductive AV where
  | d (x : D)
  | nilrow
  | ptr (i : Id) (off : Nat)
  | eptr (rest : List D)
  | rptr (i : Id) (sz j f : Nat)
  | own (i : Id)
  | agg (xs : List AV)
  | tup (xs : List AV)
  | fn (f : FuncId) (caps : List AV)
  | sub (i : Id) (sz lo n : Nat) (full : Bool)
  | bsl (i : Id) (n : Nat)
  | junk

/-- The block behind a pointer to a variable, or behind a row. -/
def vblk : Value → Option Nat
  | .pointer (some ⟨g, 0, none⟩) => some g
  | .slice (some ⟨g, 0, none⟩) _ _ => some g
  | .map (some g) => some g
  | _ => none

abbrev Env := Id → Option Value

inductive VR (ρ : Env) (O : Nat → Prop) (w : World) : AV → Value → Prop
  | d (x : D) (v : Value) (h : Reads O w x v) : VR ρ O w (.d x) v
  | nilrow : VR ρ O w .nilrow (.slice none 0 0)
  | ptr (i : Id) (off g : Nat) (h : (ρ i).bind vblk = some g) : VR ρ O w (.ptr i off) (.pointer (some ⟨g, off, none⟩))
  | rptr (i : Id) (sz j f g : Nat) (h : (ρ i).bind vblk = some g) : VR ρ O w (.rptr i sz j f) (.pointer (some ⟨g, j * sz + f, none⟩))
  | eptr (rest : List D) (p : Addr) (u : Nat → Value) (hO : ¬ O p.block) (hb : p.block < w.heap.size)
      (hcell : ∀ (k : Nat) d, rest[k]? = some d → w.cell? (p.add k) = some (u k)) (hsub : ∀ (k : Nat) d, rest[k]? = some d → Reads O w d (u k)) : VR ρ O w (.eptr rest) (.pointer (some p))
  | own (i : Id) (v : Value) (h : ρ i = some v) (h1 : v.oneCell' = true) : VR ρ O w (.own i) v
  | agg (xs : List AV) (vs : Array Value) (hl : xs.length = vs.size) (h : ∀ (k : Nat) x v, xs[k]? = some x → vs[k]? = some v → VR ρ O w x v) : VR ρ O w (.agg xs) (.agg vs)
  | tup (xs : List AV) (vs : Array Value) (hl : xs.length = vs.size) (h : ∀ (k : Nat) x v, xs[k]? = some x → vs[k]? = some v → VR ρ O w x v) : VR ρ O w (.tup xs) (.tuple vs)
  | fn (f : FuncId) (caps : List AV) (vs : Array Value) (hl : caps.length = vs.size) (h : ∀ (k : Nat) x v, caps[k]? = some x → vs[k]? = some v → VR ρ O w x v) : VR ρ O w (.fn f caps) (.func (.func f) #[] vs)
  | sub (i : Id) (sz lo n : Nat) (full : Bool) (g L C c off : Nat) (h : ρ i = some (.slice (some ⟨g, 0, none⟩) L C)) (h1 : lo + n ≤ L) (h2 : n ≤ c) (h3 : lo + c ≤ C) (h4 : (full = true → lo + c = C) ∧ (full = false → c = n)) (h5 : c ≠ 0 → off = lo * sz) :
      VR ρ O w (.sub i sz lo n full) (.slice (some ⟨g, off, none⟩) n c)
  | subN (i : Id) (sz : Nat) (full : Bool) (h : ρ i = some (.slice none 0 0)) : VR ρ O w (.sub i sz 0 0 full) (.slice none 0 0)
  | bsl (i : Id) (n g : Nat) (h : (ρ i).bind vblk = some g) : VR ρ O w (.bsl i n) (.slice (some ⟨g, 0, none⟩) n n)
  | junk (v : Value) : VR ρ O w .junk v

def Ext (ρ ρ' : Env) : Prop := ∀ i v, ρ i = some v → ρ' i = some v
theorem Ext.refl (ρ : Env) : Ext ρ ρ := fun _ _ h => h
theorem Ext.bind {ρ ρ' : Env} (e : Ext ρ ρ') {i : Id} {g : Nat} (h : (ρ i).bind vblk = some g) : (ρ' i).bind vblk = some g := by
  cases hi : ρ i with
  | none => rw [hi] at h; cases h
  | some v => rw [hi] at h; rw [e i v hi]; exact h

theorem VR.keep {ρ ρ' : Env} {O O' : Nat → Prop} {w w' : World} (e : Ext ρ ρ') (k : Keeps O w O' w') {x : AV} {v : Value} (h : VR ρ O w x v) : VR ρ' O' w' x v := by
  induction h with
  | d x v h => exact .d x v (h.keep k)
  | nilrow => exact .nilrow
  | ptr i off g h => exact .ptr i off g (e.bind h)
  | rptr i sz j f g h => exact .rptr i sz j f g (e.bind h)
  | eptr rest p u hO hb hcell hsub =>
    refine .eptr rest p u (fun h => ?_) (Nat.lt_of_lt_of_le hb k.size) (fun j d h => ?_) (fun j d h => (hsub j d h).keep k)
    · rcases k.news _ h with h | h
      · exact hO h
      · omega
    · rw [← hcell j d h]
      exact World.cell?_of_block (by rw [block_add]; exact k.same _ hb hO)
  | own i v h h1 => exact .own i v (e i v h) h1
  | agg xs vs hl h ih => exact .agg xs vs hl ih
  | tup xs vs hl h ih => exact .tup xs vs hl ih
  | fn f caps vs hl h ih => exact .fn f caps vs hl ih
  | sub i sz lo n full g L C c off h h1 h2 h3 h4 h5 => exact .sub i sz lo n full g L C c off (e i _ h) h1 h2 h3 h4 h5
  | subN i sz full h => exact .subN i sz full (e i _ h)
  | bsl i n g h => exact .bsl i n g (e.bind h)
  | junk v => exact .junk v

/-- What a block of a kind of its own says: of its value, and of what lies behind it; R tells which data a value reads as. -/
structure GenP where
  p : (D → Value → Prop) → Value → Option Obj → Prop
  mono : ∀ (R R' : D → Value → Prop) v o, (∀ d u, R d u → R' d u) → p R v o → p R' v o

inductive Blk where
  | box (e : TypeId) (cells : List AV)
  | row (e : TypeId) (sz : Nat) (xs : List (List D))
  | iter (s : ByteArray) (pos : Nat)
  | mp (es : Array MapEntry) (clock : Nat)
  | rowc (e : TypeId) (sz : Nat) (xs : List (List D)) (L C : Nat)
  | mpr (g0 : Nat) (es : Array MapEntry) (clock : Nat)
  | gen (p : GenP)

/-- The block i is as told. -/
def BOK (ρ : Env) (O : Nat → Prop) (w : World) (i : Id) : Blk → Prop
  | .box e cells => ∃ g vs, ρ i = some (.pointer (some ⟨g, 0, none⟩)) ∧ w.heap[g]? = some (.cells vs e (0, 0)) ∧ vs.size = cells.length ∧
      ∀ (k : Nat) x v, cells[k]? = some x → vs[k]? = some v → VR ρ O w x v ∧ v.oneCell' = true
  | .row e sz xs => ∃ v vs, ρ i = some v ∧ w.ownsRow 0 e sz v xs.length vs ∧ (∀ x ∈ xs, x.length = sz) ∧
      ∀ (j k : Nat) x d, xs[j]? = some x → x[k]? = some d → ∃ u, vs[j * sz + k]? = some u ∧ Reads O w d u
  | .iter s pos => ∃ g, ρ i = some (.pointer (some ⟨g, 0, none⟩)) ∧ w.heap[g]? = some (.stringIter s pos)
  | .mp es clock => ∃ g, ρ i = some (.map (some g)) ∧ w.heap[g]? = some (.map es clock)
  | .mpr g0 es clock => ∃ g, ρ i = some (.map (some g)) ∧ w.heap[g]? = some (.map es clock) ∧ g = g0
  | .gen p => ∃ v, ρ i = some v ∧ p.p (Reads O w) v ((vblk v).bind fun g => w.heap[g]?)
  | .rowc e sz xs L C => ∃ g cur, ρ i = some (.slice (some ⟨g, 0, none⟩) L C) ∧ w.heap[g]? = some (.cells cur e (0, 0)) ∧ cur.size = C * sz ∧ xs.length ≤ L ∧ L ≤ C ∧ C ≤ maxLen ∧ (∀ x ∈ xs, x.length = sz) ∧
      ∀ (j k : Nat) x d, xs[j]? = some x → x[k]? = some d → ∃ u, cur[j * sz + k]? = some u ∧ Reads O w d u

/-- A block's own number lies in O; what has not been written is as it was. -/
theorem BOK.keep {ρ ρ' : Env} {O O' : Nat → Prop} {w w' : World} (e : Ext ρ ρ') (k : Keeps O w O' w') {i : Id} {b : Blk} (h : BOK ρ O w i b)
    (hs : ∀ g, (ρ i).bind vblk = some g → w'.heap[g]? = w.heap[g]?) : BOK ρ' O' w' i b := by
  cases b with
  | box t cells =>
    obtain ⟨g, vs, hi, hg, hl, hc⟩ := h
    exact ⟨g, vs, e _ _ hi, (hs g (by rw [hi]; rfl)).trans hg, hl, fun j x v h1 h2 => ⟨(hc j x v h1 h2).1.keep e k, (hc j x v h1 h2).2⟩⟩
  | row t sz xs =>
    obtain ⟨v, vs, hi, ho, hl, hc⟩ := h
    refine ⟨v, vs, e _ _ hi, ?_, hl, fun j n x d h1 h2 => ?_⟩
    · obtain ⟨h1, h2⟩ := ho
      refine ⟨h1, ?_⟩
      rcases h2 with h2 | ⟨g, cap, cur, rfl, hg, hh, r⟩
      · exact .inl h2
      · exact .inr ⟨g, cap, cur, rfl, hg, (hs g (by rw [hi]; rfl)).trans hh, r⟩
    · obtain ⟨u, h3, h4⟩ := hc j n x d h1 h2
      exact ⟨u, h3, h4.keep k⟩
  | iter s pos =>
    obtain ⟨g, hi, hg⟩ := h
    exact ⟨g, e _ _ hi, (hs g (by rw [hi]; rfl)).trans hg⟩
  | mp es clock =>
    obtain ⟨g, hi, hg⟩ := h
    exact ⟨g, e _ _ hi, (hs g (by rw [hi]; rfl)).trans hg⟩
  | mpr g0 es clock =>
    obtain ⟨g, hi, hg, h0⟩ := h
    exact ⟨g, e _ _ hi, (hs g (by rw [hi]; rfl)).trans hg, h0⟩
  | gen p =>
    obtain ⟨v, hi, hg⟩ := h
    refine ⟨v, e _ _ hi, ?_⟩
    have he : ((vblk v).bind fun g => w'.heap[g]?) = (vblk v).bind fun g => w.heap[g]? := by
      cases hv : vblk v with
      | none => rfl
      | some g => exact hs g (by rw [hi]; exact hv)
    rw [he]
    exact p.mono _ _ _ _ (fun d u h => h.keep k) hg
  | rowc t sz xs L C =>
    obtain ⟨g, cur, hi, hg, h1, h2, h3, h4, h5, h6⟩ := h
    refine ⟨g, cur, e _ _ hi, (hs g (by rw [hi]; rfl)).trans hg, h1, h2, h3, h4, h5, fun j n x d a b => ?_⟩
    obtain ⟨u, u1, u2⟩ := h6 j n x d a b
    exact ⟨u, u1, u2.keep k⟩

end Go.AM

/- A machine over pure data: part 2: its states, what they say of Go's frame and world, and the rules for pieces of code. -/
namespace Go.AM
open Go

def lk {α : Type} : List (Nat × α) → Nat → Option α
  | [], _ => none
  | (s, v) :: r, t => bif Nat.beq s t then some v else lk r t

structure St where
  n : Nat
  T : List (Nat × AV)
  H : List (Nat × Option Blk)
  Hp : List Blk
  clk : Nat

def hk (σ : St) : Id → Option Blk
  | .loc k => match lk σ.H k with
    | some (some b) => some b
    | _ => none
  | .par k => σ.Hp[k]?

/-- What a call began with: the caller's blocks that it is handed (W: it may write them; G: they are given to it for good), the world. -/
structure Ctx where
  ρp : Nat → Option Value
  O0 : Nat → Prop
  W : Nat → Prop
  w0 : World
  G : Nat → Prop
  dfr : List Deferred

/-- A block of the call's own: it is new, or was given to it. -/
def Nw (c : Ctx) (g : Nat) : Prop := c.w0.heap.size ≤ g ∨ c.G g

structure Fr (c : Ctx) (O : Nat → Prop) (w : World) : Prop where
  os : w.os = c.w0.os
  tape : w.tape = c.w0.tape
  output : w.output = c.w0.output
  size : c.w0.heap.size ≤ w.heap.size
  same : ∀ k, k < c.w0.heap.size → ¬ c.W k → ¬ c.G k → w.heap[k]? = c.w0.heap[k]?
  mono : ∀ k, c.O0 k → O k
  news : ∀ k, O k → c.O0 k ∨ Nw c k
  wlt : ∀ k, c.W k → c.O0 k ∧ k < c.w0.heap.size
  olt : ∀ k, O k → k < w.heap.size
  olt0 : ∀ k, c.O0 k → k < c.w0.heap.size
  glt : ∀ k, c.G k → ¬ c.O0 k ∧ k < c.w0.heap.size

theorem Fr.nw {c : Ctx} {O : Nat → Prop} {w : World} (h : Fr c O w) {g : Nat} (hg : Nw c g) : ¬ c.O0 g := by
  intro h0
  rcases hg with hg | hg
  · have := h.olt0 g h0; omega
  · exact (h.glt g hg).1 h0
theorem Fr.wn {c : Ctx} {O : Nat → Prop} {w : World} (h : Fr c O w) {g : Nat} (hg : Nw c g) : ¬ c.W g := fun hW => h.nw hg (h.wlt g hW).1

/-- Where a block may lie: one that was handed in is one that may be written; one of the call's own is new. -/
def place (c : Ctx) : Id → Nat → Prop
  | .par _, g => c.W g
  | .loc _, g => Nw c g
theorem place_or {c : Ctx} {i : Id} {g : Nat} (h : place c i g) : c.W g ∨ Nw c g := by
  cases i with
  | par k => exact .inl h
  | loc k => exact .inr h

structure HS (c : Ctx) (ρ : Env) (O : Nat → Prop) (w : World) (h : Id → Option Blk) : Prop where
  ok : ∀ i b, h i = some b → BOK ρ O w i b
  own : ∀ i b g, h i = some b → (ρ i).bind vblk = some g → O g ∧ g < w.heap.size ∧ place c i g
  inj : ∀ i j bi bj g, h i = some bi → h j = some bj → (ρ i).bind vblk = some g → (ρ j).bind vblk = some g → i = j

/-- Go's frame and world are as the state says, at ρ and O. -/
structure SatAt (c : Ctx) (σ : St) (a : Act) (w : World) (ρ : Env) (O : Nat → Prop) : Prop where
  defers : a.defers = c.dfr
  n : a.tmps.size = σ.n
  par : ∀ k, ρ (.par k) = c.ρp k
  fresh : ∀ k, σ.clk ≤ k → ρ (.loc k) = none
  T : ∀ t x, lk σ.T t = some x → ∃ v, a.tmps[t]? = some v ∧ VR ρ O w x v
  H : HS c ρ O w (hk σ)
  F : Fr c O w

def Sat (c : Ctx) (σ : St) (a : Act) (w : World) : Prop := ∃ ρ O, SatAt c σ a w ρ O

def Imp (σ σ' : St) : Prop := ∀ c a w, Sat c σ a w → Sat c σ' a w
theorem Imp.refl (σ : St) : Imp σ σ := fun _ _ _ h => h
theorem Imp.trans {a b c : St} (h : Imp a b) (k : Imp b c) : Imp a c := fun x y z q => k x y z (h x y z q)

def post (c : Ctx) (Q : Exit → St → Prop) : Exit → Act → World → Prop := fun e a w => ∃ σ, Q e σ ∧ Sat c σ a w

def AW (P : Program) (code : Code) (Q : Exit → St → Prop) (σ : St) : Prop := ∀ c a w, Sat c σ a w → code.wp P (post c Q) a w

def thenQ (N : St → Prop) (Q : Exit → St → Prop) : Exit → St → Prop
  | .normal, σ => N σ
  | e, σ => Q e σ

def inBlockQ (id : Nat) (Q : Exit → St → Prop) : Exit → St → Prop
  | .exit id', σ => if id' = id then Q .normal σ else Q (.exit id') σ
  | e, σ => Q e σ

section
variable {P : Program} {Q : Exit → St → Prop} {σ : St}

theorem AW.mono {code : Code} {Q' : Exit → St → Prop} (h : AW P code Q σ) (hq : ∀ e σ, Q e σ → Q' e σ) : AW P code Q' σ :=
  fun c a w hs => wp_mono (h c a w hs) fun _ _ _ ⟨σ', q, s⟩ => ⟨σ', hq _ _ q, s⟩

theorem AW.imp {code : Code} {σ' : St} (hi : Imp σ σ') (h : AW P code Q σ') : AW P code Q σ := fun c a w hs => h c a w (hi c a w hs)

theorem AW.skip (h : Q .normal σ) : AW P .skip Q σ := fun _ _ _ hs => wp_skip ⟨σ, h, hs⟩
theorem AW.label {l : Nat} (h : Q .normal σ) : AW P (.label l) Q σ := fun _ _ _ hs => wp_label ⟨σ, h, hs⟩
theorem AW.exit {id : Nat} (h : Q (.exit id) σ) : AW P (.exit id) Q σ := fun _ _ _ hs => wp_exit ⟨σ, h, hs⟩
theorem AW.ret (h : Q .ret σ) : AW P .ret Q σ := fun _ _ _ hs => wp_ret ⟨σ, h, hs⟩

theorem AW.seq {x y : Code} (h : ∀ K : St → Prop, (∀ σ, AW P y Q σ → K σ) → AW P x (thenQ K Q) σ) : AW P (.seq x y) Q σ := by
  intro c a w hs
  refine wp_seq (wp_mono (h (AW P y Q) (fun _ q => q) c a w hs) ?_)
  rintro e a' w' ⟨σ', hq, hs'⟩
  cases e with
  | normal => exact hq c a' w' hs'
  | exit id => exact ⟨σ', hq, hs'⟩
  | goto l => exact ⟨σ', hq, hs'⟩
  | ret => exact ⟨σ', hq, hs'⟩
  | panic ch => exact ⟨σ', hq, hs'⟩
  | outgrown => exact ⟨σ', hq, hs'⟩

theorem AW.block {id : Nat} {x : Code} (h : AW P x (inBlockQ id Q) σ) : AW P (.block id x) Q σ := by
  intro c a w hs
  refine wp_block (wp_mono (h c a w hs) ?_)
  rintro e a' w' ⟨σ', hq, hs'⟩
  cases e with
  | exit id' =>
    simp only [inBlockQ] at hq
    simp only [Exit.inBlock]
    split
    · rename_i h; rw [if_pos h] at hq; exact ⟨σ', hq, hs'⟩
    · rename_i h; rw [if_neg h] at hq; exact ⟨σ', hq, hs'⟩
  | normal => exact ⟨σ', hq, hs'⟩
  | goto l => exact ⟨σ', hq, hs'⟩
  | ret => exact ⟨σ', hq, hs'⟩
  | panic ch => exact ⟨σ', hq, hs'⟩
  | outgrown => exact ⟨σ', hq, hs'⟩

/-- A loop: a family of states, each a number, which every round lowers. -/
theorem AW.loop {body : Code} {ι : Type} (I : ι → St) (Pre : ι → Prop) (μ : ι → Nat) (x0 : ι) (h0 : Pre x0) (hi : Imp σ (I x0))
    (round : ∀ x, Pre x → ∀ K : St → Prop, (∀ σ' y, Pre y → μ y < μ x → Imp σ' (I y) → K σ') → AW P body (thenQ K Q) (I x)) : AW P (.loop body) Q σ := by
  intro c a w hs
  refine wp_loop_ghost (fun n a w => ∃ x, Pre x ∧ μ x = n ∧ Sat c (I x) a w) (μ x0) ⟨x0, h0, rfl, hi c a w hs⟩ ?_
  rintro n a w ⟨x, hp, rfl, hs⟩
  refine wp_mono (round x hp (fun σ' => ∃ y, Pre y ∧ μ y < μ x ∧ Imp σ' (I y)) (fun σ' y h1 h2 h3 => ⟨y, h1, h2, h3⟩) c a w hs) ?_
  rintro e a' w' ⟨σ', hq, hs'⟩
  cases e with
  | normal =>
    obtain ⟨y, h1, h2, h3⟩ := hq
    exact ⟨μ y, h2, y, h1, rfl, h3 _ _ _ hs'⟩
  | exit id => exact ⟨σ', hq, hs'⟩
  | goto l => exact ⟨σ', hq, hs'⟩
  | ret => exact ⟨σ', hq, hs'⟩
  | panic ch => exact ⟨σ', hq, hs'⟩
  | outgrown => exact ⟨σ', hq, hs'⟩
end

/-! ### operands -/
def cv : Value → Option AV
  | .slice none 0 0 => some .nilrow
  | .agg _ => none
  | .tuple _ => none
  | v => some (.d (.one v))
def cvs : List Value → Option (List AV)
  | [] => some []
  | v :: r => match cv v with
    | some x => match cvs r with
      | some xs => some (x :: xs)
      | none => none
    | none => none

def ev (σ : St) : Operand → Option AV
  | .tmp t => lk σ.T t
  | .const v => match v with
    | .agg cs => match cvs cs.toList with
      | some xs => some (.agg xs)
      | none => none
    | v => cv v
  | .func f => some (.fn f [])
  | .global _ => none

theorem cv_sound {v : Value} {x : AV} (h : cv v = some x) (ρ : Env) (O : Nat → Prop) (w : World) : VR ρ O w x v := by
  unfold cv at h
  split at h
  · cases h; exact .nilrow
  · cases h
  · cases h
  · rename_i h1 h2 h3
    cases h
    refine .d _ _ (.one _ ?_)
    cases v <;> first | rfl | (exact absurd rfl (h2 _)) | (exact absurd rfl (h3 _))

theorem cvs_sound : ∀ {vs : List Value} {xs : List AV}, cvs vs = some xs → xs.length = vs.length ∧ ∀ (ρ : Env) (O : Nat → Prop) (w : World) (k : Nat) x v, xs[k]? = some x → vs[k]? = some v → VR ρ O w x v
  | [], xs, h => by
    simp only [cvs] at h
    cases h
    exact ⟨rfl, fun ρ O w k x v h => by simp at h⟩
  | v :: r, xs, h => by
    simp only [cvs] at h
    split at h
    · rename_i x hx
      split at h
      · rename_i ys hy
        cases h
        obtain ⟨h1, h2⟩ := cvs_sound hy
        refine ⟨by simp [h1], fun ρ O w k x' v' h3 h4 => ?_⟩
        cases k with
        | zero =>
          simp at h3 h4
          subst h3; subst h4
          exact cv_sound hx ρ O w
        | succ k => exact h2 ρ O w k x' v' (by simpa using h3) (by simpa using h4)
      · cases h
    · cases h

theorem ev_sound {c : Ctx} {σ : St} {a : Act} {w : World} {ρ : Env} {O : Nat → Prop} (hs : SatAt c σ a w ρ O) {x : Operand} {av : AV} (h : ev σ x = some av) : VR ρ O w av (a.eval x) := by
  cases x with
  | tmp t =>
    obtain ⟨v, h1, h2⟩ := hs.T t av h
    have : a.eval (.tmp t) = v := by
      simp [Act.eval, Array.getD_eq_getD_getElem?, h1]
    rw [this]; exact h2
  | const v =>
    show VR ρ O w av v
    simp only [ev] at h
    split at h
    · rename_i cs
      split at h
      · rename_i xs hx
        cases h
        obtain ⟨h1, h2⟩ := cvs_sound hx
        exact .agg _ _ (by simpa using h1) (fun k x v h3 h4 => h2 ρ O w k x v h3 (by simpa using h4))
      · cases h
    · exact cv_sound h ρ O w
  | func f =>
    simp only [ev] at h
    cases h
    exact .fn f [] #[] rfl (fun k x v h => by simp at h)
  | global g => cases h

theorem AW.cond {P : Program} {Q : Exit → St → Prop} {σ : St} {x y : Code} {o : Operand} {b : Bool} (hc : ev σ o = some (.d (.one (.bool b))))
    (ht : b = true → AW P x Q σ) (hf : b = false → AW P y Q σ) : AW P (.cond o x y) Q σ := by
  rintro c a w ⟨ρ, O, hs⟩
  have h := ev_sound hs hc
  generalize hv : a.eval o = v at h
  cases h with
  | d _ _ h =>
    cases h with
    | one _ _ =>
      refine wp_cond_split hv (fun h => ht h c a w ⟨ρ, O, hs⟩) (fun h => hf h c a w ⟨ρ, O, hs⟩)

end Go.AM

/- A machine over pure data: part 3: what it knows of types; the steps that read, and those that make a variable. -/
namespace Go.AM
open Go

inductive TK where
  | bool
  | int (k : IntKind)
  | str
  | slice (e : Nat)
  | strct (offs tys : List Nat)
  | ptr (e : Nat)
  | arr (n e : Nat)
  | map (k e : Nat)
  | func
  | iface
  | other
  deriving DecidableEq

def tkOf : TypeDesc → TK
  | .bool => .bool
  | .int k => .int k
  | .string => .str
  | .slice e => .slice e
  | .struct fs => .strct (fs.toList.map (·.offset)) (fs.toList.map (·.type))
  | .pointer e => .ptr e
  | .array n e => .arr n e
  | .map k e => .map k e
  | .func .. => .func
  | .interface _ => .iface
  | _ => .other

structure TI where
  k : TK
  size : Nat
  bytes : Nat
  zero : List AV

def zeqs : Value → AV → Bool
  | .int k n, .d (.one (.int k' n')) => decide (k = k') && decide (n = n')
  | .bool b, .d (.one (.bool b')) => b == b'
  | .string s, .d (.one (.string s')) => decide (s = s')
  | .slice none 0 0, .nilrow => true
  | .pointer none, .d (.one (.pointer none)) => true
  | .nilFunc, .d (.one .nilFunc) => true
  | .nilIface, .d (.one .nilIface) => true
  | .map none, .d (.one (.map none)) => true
  | _, _ => false
def zall : List Value → List AV → Bool
  | [], [] => true
  | v :: r, x :: s => zeqs v x && zall r s
  | _, _ => false

def tcheck (P : Program) (t : Nat) (i : TI) : Bool :=
  match P.info? t, P.underlying t with
  | some ti, some d => decide (ti.size = i.size) && decide (ti.bytes = i.bytes) && decide (tkOf d = i.k) && (match ti.zero with | some z => zall z.cells.toList i.zero | none => false)
  | _, _ => false

def TOK (P : Program) (ts : List (Nat × TI)) : Prop := ts.all (fun p => tcheck P p.1 p.2) = true

theorem lk_mem {α : Type} {t : Nat} {x : α} : ∀ {l : List (Nat × α)}, lk l t = some x → (t, x) ∈ l
  | [], h => by simp [lk] at h
  | (s, v) :: r, h => by
    simp only [lk] at h
    cases hb : Nat.beq s t with
    | true =>
      rw [hb] at h
      simp at h
      have := Nat.eq_of_beq_eq_true hb
      subst this; subst h
      exact List.mem_cons_self
    | false =>
      rw [hb] at h
      exact List.mem_cons_of_mem _ (lk_mem h)

structure TFacts (P : Program) (t : Nat) (i : TI) : Prop where
  info : ∃ ti z, P.info? t = some ti ∧ ti.size = i.size ∧ ti.bytes = i.bytes ∧ ti.zero = some z ∧ zall z.cells.toList i.zero = true
  und : ∃ d, P.underlying t = some d ∧ tkOf d = i.k

theorem TOK.facts {P : Program} {ts : List (Nat × TI)} (h : TOK P ts) {t : Nat} {i : TI} (hi : lk ts t = some i) : TFacts P t i := by
  have h1 := List.all_eq_true.1 h (t, i) (lk_mem hi)
  simp only [tcheck] at h1
  split at h1
  · rename_i ti d h2 h3
    simp only [Bool.and_eq_true, decide_eq_true_eq] at h1
    obtain ⟨⟨⟨h4, h5⟩, h6⟩, h7⟩ := h1
    split at h7
    · rename_i z hz
      exact ⟨⟨ti, z, h2, h4, h5, hz, h7⟩, ⟨d, h3, h6⟩⟩
    · cases h7
  · cases h1

theorem zeqs_sound {v : Value} {x : AV} (h : zeqs v x = true) (ρ : Env) (O : Nat → Prop) (w : World) : VR ρ O w x v ∧ v.oneCell' = true := by
  unfold zeqs at h
  split at h
  · simp at h
    obtain ⟨rfl, rfl⟩ := h
    exact ⟨.d _ _ (.one _ rfl), rfl⟩
  · simp at h
    subst h
    exact ⟨.d _ _ (.one _ rfl), rfl⟩
  · simp at h
    subst h
    exact ⟨.d _ _ (.one _ rfl), rfl⟩
  · exact ⟨.nilrow, rfl⟩
  · exact ⟨.d _ _ (.one _ rfl), rfl⟩
  · exact ⟨.d _ _ (.one _ rfl), rfl⟩
  · exact ⟨.d _ _ (.one _ rfl), rfl⟩
  · exact ⟨.d _ _ (.one _ rfl), rfl⟩
  · cases h

theorem zall_sound : ∀ {vs : List Value} {xs : List AV}, zall vs xs = true → vs.length = xs.length ∧ ∀ (ρ : Env) (O : Nat → Prop) (w : World) (k : Nat) x v, xs[k]? = some x → vs[k]? = some v → VR ρ O w x v ∧ v.oneCell' = true
  | [], [], _ => ⟨rfl, fun ρ O w k x v h => by simp at h⟩
  | v :: r, x :: s, h => by
    simp only [zall, Bool.and_eq_true] at h
    obtain ⟨h1, h2⟩ := zall_sound h.2
    refine ⟨by simp [h1], fun ρ O w k x' v' h3 h4 => ?_⟩
    cases k with
    | zero =>
      simp at h3 h4
      subst h3; subst h4
      exact zeqs_sound h.1 ρ O w
    | succ k => exact h2 ρ O w k x' v' (by simpa using h3) (by simpa using h4)
  | [], _ :: _, h => by simp [zall] at h
  | _ :: _, [], h => by simp [zall] at h

/-! ### steps -/
def AStep (P : Program) (o : Oper) (σ σ' : St) : Prop :=
  ∀ c a w, Sat c σ a w → ∀ (K : Act → World → Prop) (Q : Exit → Act → World → Prop), (∀ a' w', Sat c σ' a' w' → K a' w') → o.wp P a w K Q

def put : St → Option Tmp → AV → Option St
  | ⟨n, T, H, Hp, clk⟩, some d, x => bif Nat.blt d n then some ⟨n, (d, x) :: T, H, Hp, clk⟩ else none
  | σ, none, _ => some σ

theorem put_sat {c : Ctx} {σ σ' : St} {a : Act} {w : World} {ρ : Env} {O : Nat → Prop} (hs : SatAt c σ a w ρ O) {dst : Option Tmp} {x : AV} {v : Value} (hv : VR ρ O w x v)
    (hp : put σ dst x = some σ') : SatAt c σ' (a.put dst v) w ρ O := by
  obtain ⟨n, T, H, Hp, clk⟩ := σ
  cases dst with
  | none =>
    simp only [put] at hp
    cases hp
    exact hs
  | some d =>
    simp only [put] at hp
    cases hb : Nat.blt d n with
    | false => rw [hb] at hp; cases hp
    | true =>
      rw [hb] at hp
      simp at hp
      subst hp
      have hd : d < n := by simpa [Nat.blt_eq] using hb
      have hn : a.tmps.size = n := hs.n
      refine ⟨hs.defers, by simpa [Act.put] using hn, hs.par, hs.fresh, fun t y ht => ?_, hs.H, hs.F⟩
      simp only [lk] at ht
      cases ht' : Nat.beq d t with
      | true =>
        rw [ht'] at ht
        simp at ht
        have := Nat.eq_of_beq_eq_true ht'
        subst this; subst ht
        exact ⟨v, by simp [Act.put, hn, hd], hv⟩
      | false =>
        rw [ht'] at ht
        obtain ⟨u, h1, h2⟩ := hs.T t y ht
        have hne : d ≠ t := fun e => by rw [e] at ht'; simp at ht'
        exact ⟨u, by simp [Act.put, hne, h1], h2⟩

theorem AStep.value {P : Program} {o : Oper} {σ σ' : St} {x : AV} (hp : put σ o.dst x = some σ')
    (h : ∀ c a w ρ O, SatAt c σ a w ρ O → ∃ v, (execOp a.eval o).run P w = .ok (.value v) w ∧ VR ρ O w x v) : AStep P o σ σ' := by
  rintro c a w ⟨ρ, O, hs⟩ K Q hK
  obtain ⟨v, h1, h2⟩ := h c a w ρ O hs
  unfold Oper.wp
  rw [h1]
  exact hK _ _ ⟨ρ, O, put_sat hs h2 hp⟩

def mk : St → Blk → St
  | ⟨n, T, H, Hp, clk⟩, b => ⟨n, T, (clk, some b) :: H, Hp, clk + 1⟩

def upd (ρ : Env) (k : Nat) (v : Value) : Env := fun i => if i = .loc k then some v else ρ i
theorem upd_ext {ρ : Env} {k : Nat} {v : Value} (h : ρ (.loc k) = none) : Ext ρ (upd ρ k v) := by
  intro i u hu
  unfold upd
  split
  · rename_i e; rw [e, h] at hu; cases hu
  · exact hu
theorem upd_self (ρ : Env) (k : Nat) (v : Value) : upd ρ k v (.loc k) = some v := by simp [upd]

theorem lk_cons_ne {α : Type} {s t : Nat} {v : α} {r : List (Nat × α)} (h : s ≠ t) : lk ((s, v) :: r) t = lk r t := by
  simp only [lk]
  cases hb : Nat.beq s t with
  | true => exact absurd (Nat.eq_of_beq_eq_true hb) h
  | false => rfl
theorem lk_cons_self {α : Type} {t : Nat} {v : α} {r : List (Nat × α)} : lk ((t, v) :: r) t = some v := by
  simp [lk]

/-- A new block of the call's own, at the heap's end. -/
theorem mk_sat {c : Ctx} {σ : St} {a : Act} {w w' : World} {ρ : Env} {O : Nat → Prop} (hs : SatAt c σ a w ρ O) (b : Blk) (v : Value) (hv : vblk v = some w.heap.size ∨ vblk v = none)
    (hk0 : Keeps O w (fun k => O k ∨ k = w.heap.size) w') (hsize : w.heap.size < w'.heap.size) (hold : ∀ k, k < w.heap.size → w'.heap[k]? = w.heap[k]?)
    (hos : w'.os = w.os) (htape : w'.tape = w.tape) (hout : w'.output = w.output)
    (hb : BOK (upd ρ σ.clk v) (fun k => O k ∨ k = w.heap.size) w' (.loc σ.clk) b) :
    SatAt c (mk σ b) a w' (upd ρ σ.clk v) (fun k => O k ∨ k = w.heap.size) := by
  obtain ⟨n, T, H, Hp, clk⟩ := σ
  have hf := hs.fresh clk (Nat.le_refl _)
  have he := upd_ext (v := v) hf
  have hlk : ∀ i b', hk (mk ⟨n, T, H, Hp, clk⟩ b) i = some b' → (i = .loc clk ∧ b' = b) ∨ (i ≠ .loc clk ∧ hk ⟨n, T, H, Hp, clk⟩ i = some b') := by
    intro i b' h
    cases i with
    | par k => exact .inr ⟨by simp, h⟩
    | loc k =>
      by_cases hk' : clk = k
      · subst hk'
        simp only [mk, hk, lk_cons_self] at h
        exact .inl ⟨rfl, by cases h; rfl⟩
      · refine .inr ⟨fun e => by injection e with e; exact hk' e.symm, ?_⟩
        simpa only [mk, hk, lk_cons_ne hk'] using h
  have hρ : ∀ i b' g, hk ⟨n, T, H, Hp, clk⟩ i = some b' → i ≠ .loc clk → (upd ρ clk v i).bind vblk = some g → (ρ i).bind vblk = some g := by
    intro i b' g _ h1 h2
    simpa [upd, h1] using h2
  refine ⟨hs.defers, hs.n, ?_, ?_, ?_, ⟨?_, ?_, ?_⟩, ?_⟩
  · intro k
    simpa [upd] using hs.par k
  · intro k hk'
    simp only [mk] at hk'
    have : ρ (.loc k) = none := hs.fresh k (by simp only; omega)
    simp only [upd]
    rw [if_neg (by intro e; injection e with e; omega)]
    exact this
  · intro t x ht
    obtain ⟨u, h1, h2⟩ := hs.T t x (by simpa [mk] using ht)
    exact ⟨u, h1, h2.keep he hk0⟩
  · intro i b' h
    rcases hlk i b' h with ⟨rfl, rfl⟩ | ⟨hne, h⟩
    · exact hb
    · refine (hs.H.ok i b' h).keep he hk0 (fun g hg => hold g ?_)
      exact (hs.H.own i b' g h hg).2.1
  · intro i b' g h hg
    rcases hlk i b' h with ⟨rfl, rfl⟩ | ⟨hne, h⟩
    · rw [upd_self] at hg
      simp only [Option.bind_some] at hg
      rcases hv with hv | hv
      · rw [hv] at hg
        injection hg with hg
        subst hg
        exact ⟨.inr rfl, hsize, .inl hs.F.size⟩
      · rw [hv] at hg; cases hg
    · obtain ⟨h1, h2, h3⟩ := hs.H.own i b' g h (hρ i b' g h hne hg)
      exact ⟨.inl h1, by omega, h3⟩
  · intro i j bi bj g hi hj hgi hgj
    rcases hlk i bi hi with ⟨rfl, hbi⟩ | ⟨hne, hi'⟩ <;> rcases hlk j bj hj with ⟨rfl, hbj⟩ | ⟨hne', hj'⟩
    · rfl
    · exfalso
      have h1 := (hs.H.own j bj g hj' (hρ j bj g hj' hne' hgj)).2.1
      rw [upd_self] at hgi
      simp only [Option.bind_some] at hgi
      rcases hv with hv | hv <;> rw [hv] at hgi
      · injection hgi with e; omega
      · cases hgi
    · exfalso
      have h1 := (hs.H.own i bi g hi' (hρ i bi g hi' hne hgi)).2.1
      rw [upd_self] at hgj
      simp only [Option.bind_some] at hgj
      rcases hv with hv | hv <;> rw [hv] at hgj
      · injection hgj with e; omega
      · cases hgj
    · exact hs.H.inj i j bi bj g hi' hj' (hρ i bi g hi' hne hgi) (hρ j bj g hj' hne' hgj)
  · have hF := hs.F
    exact ⟨hos.trans hF.os, htape.trans hF.tape, hout.trans hF.output, by have := hF.size; omega, fun k hk' hW hG => (hold k (by have := hF.size; omega)).trans (hF.same k hk' hW hG),
      fun k hk' => .inl (hF.mono k hk'), fun k hk' => by
        rcases hk' with hk' | hk'
        · exact hF.news k hk'
        · exact .inr (.inl (by rw [hk']; exact hF.size)), hF.wlt, fun k hk' => by
        rcases hk' with hk' | hk'
        · have := hF.olt k hk'; omega
        · omega, hF.olt0, hF.glt⟩

end Go.AM

/- A machine over pure data: part 4: the steps, and why Go's machine takes them. -/
namespace Go.AM
open Go Go.RowKit

def isCell : AV → Bool
  | .agg _ => false
  | .tup _ => false
  | .junk => false
  | _ => true

theorem VR.oneCell {ρ : Env} {O : Nat → Prop} {w : World} {x : AV} {v : Value} (h : VR ρ O w x v) (hc : isCell x = true) : v.oneCell' = true := by
  cases h with
  | d x v h => exact h.oneCell
  | own i v h h1 => exact h1
  | agg => cases hc
  | tup => cases hc
  | junk => cases hc
  | _ => rfl

def takeK {β : Type} : List AV → Nat → (List AV → Option β) → Option β
  | _, 0, k => k []
  | x :: xs, n + 1, k => takeK xs n (fun r => k (x :: r))
  | [], _ + 1, _ => none
def takeD {β : Type} : List D → Nat → (List AV → Option β) → Option β
  | _, 0, k => k []
  | x :: xs, n + 1, k => takeD xs n (fun r => k (.d x :: r))
  | [], _ + 1, _ => none
def dropK {α β : Type} : List α → Nat → (List α → Option β) → Option β
  | xs, 0, k => k xs
  | _ :: xs, n + 1, k => dropK xs n k
  | [], _ + 1, _ => none
def nthK {α β : Type} : List α → Nat → (α → Option β) → Option β
  | x :: _, 0, k => k x
  | _ :: xs, n + 1, k => nthK xs n k
  | [], _, _ => none
/-- ys in the place of what stands from n on. -/
def putK {β : Type} : List AV → Nat → List AV → (List AV → Option β) → Option β
  | xs, 0, [], k => k xs
  | _ :: xs, 0, y :: ys, k => putK xs 0 ys (fun r => k (y :: r))
  | x :: xs, n + 1, ys, k => putK xs n ys (fun r => k (x :: r))
  | _, _, _, _ => none

theorem takeK_spec {β : Type} {r : β} : ∀ {xs : List AV} {n : Nat} {k : List AV → Option β}, takeK xs n k = some r → n ≤ xs.length ∧ k (xs.take n) = some r
  | xs, 0, k, h => by
    cases xs <;> exact ⟨Nat.zero_le _, by simpa [takeK] using h⟩
  | x :: xs, n + 1, k, h => by
    simp only [takeK] at h
    obtain ⟨h1, h2⟩ := takeK_spec h
    exact ⟨by simp; omega, by simpa using h2⟩
  | [], n + 1, k, h => by simp [takeK] at h
theorem takeD_spec {β : Type} {r : β} : ∀ {xs : List D} {n : Nat} {k : List AV → Option β}, takeD xs n k = some r → n ≤ xs.length ∧ k ((xs.take n).map .d) = some r
  | xs, 0, k, h => by
    cases xs <;> exact ⟨Nat.zero_le _, by simpa [takeD] using h⟩
  | x :: xs, n + 1, k, h => by
    simp only [takeD] at h
    obtain ⟨h1, h2⟩ := takeD_spec h
    exact ⟨by simp; omega, by simpa using h2⟩
  | [], n + 1, k, h => by simp [takeD] at h
theorem dropK_spec {α β : Type} {r : β} : ∀ {xs : List α} {n : Nat} {k : List α → Option β}, dropK xs n k = some r → n ≤ xs.length ∧ k (xs.drop n) = some r
  | xs, 0, k, h => by
    cases xs <;> exact ⟨Nat.zero_le _, by simpa [dropK] using h⟩
  | x :: xs, n + 1, k, h => by
    simp only [dropK] at h
    obtain ⟨h1, h2⟩ := dropK_spec h
    exact ⟨by simp; omega, by simpa using h2⟩
  | [], n + 1, k, h => by simp [dropK] at h
theorem nthK_spec {α β : Type} {r : β} : ∀ {xs : List α} {n : Nat} {k : α → Option β}, nthK xs n k = some r → ∃ x, xs[n]? = some x ∧ k x = some r
  | x :: xs, 0, k, h => ⟨x, rfl, by simpa [nthK] using h⟩
  | x :: xs, n + 1, k, h => by
    simp only [nthK] at h
    obtain ⟨y, h1, h2⟩ := nthK_spec h
    exact ⟨y, by simpa using h1, h2⟩
  | [], n, k, h => by simp [nthK] at h
theorem putK_spec {β : Type} {r : β} : ∀ {xs : List AV} {n : Nat} {ys : List AV} {k : List AV → Option β}, putK xs n ys k = some r →
    n + ys.length ≤ xs.length ∧ ∃ zs, zs.length = xs.length ∧ k zs = some r ∧ ∀ (j : Nat), zs[j]? = if n ≤ j ∧ j < n + ys.length then ys[j - n]? else xs[j]?
  | xs, 0, [], k, h => by
    have h' : k xs = some r := by cases xs <;> simpa [putK] using h
    exact ⟨by simp, xs, rfl, h', fun j => by simp⟩
  | x :: xs, 0, y :: ys, k, h => by
    simp only [putK] at h
    obtain ⟨h1, zs, h2, h3, h4⟩ := putK_spec h
    refine ⟨by simp at h1 ⊢; omega, y :: zs, by simp [h2], h3, fun j => ?_⟩
    cases j with
    | zero => simp
    | succ j =>
      have := h4 j
      simp only [Nat.zero_le, true_and, Nat.zero_add, Nat.sub_zero] at this ⊢
      simp only [List.length_cons, List.getElem?_cons_succ]
      rw [this]
      by_cases hj : j < ys.length
      · rw [if_pos hj, if_pos (by omega)]
      · rw [if_neg hj, if_neg (by omega)]
  | x :: xs, n + 1, ys, k, h => by
    simp only [putK] at h
    obtain ⟨h1, zs, h2, h3, h4⟩ := putK_spec h
    refine ⟨by simp; omega, x :: zs, by simp [h2], h3, fun j => ?_⟩
    cases j with
    | zero => simp
    | succ j =>
      simp only [List.getElem?_cons_succ]
      rw [h4 j]
      by_cases hj : n ≤ j ∧ j < n + ys.length
      · rw [if_pos hj, if_pos (by omega)]
        congr 1
        omega
      · rw [if_neg hj, if_neg (by omega)]
  | [], 0, y :: ys, k, h => by simp [putK] at h
  | [], n + 1, ys, k, h => by simp [putK] at h

def szAgg : TI → Bool
  | ⟨.strct _ _, _, _, _⟩ => true
  | ⟨.arr _ _, _, _, _⟩ => true
  | _ => false

theorem TFacts.sizeOf {P : Program} {t : Nat} {i : TI} (h : TFacts P t i) (w : World) : (sizeOf t).run P w = .ok i.size w := by
  obtain ⟨ti, z, h1, h2, _⟩ := h.info
  simp [Go.sizeOf, typeInfo, h1, h2]
theorem TFacts.isAgg {P : Program} {t : Nat} {i : TI} (h : TFacts P t i) (w : World) : (isAgg t).run P w = .ok (szAgg i) w := by
  obtain ⟨d, h1, h2⟩ := h.und
  obtain ⟨k, sz, by_, z⟩ := i
  simp only at h2
  subst h2
  cases d <;> simp [Go.isAgg, run_underlying h1, szAgg, tkOf]
theorem TFacts.zeroU {P : Program} {t : Nat} {i : TI} (h : TFacts P t i) : ∃ z, (∀ w, (zeroValue t).run P w = .ok z w) ∧ zall z.cells.toList i.zero = true := by
  obtain ⟨ti, z, h1, h2, h3, h4, h5⟩ := h.info
  exact ⟨z, fun w => by simp [zeroValue, typeInfo, h1, h4], h5⟩
theorem TFacts.zero {P : Program} {t : Nat} {i : TI} (h : TFacts P t i) (w : World) : ∃ z, (zeroValue t).run P w = .ok z w ∧ zall z.cells.toList i.zero = true := by
  obtain ⟨z, h1, h2⟩ := h.zeroU
  exact ⟨z, h1 w, h2⟩

/-- A variable's cells, at the world. -/
theorem box_cells {c : Ctx} {σ : St} {a : Act} {w : World} {ρ : Env} {O : Nat → Prop} (hs : SatAt c σ a w ρ O) {i : Id} {e : TypeId} {cells : List AV} (h : hk σ i = some (.box e cells)) :
    ∃ g vs, (ρ i).bind vblk = some g ∧ w.heap[g]? = some (.cells vs e (0, 0)) ∧ vs.size = cells.length ∧ ∀ (k : Nat) x v, cells[k]? = some x → vs[k]? = some v → VR ρ O w x v ∧ v.oneCell' = true := by
  obtain ⟨g, vs, h1, h2, h3, h4⟩ := hs.H.ok i _ h
  exact ⟨g, vs, by rw [h1]; rfl, h2, h3, h4⟩

/-- What stands from an address on, at the world. -/
theorem loadVar_run {P : Program} {ts : List (Nat × TI)} (hT : TOK P ts) {t : Nat} {i : TI} (hi : lk ts t = some i) {w : World} (p : Addr) (u : List Value)
    (hl : u.length = if szAgg i then i.size else 1) (hc : ∀ k v, u[k]? = some v → w.cell? (p.add k) = some v) :
    (loadVar t p).run P w = .ok (if szAgg i then .agg u.toArray else u.headD undef) w := by
  have hf := hT.facts hi
  unfold loadVar
  simp only [Sem.run_bind, hf.isAgg, Result.andThen_ok]
  cases hg : szAgg i with
  | true =>
    rw [hg] at hl
    simp only [if_true] at hl
    have := run_loadCells_list (P := P) w p u hc
    simp only [if_true, Sem.run_bind, hf.sizeOf, Result.andThen_ok, ← hl, this, Sem.run_pure]
  | false =>
    rw [hg] at hl
    simp at hl
    match u, hl with
    | [v], _ =>
      have := hc 0 v rfl
      have ha : p.add 0 = p := by simp [Addr.add]
      rw [ha] at this
      simp [this]

/-! ### what reads -/
def aload (ts : List (Nat × TI)) (σ : St) (t : Nat) (x : AV) : Option AV :=
  match lk ts t with
  | none => none
  | some i => match x with
    | .ptr id off => match hk σ id with
      | some (.box _ cells) => bif szAgg i then dropK cells off (fun r => takeK r i.size (fun r => some (.agg r))) else nthK cells off (fun y => some y)
      | _ => none
    | .eptr rest => bif szAgg i then takeD rest i.size (fun r => some (.agg r)) else nthK rest 0 (fun y => some (.d y))
    | _ => none

theorem aload_sound {P : Program} {ts : List (Nat × TI)} (hT : TOK P ts) {c : Ctx} {σ : St} {a : Act} {w : World} {ρ : Env} {O : Nat → Prop} (hs : SatAt c σ a w ρ O)
    {t : Nat} {x y : AV} {v : Value} (hv : VR ρ O w x v) (h : aload ts σ t x = some y) : ∃ u, (∀ w', Below w.heap.size w w' → (Instr.loadAt t v).run P w' = .ok u w') ∧ VR ρ O w y u := by
  unfold aload at h
  split at h
  · cases h
  · rename_i i hi
    split at h
    · rename_i id off
      split at h
      · rename_i e cells hb
        obtain ⟨g, vs, h1, h2, h3, h4⟩ := box_cells hs hb
        cases hv with
        | ptr _ _ g' h5 =>
          rw [h1] at h5
          injection h5 with h5
          subst h5
          have hcell : ∀ w', Below w.heap.size w w' → ∀ (k : Nat) (v : Value), (vs.toList.drop off)[k]? = some v → w'.cell? (Addr.add ⟨g, off, none⟩ k) = some v := by
            intro w' hbw k v hv
            have hlt : g < w.heap.size := (Array.getElem?_eq_some_iff.1 h2).1
            have : (Addr.add ⟨g, off, none⟩ k) = ⟨g, off + k, none⟩ := by unfold Addr.add; split <;> simp_all
            rw [this, hbw.cell (p := ⟨g, off + k, none⟩) hlt, cell_of_row w g _ vs e (0, 0) h2]
            simpa using hv
          cases hg : szAgg i with
          | true =>
            rw [hg] at h
            simp only [cond_true] at h
            obtain ⟨h6, h7⟩ := dropK_spec h
            obtain ⟨h8, h9⟩ := takeK_spec h7
            injection h9 with h9
            subst h9
            have hlen : vs.toList.length = cells.length := by simpa using h3
            have := fun w' hbw => loadVar_run hT hi (w := w') ⟨g, off, none⟩ ((vs.toList.drop off).take i.size) (by rw [hg]; simp at h8 ⊢; omega) (fun k v hv => hcell w' hbw k v (by
              rw [List.getElem?_take] at hv
              split at hv
              · exact hv
              · cases hv))
            rw [hg] at this
            refine ⟨_, fun w' hbw => by simpa [Instr.loadAt, Instr.sureAddr] using this w' hbw, .agg _ _ (by simp at h8 ⊢; omega) (fun k x v hx hv => ?_)⟩
            rw [List.getElem?_take] at hx
            split at hx
            · rename_i hk
              rw [List.getElem?_drop] at hx
              refine (h4 (off + k) x v hx ?_).1
              simp [hk, List.getElem?_drop] at hv
              simpa using hv
            · cases hx
          | false =>
            rw [hg] at h
            simp only [cond_false] at h
            obtain ⟨y', h6, h7⟩ := nthK_spec h
            injection h7 with h7
            subst h7
            have hlt : off < vs.size := by rw [h3]; exact (List.getElem?_eq_some_iff.1 h6).1
            have := fun w' hbw => loadVar_run hT hi (w := w') ⟨g, off, none⟩ [vs[off]] (by rw [hg]; rfl) (fun k v hv => hcell w' hbw k v (by
              cases k with
              | zero => simpa [hlt] using hv
              | succ k => simp at hv))
            rw [hg] at this
            exact ⟨_, fun w' hbw => by simpa [Instr.loadAt, Instr.sureAddr] using this w' hbw, (h4 off y' _ h6 (by simp [hlt])).1⟩
      · cases h
    · rename_i rest
      cases hv with
      | eptr _ p u hO hb hcell0 hsub =>
        have hcell : ∀ w', Below w.heap.size w w' → ∀ (k : Nat) d, rest[k]? = some d → w'.cell? (p.add k) = some (u k) := fun w' hbw k d hd => (hbw.cell (p := p.add k) (by rw [block_add]; exact hb)).trans (hcell0 k d hd)
        cases hg : szAgg i with
        | true =>
          rw [hg] at h
          simp only [cond_true] at h
          obtain ⟨h8, h9⟩ := takeD_spec h
          injection h9 with h9
          subst h9
          have := fun w' hbw => loadVar_run hT hi (w := w') p ((List.range i.size).map u) (by rw [hg]; simp) (fun k v hv => by
            simp only [List.getElem?_map] at hv
            by_cases hk : k < i.size
            · rw [List.getElem?_range hk] at hv
              simp at hv
              subst hv
              have hk' : k < rest.length := by omega
              exact hcell w' hbw k _ (List.getElem?_eq_getElem hk')
            · rw [List.getElem?_eq_none (by simp; omega)] at hv
              cases hv)
          rw [hg] at this
          refine ⟨_, fun w' hbw => by simpa [Instr.loadAt, Instr.sureAddr] using this w' hbw, .agg _ _ (by simp; omega) (fun k x v hx hv => ?_)⟩
          simp only [List.getElem?_map, List.getElem?_take] at hx
          split at hx
          · rename_i hk
            rw [Option.map_eq_some_iff] at hx
            obtain ⟨d, hd, rfl⟩ := hx
            simp [hk] at hv
            subst hv
            exact .d _ _ (hsub k d hd)
          · simp at hx
        | false =>
          rw [hg] at h
          simp only [cond_false] at h
          obtain ⟨y', h6, h7⟩ := nthK_spec h
          injection h7 with h7
          subst h7
          have := fun w' hbw => loadVar_run hT hi (w := w') p [u 0] (by rw [hg]; rfl) (fun k v hv => by
            cases k with
            | zero => simp at hv; subst hv; exact hcell w' hbw 0 _ h6
            | succ k => simp at hv)
          rw [hg] at this
          exact ⟨_, fun w' hbw => by simpa [Instr.loadAt, Instr.sureAddr] using this w' hbw, .d _ _ (hsub 0 _ h6)⟩
    · cases h

end Go.AM

/- A machine over pure data: part 5: the steps that leave the world alone, and those that make or write a variable. -/
namespace Go.AM
open Go

def afield (ts : List (Nat × TI)) (t f : Nat) : Option (Nat × Nat) :=
  match lk ts t with
  | some ⟨.strct offs tys, _, _, _⟩ => nthK offs f fun o => nthK tys f fun ty => some (o, ty)
  | _ => none

def afieldAddr (ts : List (Nat × TI)) (t f : Nat) (x : AV) : Option AV :=
  match afield ts t f with
  | some (o, ty) => match lk ts ty with
    | some ⟨_, _ + 1, _, _⟩ => match x with
      | .ptr id off => some (.ptr id (off + o))
      | .rptr id sz j g => some (.rptr id sz j (g + o))
      | .eptr rest => dropK rest o fun r => some (.eptr r)
      | _ => none
    | _ => none
  | none => none

theorem add_ptr (g off o : Nat) : (Addr.add ⟨g, off, none⟩ o) = ⟨g, off + o, none⟩ := by unfold Addr.add; split <;> simp_all
theorem add_add (p : Addr) (m n : Nat) : (p.add m).add n = p.add (m + n) := by
  unfold Addr.add
  by_cases hm : m = 0
  · subst hm; simp
  · by_cases hn : n = 0
    · subst hn; simp
    · simp [hm, hn, Nat.add_assoc]

theorem afield_sound {P : Program} {ts : List (Nat × TI)} (hT : TOK P ts) {t f o ty : Nat} (h : afield ts t f = some (o, ty)) :
    ∃ fs fl, P.underlying t = some (.struct fs) ∧ fs[f]? = some fl ∧ fl.offset = o ∧ fl.type = ty := by
  unfold afield at h
  split at h
  · rename_i offs tys s b z hi
    obtain ⟨o', h1, h2⟩ := nthK_spec h
    obtain ⟨t', h3, h4⟩ := nthK_spec h2
    injection h4 with h4
    injection h4 with h4 h5
    subst h4; subst h5
    obtain ⟨d, h6, h7⟩ := (hT.facts hi).und
    cases d with
    | struct fs =>
      simp only [tkOf] at h7
      injection h7 with h7 h8
      subst h7; subst h8
      rw [List.getElem?_map] at h1 h3
      cases hf : fs.toList[f]? with
      | none => rw [hf] at h1; cases h1
      | some fl =>
        rw [hf] at h1 h3
        simp at h1 h3
        exact ⟨fs, fl, h6, by simpa using hf, h1, h3⟩
    | _ => simp [tkOf] at h7
  · cases h

theorem afieldAddr_sound {P : Program} {ts : List (Nat × TI)} (hT : TOK P ts) {w : World} {ρ : Env} {O : Nat → Prop} {t f : Nat} {x y : AV} {v : Value}
    (hv : VR ρ O w x v) (h : afieldAddr ts t f x = some y) : ∃ u, (∀ w', (Instr.fieldAt t v f).run P w' = .ok u w') ∧ VR ρ O w y u := by
  unfold afieldAddr at h
  split at h
  · rename_i o ty hf
    obtain ⟨fs, fl, h1, h2, h3, h4⟩ := afield_sound hT hf
    split at h
    · rename_i k n b z hi
      have hsz := (hT.facts hi).sizeOf (P := P)
      have hrun : ∀ (p : Addr) (w' : World), (Instr.fieldAt t (.pointer (some p)) f).run P w' = .ok (.pointer (some (p.add o))) w' := by
        intro p w'
        simp [Instr.fieldAt, run_underlying h1, h2, Instr.sureAddr, fieldPlace, h3, h4, hsz]
      split at h
      · cases h
        cases hv with
        | ptr _ _ g hg => exact ⟨_, hrun _, by rw [add_ptr]; exact .ptr _ _ g hg⟩
      · cases h
        cases hv with
        | rptr _ _ _ _ g' hg => exact ⟨_, hrun _, by rw [add_ptr, Nat.add_assoc]; exact .rptr _ _ _ _ g' hg⟩
      · obtain ⟨h5, h6⟩ := dropK_spec h
        cases h6
        cases hv with
        | eptr _ p u hO hb hcell hsub =>
          refine ⟨_, hrun p, .eptr _ _ (fun k => u (o + k)) (by rw [block_add]; exact hO) (by rw [block_add]; exact hb) (fun k d hk => ?_) (fun k d hk => ?_)⟩
          · rw [List.getElem?_drop] at hk
            rw [add_add]
            exact hcell _ d hk
          · rw [List.getElem?_drop] at hk
            exact hsub _ d hk
      · cases h
    · cases h
  · cases h

/-- 'x.f' of a struct that is a value. -/
def afieldV (ts : List (Nat × TI)) (t f : Nat) (x : AV) : Option AV :=
  match afield ts t f with
  | some (o, ty) => match lk ts ty with
    | some i => match x with
      | .agg xs => bif szAgg i then dropK xs o (fun r => takeK r i.size (fun r => some (.agg r))) else nthK xs o (fun y => some y)
      | _ => none
    | _ => none
  | none => none

theorem afieldV_sound {P : Program} {ts : List (Nat × TI)} (hT : TOK P ts) {w : World} {ρ : Env} {O : Nat → Prop} {t f : Nat} {x y : AV} {v : Value}
    (hv : VR ρ O w x v) (h : afieldV ts t f x = some y) : ∃ u, (∀ w', (Instr.field t v f).run P w' = .ok u w') ∧ VR ρ O w y u := by
  unfold afieldV at h
  split at h
  · rename_i o ty hf
    obtain ⟨fs, fl, h1, h2, h3, h4⟩ := afield_sound hT hf
    split at h
    · rename_i i hi
      have hf := hT.facts hi
      split at h
      · rename_i xs
        cases hv with
        | agg _ vs hl hc =>
          cases hg : szAgg i with
          | true =>
            rw [hg] at h
            simp only [cond_true] at h
            obtain ⟨h6, h7⟩ := dropK_spec h
            obtain ⟨h8, h9⟩ := takeK_spec h7
            injection h9 with h9
            subst h9
            simp only [List.length_drop] at h8
            refine ⟨.agg (vs.extract o (o + i.size)), fun w' => by simp [Instr.field, run_underlying h1, h2, part, h3, h4, hf.isAgg, hf.sizeOf, hg, asAgg], .agg _ _ (by simp; omega) (fun k x v hx hv => ?_)⟩
            rw [List.getElem?_take] at hx
            split at hx
            · rename_i hk
              rw [List.getElem?_drop] at hx
              refine hc (o + k) x v hx ?_
              rw [Array.getElem?_extract] at hv
              split at hv
              · exact hv
              · cases hv
            · cases hx
          | false =>
            rw [hg] at h
            simp only [cond_false] at h
            obtain ⟨y', h6, h7⟩ := nthK_spec h
            injection h7 with h7
            subst h7
            have hlt : o < vs.size := by rw [← hl]; exact (List.getElem?_eq_some_iff.1 h6).1
            exact ⟨vs[o], fun w' => by simp [Instr.field, run_underlying h1, h2, part, h3, h4, hf.isAgg, hg, asAgg, hlt], hc o y' _ h6 (by simp [hlt])⟩
      · cases h
    · cases h
  · cases h

/-! ### arithmetic's tests -/
theorem toList_inj {x y : ByteArray} : (x.data.toList == y.data.toList) = decide (x = y) := by
  rw [Bool.eq_iff_iff]
  simp only [beq_iff_eq, decide_eq_true_eq]
  constructor
  · intro h
    cases x; cases y
    simp only at h
    rw [Array.toList_inj.1 h]
  · rintro rfl; rfl

def strLess (x y : ByteArray) : Bool := Op.bytesLess x.data.toList y.data.toList

def acmp (op : BinOp) (x y : Value) : Option Bool :=
  match x, y with
  | .int k a, .int k' b => bif decide (k = k') then match op with
    | .eql => some (decide (a = b))
    | .neq => some (!decide (a = b))
    | .lss => some (decide (a < b))
    | .leq => some (decide (a ≤ b))
    | .gtr => some (decide (b < a))
    | .geq => some (decide (b ≤ a))
    | _ => none else none
  | .string s, .string t => match op with
    | .eql => some (decide (s = t))
    | .neq => some (!decide (s = t))
    | .lss => some (strLess s t)
    | .leq => some (strLess s t || decide (s = t))
    | .gtr => some (!(strLess s t || decide (s = t)))
    | .geq => some (!strLess s t)
    | _ => none
  | _, _ => none

theorem acmp_sound {P : Program} {op : BinOp} {t : TypeId} {x y : Value} {b : Bool} (ox oy : Operand) (h : acmp op x y = some b) (w : World) :
    (do eqGuard op t ox oy x y; binOp op t x y : Sem Value).run P w = .ok (.bool b) w := by
  unfold acmp at h
  have hg : (eqGuard op t ox oy x y).run P w = .ok () w := by
    unfold eqGuard
    split at h
    · split <;> rfl
    · split <;> rfl
    · cases h
  simp only [Sem.run_bind, hg, Result.andThen_ok]
  split at h
  · rename_i k a k' b'
    cases hk : decide (k = k') with
    | false => rw [hk] at h; cases h
    | true =>
      rw [hk] at h
      have hk := of_decide_eq_true hk
      subst hk
      simp only [cond_true] at h
      split at h <;> first | (cases h; done) | (injection h with h; subst h; simp [binOp, Op.intCmp]; done) | (injection h with h; subst h; simp [binOp, Op.intCmp]; rfl)
  · rename_i s t'
    have h1 := ByteArray.toList_eq
    split at h <;> first | (cases h; done) | (injection h with h; subst h; simp only [binOp, Op.stringOp, h1, toList_inj, strLess, Sem.run_pure])
  · cases h

def aun (op : UnOp) (x : Value) : Option Value :=
  match op, x with
  | .not, .bool b => some (.bool (!b))
  | .neg, .int k n => some (.int k (k.wrap (0 - n)))
  | _, _ => none

theorem aun_sound {P : Program} {op : UnOp} {x y : Value} (h : aun op x = some y) (w : World) : (Op.unary op x).run P w = .ok y w ∧ y.oneCell' = true := by
  unfold aun at h
  split at h
  · cases h; exact ⟨rfl, rfl⟩
  · cases h; exact ⟨rfl, rfl⟩
  · cases h

def aari (op : BinOp) (x y : Value) : Option Value :=
  match x, y with
  | .int k a, .int k' b => bif decide (k = k') then match op with
    | .add => some (.int k (k.wrap (a + b)))
    | .sub => some (.int k (k.wrap (a - b)))
    | .mul => some (.int k (k.wrap (a * b)))
    | _ => none else none
  | _, _ => none

theorem aari_sound {P : Program} {op : BinOp} {t : TypeId} {x y z : Value} (ox oy : Operand) (h : aari op x y = some z) (w : World) :
    (do eqGuard op t ox oy x y; binOp op t x y : Sem Value).run P w = .ok z w ∧ z.oneCell' = true := by
  unfold aari at h
  split at h
  · rename_i k a k' b'
    have hg : (eqGuard op t ox oy (.int k a) (.int k' b')).run P w = .ok () w := by
      unfold eqGuard
      split <;> rfl
    by_cases hk : k = k'
    · subst hk
      simp only [decide_true, cond_true] at h
      split at h <;> first | (cases h; done) | (injection h with h; subst h; exact ⟨by simp [hg, binOp, Op.intArith], rfl⟩)
    · simp only [decide_eq_false hk, cond_false] at h
      cases h
  · cases h

def abin (op : BinOp) (x y : Value) : Option Value :=
  match acmp op x y with
  | some b => some (.bool b)
  | none => aari op x y

theorem abin_sound {P : Program} {op : BinOp} {t : TypeId} {x y z : Value} (ox oy : Operand) (h : abin op x y = some z) (w : World) :
    (do eqGuard op t ox oy x y; binOp op t x y : Sem Value).run P w = .ok z w ∧ z.oneCell' = true := by
  unfold abin at h
  cases hb : acmp op x y with
  | some b =>
    rw [hb] at h
    cases h
    exact ⟨acmp_sound ox oy hb w, rfl⟩
  | none =>
    rw [hb] at h
    exact aari_sound ox oy h w

/-- How long a value is, as 'len' tells. -/
def alen (σ : St) (x : AV) : Option Nat :=
  match x with
  | .d (.one (.string s)) => some s.size
  | .d (.row xs) => some xs.length
  | .nilrow => some 0
  | .own i => match hk σ i with
    | some (.row _ _ xs) => some xs.length
    | _ => none
  | .sub _ _ _ n _ => some n
  | _ => none

def isStr : AV → Bool
  | .d (.one (.string _)) => true
  | _ => false
def lenKind (k : TK) (x : AV) : Bool :=
  match k with
  | .slice _ => !isStr x
  | .str => isStr x
  | _ => false

theorem alen_sound {P : Program} {ts : List (Nat × TI)} (hT : TOK P ts) {c : Ctx} {σ : St} {a : Act} {w : World} {ρ : Env} {O : Nat → Prop} (hs : SatAt c σ a w ρ O) {t ty : Nat} {i : TI}
    (hi : lk ts t = some i) {x : AV} (hl : lenKind i.k x = true) {v : Value} (hv : VR ρ O w x v) {n : Nat} (h : alen σ x = some n) (w' : World) : (Builtin.len_ #[t] ty #[v]).run P w' = .ok (.int .i64 n) w' := by
  obtain ⟨d, h1, h2⟩ := (hT.facts hi).und
  have hslice : ∀ A (n c : Nat), isStr x = false → (Builtin.len_ #[t] ty #[.slice A n c]).run P w' = .ok (.int .i64 n) w' := by
    intro A n c hne
    rw [← h2] at hl
    cases d <;> simp [tkOf, lenKind, hne] at hl <;> simp [Builtin.len_, run_underlying h1, goInt]
  cases x with
  | d x =>
    cases x with
    | one u =>
      cases u with
      | string s =>
        simp only [alen] at h
        cases h
        cases hv with
        | d _ _ h =>
          cases h with
          | one =>
            rw [← h2] at hl
            cases d <;> simp [tkOf, lenKind, isStr] at hl <;> simp [Builtin.len_, run_underlying h1, goInt]
      | _ => simp [alen] at h
    | row xs =>
      simp only [alen] at h
      cases h
      cases hv with
      | d _ _ h =>
        obtain ⟨A, c', rfl, _⟩ := h.slice
        exact hslice _ _ _ rfl
  | nilrow =>
    simp only [alen] at h
    cases h
    cases hv
    exact hslice _ _ _ rfl
  | own id =>
    simp only [alen] at h
    split at h
    · rename_i e sz xs hb
      cases h
      cases hv with
      | own _ _ h3 h4 =>
        obtain ⟨v', vs, h5, h6, _⟩ := hs.H.ok id _ hb
        rw [h3] at h5
        injection h5 with h5
        subst h5
        rcases h6.2 with ⟨rfl, h7⟩ | ⟨g, cap, cur, rfl, _⟩
        · rw [h7]; exact hslice _ _ _ rfl
        · exact hslice _ _ _ rfl
    · cases h
  | sub i sz lo m full =>
    simp only [alen] at h
    cases h
    cases hv with
    | sub => exact hslice _ _ _ rfl
    | subN => exact hslice _ _ _ rfl
  | _ => simp [alen] at h

end Go.AM

/- A machine over pure data: part 6: a struct's literal; one step of any kind that needs no proof of its own. -/
namespace Go.AM
open Go

/-! ### a struct's literal -/
def afill {β : Type} (ts : List (Nat × TI)) (offs tys : List Nat) : List AV → List (Nat × AV) → (List AV → Option β) → Option β
  | cells, [], k => k cells
  | cells, (f, v) :: r, k => nthK offs f fun o => nthK tys f fun ty => match lk ts ty with
    | none => none
    | some i => match v with
      | .agg xs => bif Nat.beq xs.length i.size && xs.all isCell then putK cells o xs (fun cs => afill ts offs tys cs r k) else none
      | x => bif Nat.beq 1 i.size && isCell x then putK cells o [x] (fun cs => afill ts offs tys cs r k) else none

def aparts {β : Type} (σ : St) : List (Nat × Operand) → (List (Nat × AV) → Option β) → Option β
  | [], k => k []
  | (f, x) :: r, k => match ev σ x with
    | some v => aparts σ r (fun l => k ((f, v) :: l))
    | none => none

def abuild (ts : List (Nat × TI)) (σ : St) (t : Nat) (parts : List (Nat × Operand)) : Option AV :=
  match lk ts t with
  | some ⟨.strct offs tys, _, _, zero⟩ => bif tys.all (fun ty => (lk ts ty).isSome) then aparts σ parts fun l => afill ts offs tys zero l fun cs => some (.agg cs) else none
  | _ => none

def cellsV : AV → List AV
  | .agg xs => xs
  | x => [x]

theorem VR.cells {ρ : Env} {O : Nat → Prop} {w : World} {x : AV} {v : Value} (h : VR ρ O w x v) (hc : (cellsV x).all isCell = true) :
    v.cells.size = (cellsV x).length ∧ ∀ (k : Nat) y u, (cellsV x)[k]? = some y → v.cells[k]? = some u → VR ρ O w y u ∧ u.oneCell' = true := by
  cases x with
  | agg xs =>
    cases h with
    | agg _ vs hl h =>
      refine ⟨hl.symm, fun k y u h1 h2 => ?_⟩
      have h3 := h k y u h1 h2
      exact ⟨h3, h3.oneCell (List.all_eq_true.1 hc y (List.mem_of_getElem? h1))⟩
  | _ =>
    have h1 := h.oneCell (by simpa [cellsV] using hc)
    have h2 : v.cells = #[v] := by cases v <;> first | rfl | cases h1
    rw [h2]
    refine ⟨rfl, fun k y u h3 h4 => ?_⟩
    cases k with
    | zero =>
      simp [cellsV] at h3 h4
      subst h3; subst h4
      exact ⟨h, h1⟩
    | succ k => simp [cellsV] at h3

theorem fill_fold (v : Array Value) (off : Nat) (cells : Array Value) (h : off + v.size ≤ cells.size) :
    (v.zipIdx.foldl (fun cs x => cs.setIfInBounds (off + x.2) x.1) cells).size = cells.size ∧
      ∀ m : Nat, (v.zipIdx.foldl (fun cs x => cs.setIfInBounds (off + x.2) x.1) cells)[m]? = if off ≤ m ∧ m < off + v.size then v[m - off]? else cells[m]? := by
  have key : ∀ (l : List Value) (s : Nat) (cells : Array Value), off + s + l.length ≤ cells.size →
      ((l.zipIdx s).foldl (fun cs x => cs.setIfInBounds (off + x.2) x.1) cells).size = cells.size ∧
        ∀ m : Nat, ((l.zipIdx s).foldl (fun cs x => cs.setIfInBounds (off + x.2) x.1) cells)[m]? = if off + s ≤ m ∧ m < off + s + l.length then l[m - (off + s)]? else cells[m]? := by
    intro l
    induction l with
    | nil => intro s cells _; refine ⟨rfl, fun m => ?_⟩; rw [if_neg (by simp)]; simp
    | cons x l ih =>
      intro s cells hl
      simp only [List.length_cons] at hl
      simp only [List.zipIdx_cons, List.foldl_cons]
      obtain ⟨h1, h2⟩ := ih (s + 1) (cells.setIfInBounds (off + s) x) (by simp; omega)
      refine ⟨by rw [h1]; simp, fun m => ?_⟩
      rw [h2 m]
      simp only [List.length_cons]
      by_cases hm : m = off + s
      · subst hm
        rw [if_neg (by omega), if_pos (by omega)]
        have : off + s < cells.size := by omega
        simp [this]
      · by_cases hm2 : off + (s + 1) ≤ m ∧ m < off + (s + 1) + l.length
        · rw [if_pos hm2, if_pos (by omega)]
          have : m - (off + s) = (m - (off + (s + 1))) + 1 := by omega
          rw [this, List.getElem?_cons_succ]
        · rw [if_neg hm2, if_neg (by omega)]
          rw [Array.getElem?_setIfInBounds, if_neg (Ne.symm hm)]
  have := key v.toList 0 cells (by simpa using h)
  rw [← Array.foldl_toList]
  have hz : v.zipIdx.toList = v.toList.zipIdx 0 := by simp
  rw [hz]
  simpa using this

/-- What is filled in, cell by cell. -/
theorem afill_sound {P : Program} {ts : List (Nat × TI)} (hT : TOK P ts) {ρ : Env} {O : Nat → Prop} {w : World} {fs : Array Field} {offs tys : List Nat} (ho : offs = fs.toList.map (·.offset)) (ht : tys = fs.toList.map (·.type))
    {places : Array (Nat × Nat)} (hp : ∀ (k : Nat) fl, fs[k]? = some fl → ∀ i, lk ts fl.type = some i → places[k]? = some (fl.offset, i.size)) {r : AV} :
    ∀ {l : List (Nat × AV)} {ps : List (Nat × Value)} {cells : List AV} {vs : Array Value} {k : List AV → Option AV}, afill ts offs tys cells l k = some r →
      ps.length = l.length → (∀ (j : Nat) x p, l[j]? = some x → ps[j]? = some p → p.1 = x.1 ∧ VR ρ O w x.2 p.2) →
      vs.size = cells.length → (∀ (j : Nat) x v, cells[j]? = some x → vs[j]? = some v → VR ρ O w x v ∧ v.oneCell' = true) →
      ∃ cs us, k cs = some r ∧ Instr.fill (places[·]?) vs ps = some us ∧ us.size = cs.length ∧ ∀ (j : Nat) x v, cs[j]? = some x → us[j]? = some v → VR ρ O w x v ∧ v.oneCell' = true
  | [], ps, cells, vs, k, h, hl, _, hs, hc => by
    simp only [afill] at h
    obtain rfl : ps = [] := List.eq_nil_of_length_eq_zero (by simpa using hl)
    exact ⟨cells, vs, h, rfl, hs, hc⟩
  | (f, x) :: l, [], cells, vs, k, h, hl, _, _, _ => by simp at hl
  | (f, x) :: l, (f', v) :: ps, cells, vs, k, h, hl, hps, hs, hc => by
    simp only [afill] at h
    obtain ⟨o, h1, h2⟩ := nthK_spec h
    obtain ⟨ty, h3, h4⟩ := nthK_spec h2
    have hfl : ∃ fl, fs[f]? = some fl ∧ fl.offset = o ∧ fl.type = ty := by
      rw [ho, List.getElem?_map] at h1
      rw [ht, List.getElem?_map] at h3
      cases hf : fs.toList[f]? with
      | none => rw [hf] at h1; cases h1
      | some fl =>
        rw [hf] at h1 h3
        simp at h1 h3
        exact ⟨fl, by simpa using hf, h1, h3⟩
    obtain ⟨fl, h5, h6, h7⟩ := hfl
    obtain ⟨h8, h9⟩ := hps 0 (f, x) (f', v) rfl rfl
    simp only at h8 h9
    subst h8
    split at h4
    · cases h4
    · rename_i i hi
      have hpl := hp f' fl h5 i (by rw [h7]; exact hi)
      -- one part
      have part : ∀ (xs : List AV), cellsV x = xs → xs.length = i.size → xs.all isCell = true → putK cells o xs (fun cs => afill ts offs tys cs l k) = some r →
          ∃ cs us, k cs = some r ∧ Instr.fill (places[·]?) vs ((f', v) :: ps) = some us ∧ us.size = cs.length ∧ ∀ (j : Nat) x v, cs[j]? = some x → us[j]? = some v → VR ρ O w x v ∧ v.oneCell' = true := by
        intro xs hx hxl hxa hput
        subst hx
        obtain ⟨hv1, hv2⟩ := h9.cells hxa
        obtain ⟨hb, zs, hz1, hz2, hz3⟩ := putK_spec hput
        have hle : o + v.cells.size ≤ vs.size := by rw [hv1, hs]; exact hb
        obtain ⟨hf1, hf2⟩ := fill_fold v.cells o vs hle
        have := afill_sound hT ho ht hp (l := l) (ps := ps) (cells := zs) (vs := v.cells.zipIdx.foldl (fun cs x => cs.setIfInBounds (o + x.2) x.1) vs) hz2 (by simpa using hl)
          (fun j x p h1 h2 => hps (j + 1) x p h1 h2) (by rw [hf1, hs, hz1]) (fun j y u hy hu => by
            rw [hz3] at hy
            rw [hf2, hv1] at hu
            split at hy
            · rename_i hj
              rw [if_pos hj] at hu
              exact hv2 _ y u hy hu
            · rename_i hj
              rw [if_neg hj] at hu
              exact hc j y u hy hu)
        obtain ⟨cs, us, e1, e2, e3, e4⟩ := this
        refine ⟨cs, us, e1, ?_, e3, e4⟩
        simp only [Instr.fill, hpl, h6]
        rw [if_neg (by rw [hv1, hxl]; simp; rw [← hxl, ← hv1]; exact hle)]
        exact e2
      split at h4
      · rename_i xs
        cases hb : (Nat.beq xs.length i.size && xs.all isCell) with
        | false => rw [hb] at h4; cases h4
        | true =>
          rw [hb] at h4
          simp only [Bool.and_eq_true, Nat.beq_eq] at hb
          exact part xs rfl hb.1 hb.2 h4
      · rename_i hna
        cases hb : (Nat.beq 1 i.size && isCell x) with
        | false => rw [hb] at h4; cases h4
        | true =>
          rw [hb] at h4
          simp only [Bool.and_eq_true, Nat.beq_eq] at hb
          exact part [x] (by cases x <;> first | rfl | exact absurd rfl (hna _)) hb.1 (by simp [hb.2]) h4

theorem aparts_sound {c : Ctx} {σ : St} {a : Act} {w : World} {ρ : Env} {O : Nat → Prop} (hs : SatAt c σ a w ρ O) {β : Type} {r : β} :
    ∀ {parts : List (Nat × Operand)} {k : List (Nat × AV) → Option β}, aparts σ parts k = some r →
      ∃ l, k l = some r ∧ (parts.map fun p => (p.1, a.eval p.2)).length = l.length ∧ ∀ (j : Nat) x p, l[j]? = some x → (parts.map fun p => (p.1, a.eval p.2))[j]? = some p → p.1 = x.1 ∧ VR ρ O w x.2 p.2
  | [], k, h => ⟨[], by simpa [aparts] using h, rfl, fun j x p h => by simp at h⟩
  | (f, x) :: parts, k, h => by
    simp only [aparts] at h
    split at h
    · rename_i v hv
      obtain ⟨l, h1, h2, h3⟩ := aparts_sound hs h
      refine ⟨(f, v) :: l, h1, by simpa using h2, fun j x' p hx hp => ?_⟩
      cases j with
      | zero =>
        simp at hx hp
        subst hx; subst hp
        exact ⟨rfl, ev_sound hs hv⟩
      | succ j => exact h3 j x' p (by simpa using hx) (by simpa using hp)
    · cases h

theorem run_mapM_list {P : Program} {α β : Type} (f : α → Sem β) (g : α → β) (w : World) : ∀ (l : List α), (∀ x ∈ l, (f x).run P w = .ok (g x) w) → (l.mapM f).run P w = .ok (l.map g) w
  | [], _ => rfl
  | x :: l, h => by
    rw [List.mapM_cons]
    simp [h x List.mem_cons_self, run_mapM_list f g w l (fun y hy => h y (List.mem_cons_of_mem _ hy))]

theorem abuild_sound {P : Program} {ts : List (Nat × TI)} (hT : TOK P ts) {c : Ctx} {σ : St} {a : Act} {w : World} {ρ : Env} {O : Nat → Prop} (hs : SatAt c σ a w ρ O) {t : Nat} {parts : Array (Nat × Operand)} {y : AV}
    (h : abuild ts σ t parts.toList = some y) : ∃ u, (∀ w', (Instr.build t (parts.map fun (i, x) => (i, a.eval x))).run P w' = .ok u w') ∧ VR ρ O w y u := by
  unfold abuild at h
  split at h
  · rename_i offs tys s b zero hi
    cases hall : tys.all (fun ty => (lk ts ty).isSome) with
    | false => rw [hall] at h; cases h
    | true =>
      rw [hall] at h
      simp only [cond_true] at h
      have hf := hT.facts hi
      obtain ⟨z, hz1, hz2⟩ := hf.zeroU
      obtain ⟨d, h1, h2⟩ := hf.und
      cases d with
      | struct fs =>
        simp only [tkOf, TK.strct.injEq] at h2
        obtain ⟨l, h3, h4, h5⟩ := aparts_sound hs h
        obtain ⟨hzl, hzv⟩ := zall_sound hz2
        have hsz : ∀ fl ∈ fs.toList, ∃ i, lk ts fl.type = some i := by
          intro fl hfl
          have : fl.type ∈ tys := by rw [← h2.2]; exact List.mem_map_of_mem hfl
          have := List.all_eq_true.1 hall _ this
          exact Option.isSome_iff_exists.1 this
        have hrun : ∀ w, (fs.mapM fun f => (do pure (f.offset, ← sizeOf f.type) : Sem (Nat × Nat))).run P w = .ok (fs.map fun f => (f.offset, ((lk ts f.type).map (·.size)).getD 0)) w := by
          intro w
          obtain ⟨fl⟩ := fs
          rw [List.mapM_toArray]
          rw [Sem.run_map, run_mapM_list _ (fun f => (f.offset, ((lk ts f.type).map (·.size)).getD 0)) w fl (fun f hf => by
            obtain ⟨i, hi⟩ := hsz f (by simpa using hf)
            simp [(hT.facts hi).sizeOf, hi])]
          simp
        obtain ⟨cs, us, e1, e2, e3, e4⟩ := afill_sound hT (ρ := ρ) (O := O) (w := w) h2.1.symm h2.2.symm (places := fs.map fun f => (f.offset, ((lk ts f.type).map (·.size)).getD 0))
          (fun k fl hfl i hi => by simp [hfl, hi]) (vs := z.cells) h3 h4 h5 (by simpa using hzl) (fun j x v hx hv => hzv ρ O w j x v hx (by simpa using hv))
        cases e1
        refine ⟨.agg us, ?_, .agg _ _ e3.symm (fun k x v hx hv => (e4 k x v hx hv).1)⟩
        have hp : (parts.map fun x => (x.1, a.eval x.2)).toList = parts.toList.map fun p => (p.1, a.eval p.2) := by simp
        intro w'
        simp only [Instr.build, Sem.run_bind, hz1, Result.andThen_ok, run_underlying h1, hrun, hp, e2, Sem.run_pure]
      | _ => simp [tkOf] at h2
  · cases h

end Go.AM

/- A machine over pure data: part 7: one step of any kind that needs no proof of its own. -/
namespace Go.AM
open Go Go.RowKit

def aevs {β : Type} (σ : St) : List Operand → (List AV → Option β) → Option β
  | [], k => k []
  | x :: r, k => match ev σ x with
    | some v => aevs σ r (fun l => k (v :: l))
    | none => none

theorem aevs_spec {σ : St} {β : Type} {r : β} : ∀ {l : List Operand} {k : List AV → Option β}, aevs σ l k = some r → ∃ xs, k xs = some r ∧ xs.length = l.length ∧ ∀ (j : Nat) x o, xs[j]? = some x → l[j]? = some o → ev σ o = some x
  | [], k, h => ⟨[], by simpa [aevs] using h, rfl, fun j x o h => by simp at h⟩
  | y :: l, k, h => by
    simp only [aevs] at h
    split at h
    · rename_i v hv
      obtain ⟨xs, h1, h2, h3⟩ := aevs_spec h
      refine ⟨v :: xs, h1, by simp [h2], fun j x o hx ho => ?_⟩
      cases j with
      | zero => simp at hx ho; subst hx; subst ho; exact hv
      | succ j => exact h3 j x o (by simpa using hx) (by simpa using ho)
    · cases h

/-- What an operation that leaves the world alone comes to. -/
def aval (ts : List (Nat × TI)) (σ : St) : Op → Option AV
  | .move x => ev σ x
  | .assign x => ev σ x
  | .pick c a b => match ev σ c with
    | some (.d (.one (.bool true))) => ev σ a
    | some (.d (.one (.bool false))) => ev σ b
    | _ => none
  | .build t parts => abuild ts σ t parts.toList
  | .load t x => match ev σ x with
    | some v => aload ts σ t v
    | none => none
  | .fieldAddr t x f => match ev σ x with
    | some v => afieldAddr ts t f v
    | none => none
  | .field t x f => match ev σ x with
    | some v => afieldV ts t f v
    | none => none
  | .binOp op _ x y _ => match ev σ x with
    | some (.d (.one u)) => match ev σ y with
      | some (.d (.one v)) => match acmp op u v with
        | some z => some (.d (.one (.bool z)))
        | none => none
      | _ => none
    | _ => none
  | .unOp .not _ x => match ev σ x with
    | some (.d (.one u)) => match aun .not u with
      | some z => some (.d (.one z))
      | none => none
    | _ => none
  | .makeFunc (.func f) ⟨[]⟩ captured => aevs σ captured.toList fun l => some (.fn f l)
  | .extract x k => match ev σ x with
    | some (.tup xs) => nthK xs k fun y => some y
    | _ => none
  | .nilCheck x => match ev σ x with
    | some (.ptr i off) => some (.ptr i off)
    | some (.eptr r) => some (.eptr r)
    | some (.rptr i sz j f) => some (.rptr i sz j f)
    | _ => none
  | .call ⟨.builtin .len, ⟨[x]⟩, ⟨[t]⟩⟩ => match ev σ x with
    | some v => match lk ts t with
      | some i => bif lenKind i.k v then match alen σ v with
        | some n => some (.d (.one (.int .i64 (n : Int))))
        | none => none else none
      | none => none
    | none => none
  | _ => none

theorem one_of {O : Nat → Prop} {w : World} {u v : Value} {ρ : Env} (h : VR ρ O w (.d (.one u)) v) : v = u := by
  cases h with
  | d _ _ h => cases h; rfl

theorem aval_sound {P : Program} {ts : List (Nat × TI)} (hT : TOK P ts) {c : Ctx} {σ : St} {a : Act} {w : World} {ρ : Env} {O : Nat → Prop} (hs : SatAt c σ a w ρ O) (o : Oper) {y : AV}
    (h : aval ts σ o.op = some y) : ∃ u, (∀ w', Below w.heap.size w w' → (execOp a.eval o).run P w' = .ok (.value u) w') ∧ VR ρ O w y u := by
  obtain ⟨dst, op, ty, pos, aft, g⟩ := o
  simp only at h
  unfold aval at h
  split at h
  · exact ⟨_, fun _ _ => rfl, ev_sound hs h⟩
  · exact ⟨_, fun _ _ => rfl, ev_sound hs h⟩
  · rename_i c' x y'
    split at h
    · rename_i hc
      have := one_of (ev_sound hs hc)
      exact ⟨a.eval x, fun _ _ => by simp [execOp, this, asBool], ev_sound hs h⟩
    · rename_i hc
      have := one_of (ev_sound hs hc)
      exact ⟨a.eval y', fun _ _ => by simp [execOp, this, asBool], ev_sound hs h⟩
    · cases h
  · obtain ⟨u, h1, h2⟩ := abuild_sound hT hs h
    exact ⟨u, fun w' _ => by simp [execOp, h1], h2⟩
  · split at h
    · rename_i v hv
      obtain ⟨u, h1, h2⟩ := aload_sound hT hs (ev_sound hs hv) h
      exact ⟨u, fun w' hb => by simp [execOp, h1 w' hb], h2⟩
    · cases h
  · split at h
    · rename_i v hv
      obtain ⟨u, h1, h2⟩ := afieldAddr_sound hT (ev_sound hs hv) h
      exact ⟨u, fun w' _ => by simp [execOp, h1], h2⟩
    · cases h
  · split at h
    · rename_i v hv
      obtain ⟨u, h1, h2⟩ := afieldV_sound hT (ev_sound hs hv) h
      exact ⟨u, fun w' _ => by simp [execOp, h1], h2⟩
    · cases h
  · rename_i op' t x y' yt
    split at h
    · rename_i u hu
      split at h
      · rename_i v hv
        split at h
        · rename_i z hz
          cases h
          have e1 := one_of (ev_sound hs hu)
          have e2 := one_of (ev_sound hs hv)
          refine ⟨.bool z, fun w' _ => ?_, .d _ _ (.one _ rfl)⟩
          simp only [execOp, e1, e2]
          rw [Sem.run_bind, acmp_sound (P := P) (t := t) x y' hz w']
          rfl
        · cases h
      · cases h
    · cases h
  · rename_i t x
    split at h
    · rename_i u hu
      split at h
      · rename_i z hz
        cases h
        have h2 := (aun_sound (P := P) hz w).2
        have e1 := one_of (ev_sound hs hu)
        exact ⟨z, fun w' _ => by simp [execOp, e1, (aun_sound (P := P) hz w').1], .d _ _ (.one z h2)⟩
      · cases h
    · cases h
  · rename_i f captured
    obtain ⟨xs, h1, h2, h3⟩ := aevs_spec h
    cases h1
    refine ⟨.func (.func f) #[] (captured.map a.eval), fun _ _ => by simp [execOp, Instr.makeFunc], .fn f xs _ (by simpa using h2) (fun k x v hx hv => ?_)⟩
    have hk : k < captured.size := by
      have := (List.getElem?_eq_some_iff.1 hx).1
      rw [h2] at this
      simpa using this
    simp [hk] at hv
    subst hv
    exact ev_sound hs (h3 k x _ hx (by simp [hk]))
  · rename_i x k
    split at h
    · rename_i xs hx
      obtain ⟨y', h1, h2⟩ := nthK_spec h
      cases h2
      have hv := ev_sound hs hx
      generalize hq : a.eval x = q at hv
      cases hv with
      | tup _ vs hl hc =>
        have hk : k < vs.size := by rw [← hl]; exact (List.getElem?_eq_some_iff.1 h1).1
        exact ⟨vs[k], fun _ _ => by simp [execOp, hq, Instr.extract, hk], hc k y _ h1 (by simp [hk])⟩
    · cases h
  · rename_i x
    split at h
    · rename_i i off hx
      cases h
      have hv := ev_sound hs hx
      generalize hq : a.eval x = q at hv
      cases hv with
      | ptr _ _ g' hg => exact ⟨_, fun _ _ => by simp [execOp, hq], .ptr _ _ g' hg⟩
    · rename_i r hx
      cases h
      have hv := ev_sound hs hx
      generalize hq : a.eval x = q at hv
      have hv' := hv
      cases hv with
      | eptr => exact ⟨_, fun _ _ => by simp [execOp, hq], hv'⟩
    · rename_i i sz j f hx
      cases h
      have hv := ev_sound hs hx
      generalize hq : a.eval x = q at hv
      have hv' := hv
      cases hv with
      | rptr => exact ⟨_, fun _ _ => by simp [execOp, hq], hv'⟩
    · cases h
  · rename_i x t
    split at h
    · rename_i v hv
      split at h
      · rename_i i hi
        cases hb : lenKind i.k v with
        | false => rw [hb] at h; cases h
        | true =>
          rw [hb] at h
          simp only [cond_true] at h
          split at h
          · rename_i n hn
            cases h
            have := fun w' => alen_sound hT hs (ty := ty) hi hb (ev_sound hs hv) hn w'
            exact ⟨_, fun _ _ => by simp [execOp, resolve, invoke, builtin, this], .d _ _ (.one _ rfl)⟩
          · cases h
      · cases h
    · cases h
  · cases h

def amk : St → TypeId → List AV → Option Tmp → Option St
  | ⟨n, T, H, Hp, clk⟩, e, cs, dst => put ⟨n, T, (clk, some (.box e cs)) :: H, Hp, clk + 1⟩ dst (.ptr (.loc clk) 0)

def setK {β : Type} : List Blk → Nat → Blk → (List Blk → Option β) → Option β
  | _ :: r, 0, b, k => k (b :: r)
  | x :: r, n + 1, b, k => setK r n b (fun l => k (x :: l))
  | [], _, _, _ => none
def aset : St → Id → Blk → Option St
  | ⟨n, T, H, Hp, clk⟩, .loc k, b => some ⟨n, T, (k, some b) :: H, Hp, clk⟩
  | ⟨n, T, H, Hp, clk⟩, .par k, b => setK Hp k b fun l => some ⟨n, T, H, l, clk⟩

theorem setK_spec {β : Type} {r : β} : ∀ {l : List Blk} {n : Nat} {b : Blk} {k : List Blk → Option β}, setK l n b k = some r → n < l.length ∧ k (l.set n b) = some r
  | x :: l, 0, b, k, h => ⟨by simp, by simpa [setK] using h⟩
  | x :: l, n + 1, b, k, h => by
    simp only [setK] at h
    obtain ⟨h1, h2⟩ := setK_spec h
    exact ⟨by simp; omega, by simpa using h2⟩
  | [], n, b, k, h => by simp [setK] at h

theorem aset_hk {σ σ' : St} {i : Id} {b : Blk} (h : aset σ i b = some σ') : hk σ' i = some b ∧ (∀ j, j ≠ i → hk σ' j = hk σ j) ∧ σ'.n = σ.n ∧ σ'.T = σ.T ∧ σ'.clk = σ.clk := by
  obtain ⟨n, T, H, Hp, clk⟩ := σ
  cases i with
  | loc k =>
    simp only [aset] at h
    cases h
    refine ⟨by simp only [hk, lk_cons_self], fun j hj => ?_, rfl, rfl, rfl⟩
    cases j with
    | par m => rfl
    | loc m => simp only [hk, lk_cons_ne (show k ≠ m from fun e => hj (by rw [e]))]
  | par k =>
    simp only [aset] at h
    obtain ⟨h1, h2⟩ := setK_spec h
    cases h2
    refine ⟨by simp [hk, h1], fun j hj => ?_, rfl, rfl, rfl⟩
    cases j with
    | loc m => rfl
    | par m => simp only [hk]; rw [List.getElem?_set_ne (fun e => hj (by rw [e]))]

/-- One block, known, is written; nothing else turns. -/
theorem chg_sat {c : Ctx} {σ σ' : St} {a : Act} {w w' : World} {ρ : Env} {O : Nat → Prop} (hs : SatAt c σ a w ρ O) {i : Id} {b0 b : Blk} (h0 : hk σ i = some b0) (hset : aset σ i b = some σ') {g : Nat} (hg : (ρ i).bind vblk = some g)
    (hold : ∀ k, k ≠ g → w'.heap[k]? = w.heap[k]?) (hsize : w'.heap.size = w.heap.size) (hos : w'.os = w.os) (htape : w'.tape = w.tape) (hout : w'.output = w.output) (hb : BOK ρ O w' i b) : SatAt c σ' a w' ρ O := by
  obtain ⟨h1, h2, h3, h4, h5⟩ := aset_hk hset
  obtain ⟨hO, hlt, hW⟩ := hs.H.own i b0 g h0 hg
  have hk0 : Keeps O w O w' := ⟨by omega, fun k hk hO' => hold k (fun e => hO' (e ▸ hO)), fun k hk => .inl hk⟩
  have hhk : ∀ j b', hk σ' j = some b' → (j = i ∧ b' = b) ∨ (j ≠ i ∧ hk σ j = some b') := by
    intro j b' h
    by_cases hj : j = i
    · subst hj; rw [h1] at h; cases h; exact .inl ⟨rfl, rfl⟩
    · rw [h2 j hj] at h; exact .inr ⟨hj, h⟩
  have hsome : ∀ j b', hk σ' j = some b' → ∃ b'', hk σ j = some b'' := by
    intro j b' h
    rcases hhk j b' h with ⟨rfl, _⟩ | ⟨_, h⟩
    · exact ⟨_, h0⟩
    · exact ⟨_, h⟩
  refine ⟨hs.defers, by rw [h3]; exact hs.n, hs.par, fun k hk => hs.fresh k (by omega), fun t x ht => ?_, ⟨fun j b' h => ?_, fun j b' g' h hg' => ?_, fun j k bj bk g' hj hk' => ?_⟩, ?_⟩
  · rw [h4] at ht
    obtain ⟨u, e1, e2⟩ := hs.T t x ht
    exact ⟨u, e1, e2.keep (Ext.refl ρ) hk0⟩
  · rcases hhk j b' h with ⟨rfl, rfl⟩ | ⟨hj, h⟩
    · exact hb
    · refine (hs.H.ok j b' h).keep (Ext.refl ρ) hk0 (fun g' hg' => hold g' (fun e => hj ?_))
      subst e
      exact hs.H.inj j i b' b0 g' h h0 hg' hg
  · obtain ⟨b'', h'⟩ := hsome j b' h
    obtain ⟨e1, e2, e3⟩ := hs.H.own j b'' g' h' hg'
    exact ⟨e1, by omega, e3⟩
  · obtain ⟨b1, hj'⟩ := hsome j bj hj
    obtain ⟨b2, hk''⟩ := hsome k bk hk'
    exact hs.H.inj j k b1 b2 g' hj' hk''
  · have hF := hs.F
    refine ⟨hos.trans hF.os, htape.trans hF.tape, hout.trans hF.output, by have := hF.size; omega, fun k hk hkW hkG => ?_, hF.mono, hF.news, hF.wlt, fun k hk => by have := hF.olt k hk; omega, hF.olt0, hF.glt⟩
    by_cases he : k = g
    · subst he
      rcases place_or hW with hW | hW
      · exact absurd hW hkW
      · rcases hW with hW | hW
        · omega
        · exact absurd hW hkG
    · exact (hold k he).trans (hF.same k hk hkW hkG)

theorem run_storeSeg {P : Program} (g off : Nat) (t : TypeId) : ∀ (vs : List Value) (i : Nat) (cur : Array Value) (w : World), w.heap[g]? = some (.cells cur t (0, 0)) → off + i + vs.length ≤ cur.size → (∀ v ∈ vs, v.oneCell' = true) →
    ∃ cur', (storeCells ⟨g, off, none⟩ vs i).run P w = .ok () (w.setRow g cur') ∧ cur'.size = cur.size ∧ ∀ m : Nat, cur'[m]? = if off + i ≤ m ∧ m < off + i + vs.length then vs[m - (off + i)]? else cur[m]?
  | [], i, cur, w, hg, hl, _ => by
    refine ⟨cur, ?_, rfl, fun m => by rw [if_neg (by simp)]⟩
    simp only [storeCells]
    show Result.ok () w = _
    congr 1
    have hlt : g < w.heap.size := (Array.getElem?_eq_some_iff.1 hg).1
    have hv : w.heap[g] = .cells cur t (0, 0) := (Array.getElem?_eq_some_iff.1 hg).2
    cases w with
    | mk heap tape drawn os output =>
      simp only [World.setRow]
      congr 1
      apply Array.ext (by simp)
      intro k h1 h2
      simp only [Array.getElem_modify]
      split
      · rename_i e
        subst e
        simp only at hv
        rw [hv]
      · rfl
  | v :: vs, i, cur, w, hg, hl, h1 => by
    simp only [List.length_cons] at hl
    have hc : w.cell? ⟨g, off + i, none⟩ = some (cur[off + i]'(by omega)) := by rw [cell_of_row w g _ cur t (0, 0) hg]; simp
    have hf : w.frozen? ⟨g, off + i, none⟩ = false := by simp [World.frozen?, hg]
    have hstore : (store (⟨g, off + i, none⟩ : Addr) v).run P w = .ok () (w.setRow g (cur.setIfInBounds (off + i) v)) := by
      rw [run_store P w _ v .plain (h1 v List.mem_cons_self), hc]
      simp only [hf]
      rw [setCell_eq_setRow w g (off + i) cur t (0, 0) v hg]
      rfl
    obtain ⟨cur', e1, e2, e3⟩ := run_storeSeg (P := P) g off t vs (i + 1) (cur.setIfInBounds (off + i) v) (w.setRow g (cur.setIfInBounds (off + i) v)) (setRow_heap w g cur _ t (0, 0) hg) (by simp; omega) (fun u hu => h1 u (List.mem_cons_of_mem _ hu))
    refine ⟨cur', ?_, by rw [e2]; simp, fun m => ?_⟩
    · simp only [storeCells, Sem.run_bind, add_ptr, hstore, Result.andThen_ok, e1, setRow_setRow]
    · rw [e3]
      simp only [List.length_cons]
      by_cases hm : m = off + i
      · subst hm
        rw [if_neg (by omega), if_pos (by omega)]
        have : off + i < cur.size := by omega
        simp [this]
      · by_cases hm2 : off + (i + 1) ≤ m ∧ m < off + (i + 1) + vs.length
        · rw [if_pos hm2, if_pos (by omega)]
          have : m - (off + i) = (m - (off + (i + 1))) + 1 := by omega
          rw [this, List.getElem?_cons_succ]
        · rw [if_neg hm2, if_neg (by omega), Array.getElem?_setIfInBounds, if_neg (Ne.symm hm)]

end Go.AM

/- A machine over pure data: part 8: regions in the text's order; a function's contract over pure data, and its body. -/
namespace Go.AM
open Go Go.RowKit

/-! ### a step -/
def astep (ts : List (Nat × TI)) (o : Oper) (σ : St) : Option St :=
  match o.op with
  | .box e x => match ev σ x with
    | some (.agg xs) => bif xs.all isCell then amk σ e xs o.dst else none
    | some y => bif isCell y then amk σ e [y] o.dst else none
    | none => none
  | .alloc e => match lk ts e with
    | some i => amk σ e i.zero o.dst
    | none => none
  | .store t x y => match lk ts t with
    | some i => match ev σ x with
      | some (.ptr id off) => match o.dst with
        | none => match hk σ id with
          | some (.box e cells) => match ev σ y with
            | some (.agg xs) => bif Nat.beq xs.length i.size && xs.all isCell then putK cells off xs fun cs => aset σ id (.box e cs) else none
            | some v => bif Nat.beq 1 i.size && isCell v then putK cells off [v] fun cs => aset σ id (.box e cs) else none
            | none => none
          | _ => none
        | some _ => none
      | _ => none
    | none => none
  | op => match aval ts σ op with
    | some v => put σ o.dst v
    | none => none

theorem amk_step {P : Program} {o : Oper} {σ σ' : St} {e : TypeId} {cs : List AV} (h : amk σ e cs o.dst = some σ')
    (hx : ∀ c a w ρ O, SatAt c σ a w ρ O → ∃ vs : Array Value, (execOp a.eval o).run P w = .ok (.value (.pointer (some ⟨w.heap.size, 0, none⟩))) (w.alloc (.cells vs e)) ∧ vs.size = cs.length ∧
      ∀ (k : Nat) x v, cs[k]? = some x → vs[k]? = some v → VR ρ O w x v ∧ v.oneCell' = true) : AStep P o σ σ' := by
  rintro c a w ⟨ρ, O, hs⟩ K Q hK
  obtain ⟨vs, h1, h2, h3⟩ := hx c a w ρ O hs
  obtain ⟨n, T, H, Hp, clk⟩ := σ
  have hk0 : Keeps O w (fun k => O k ∨ k = w.heap.size) (w.alloc (.cells vs e)) := ⟨by simp, fun k hk _ => Below.heap_alloc w _ k hk, fun k hk => by
    rcases hk with hk | hk
    · exact .inl hk
    · exact .inr (by omega)⟩
  have hfr : ρ (.loc clk) = none := hs.fresh clk (Nat.le_refl _)
  have hm := mk_sat hs (.box e cs) (.pointer (some ⟨w.heap.size, 0, none⟩)) (.inl rfl) hk0 (by simp) (fun k hk => Below.heap_alloc w _ k hk) rfl rfl rfl
    ⟨w.heap.size, vs, upd_self _ _ _, heap_alloc_new w _, h2, fun k x v hx hv => ⟨(h3 k x v hx hv).1.keep (upd_ext hfr) hk0, (h3 k x v hx hv).2⟩⟩
  unfold Oper.wp
  rw [h1]
  refine hK _ _ ⟨_, _, put_sat hm (.ptr (.loc clk) 0 w.heap.size ?_) h⟩
  simp [upd_self, vblk]

theorem astore_step {P : Program} {ts : List (Nat × TI)} (hT : TOK P ts) {t : TypeId} {x y : Operand} {ty : TypeId} {pos : String} {aft : Array Edge} {g : Option (Nat × Bool)} {σ σ' : St} {i : TI} {id : Id} {off : Nat} {e : TypeId} {cells : List AV} {v : AV}
    (hi : lk ts t = some i) (hx : ev σ x = some (.ptr id off)) (hb : hk σ id = some (.box e cells)) (hv : ev σ y = some v) (hl : (cellsV v).length = i.size) (hc : (cellsV v).all isCell = true)
    (hp : putK cells off (cellsV v) (fun cs => aset σ id (.box e cs)) = some σ') : AStep P ⟨none, .store t x y, ty, pos, aft, g⟩ σ σ' := by
  rintro c a w ⟨ρ, O, hs⟩ K Q hK
  obtain ⟨hv1, hv2⟩ := (ev_sound hs hv).cells hc
  obtain ⟨hle, zs, hz1, hz2, hz3⟩ := putK_spec hp
  have hxp := ev_sound hs hx
  generalize hq : a.eval x = q at hxp
  cases hxp with
  | ptr _ _ g hg =>
    obtain ⟨g', vs, h1, h2, h3, h4⟩ := hs.H.ok id _ hb
    have hgg : g' = g := by rw [h1] at hg; simpa [vblk] using hg
    subst hgg
    obtain ⟨cur', e1, e2, e3⟩ := run_storeSeg (P := P) g' off e (a.eval y).cells.toList 0 vs w h2 (by simp [hv1]; rw [h3]; exact hle) (fun u hu => by
      obtain ⟨k, hk⟩ := List.getElem?_of_mem hu
      have hk' : k < (cellsV v).length := by
        have := (List.getElem?_eq_some_iff.1 hk).1
        rw [← hv1]
        simpa using this
      exact (hv2 k _ u (List.getElem?_eq_getElem hk') (by simpa using hk)).2)
    have hk0 : Keeps O w O (w.setRow g' cur') := ⟨by simp, fun k _ hO => setRow_other w g' k cur' (fun e => hO (e ▸ (hs.H.own id _ g' hb (by rw [h1]; rfl)).1)), fun k hk => .inl hk⟩
    have hrun : (Instr.storeAt t (.pointer (some ⟨g', off, none⟩)) (a.eval y)).run P w = .ok () (w.setRow g' cur') := by
      have hsz : (a.eval y).cells.size = i.size := by rw [hv1, hl]
      simp [Instr.storeAt, Instr.sureAddr, storeVar, (hT.facts hi).sizeOf, hsz, e1]
    have hsat := chg_sat hs hb hz2 (g := g') (w' := w.setRow g' cur') (by rw [h1]; rfl) (fun k hk => setRow_other w g' k cur' hk) (by simp) rfl rfl rfl
      ⟨g', cur', h1, setRow_heap w g' vs cur' e (0, 0) h2, by rw [e2, h3, hz1], fun k x u hxk hu => by
        rw [hz3] at hxk
        rw [e3] at hu
        simp only [Nat.add_zero, Array.length_toList, hv1] at hu
        split at hxk
        · rename_i hj
          rw [if_pos hj] at hu
          obtain ⟨b1, b2⟩ := hv2 _ x u hxk (by simpa using hu)
          exact ⟨b1.keep (Ext.refl ρ) hk0, b2⟩
        · rename_i hj
          rw [if_neg hj] at hu
          obtain ⟨b1, b2⟩ := h4 k x u hxk hu
          exact ⟨b1.keep (Ext.refl ρ) hk0, b2⟩⟩
    unfold Oper.wp
    simp only [execOp, hq, Sem.run_bind, hrun, Result.andThen_ok, Sem.run_pure]
    exact hK _ _ ⟨ρ, O, hsat⟩

theorem astep_sound {P : Program} {ts : List (Nat × TI)} (hT : TOK P ts) {o : Oper} {σ σ' : St} (h : astep ts o σ = some σ') : AStep P o σ σ' := by
  obtain ⟨dst, op, ty, pos, aft, g⟩ := o
  unfold astep at h
  simp only at h
  split at h
  · rename_i e x
    -- box
    have go : ∀ v, ev σ x = some v → (cellsV v).all isCell = true → amk σ e (cellsV v) dst = some σ' → AStep P ⟨dst, .box e x, ty, pos, aft, g⟩ σ σ' := by
      intro v hv hc hm
      refine amk_step hm (fun c a w ρ O hs => ?_)
      obtain ⟨h1, h2⟩ := (ev_sound hs hv).cells hc
      exact ⟨_, by simp [execOp, Instr.box, newVar, newRow], h1, h2⟩
    split at h
    · rename_i xs hx
      cases hb : xs.all isCell with
      | false => rw [hb] at h; cases h
      | true => rw [hb] at h; exact go _ hx hb h
    · rename_i y hne hy
      cases hb : isCell y with
      | false => rw [hb] at h; cases h
      | true =>
        rw [hb] at h
        have hcy : cellsV y = [y] := by cases y <;> first | rfl | cases hb
        exact go _ hy (by rw [hcy]; simp [hb]) (by rw [hcy]; exact h)
    · cases h
  · rename_i e
    split at h
    · rename_i i hi
      refine amk_step h (fun c a w ρ O hs => ?_)
      obtain ⟨z, hz1, hz2⟩ := (hT.facts hi).zero w
      obtain ⟨h1, h2⟩ := zall_sound hz2
      exact ⟨z.cells, by simp [execOp, Instr.alloc, newVar, newRow, hz1], by simpa using h1, fun k x v hx hv => h2 ρ O w k x v hx (by simpa using hv)⟩
    · cases h
  · rename_i t x y
    split at h
    · rename_i i hi
      split at h
      · rename_i id off hx
        split at h
        · split at h
          · rename_i e cells hb
            split at h
            · rename_i xs hy
              cases hbb : (Nat.beq xs.length i.size && xs.all isCell) with
              | false => rw [hbb] at h; cases h
              | true =>
                rw [hbb] at h
                simp only [Bool.and_eq_true, Nat.beq_eq] at hbb
                exact astore_step hT hi hx hb hy hbb.1 hbb.2 h
            · rename_i v hne hy
              cases hbb : (Nat.beq 1 i.size && isCell v) with
              | false => rw [hbb] at h; cases h
              | true =>
                rw [hbb] at h
                simp only [Bool.and_eq_true, Nat.beq_eq] at hbb
                have hcy : cellsV v = [v] := by
                  have := hbb.2
                  cases v <;> first | rfl | cases this
                exact astore_step hT hi hx hb hy (by rw [hcy]; exact hbb.1) (by rw [hcy]; simp [hbb.2]) (by rw [hcy]; exact h)
            · cases h
          · cases h
        · cases h
      · cases h
    · cases h
  · rename_i hn1 hn2 hn3
    split at h
    · rename_i v hv
      exact AStep.value h (fun c a w ρ O hs => (aval_sound hT hs _ hv).imp fun u h => ⟨h.1 w (Below.refl _ _), h.2⟩)
    · cases h

/-- An operation that leaves the world alone, and answers the same in every later one. -/
def VOp0 (P : Program) (σ : St) (o : Oper) (v : AV) : Prop :=
  ∀ c a w ρ O, SatAt c σ a w ρ O → ∃ u, (∀ w', Below w.heap.size w w' → (execOp a.eval o).run P w' = .ok (.value u) w') ∧ VR ρ O w v u
structure VOp (P : Program) (σ : St) (o : Oper) (v : AV) : Prop where
  h : VOp0 P σ o v
theorem VOp.step {P : Program} {o : Oper} {σ σ' : St} {v : AV} (hv : VOp P σ o v) (h : put σ o.dst v = some σ') : AStep P o σ σ' :=
  AStep.value h (fun c a w ρ O hs => (hv.h c a w ρ O hs).imp fun _ h => ⟨h.1 w (Below.refl _ _), h.2⟩)
theorem VOp.of {P : Program} {ts : List (Nat × TI)} (hT : TOK P ts) {σ : St} {o : Oper} {v : AV} (h : aval ts σ o.op = some v) : VOp P σ o v := VOp.mk fun _ _ _ _ _ hs => aval_sound hT hs o h

/-! ### a region, in the text's order -/
def AL (P : Program) (l : List Oper) (Q : Exit → St → Prop) (rest : List Oper) (σ : St) : Prop := ∀ c a w, Sat c σ a w → wpList P l.toArray (post c Q) rest a w

def wantedA (l : List Oper) (o : Oper) (σ : St) : Option Bool :=
  match o.guard with
  | none => some true
  | some (j, want) => nthK l j fun oj => match oj.dst with
    | none => none
    | some d => match lk σ.T d with
      | some (.d (.one (.bool true))) => some want
      | some (.d (.one (.bool false))) => some (!want)
      | some (.tup _) => some false
      | _ => none

theorem wantedA_sound {l : List Oper} {o : Oper} {σ : St} {b : Bool} (h : wantedA l o σ = some b) {c : Ctx} {a : Act} {w : World} (hs : Sat c σ a w) : Region.wanted o (yielded l.toArray a.tmps) = b := by
  obtain ⟨ρ, O, hs⟩ := hs
  obtain ⟨dst, op, ty, pos, aft, g⟩ := o
  cases g with
  | none =>
    simp only [wantedA] at h
    cases h
    rfl
  | some jw =>
    obtain ⟨j, want⟩ := jw
    simp only [wantedA] at h
    simp only [Region.wanted]
    obtain ⟨oj, h1, h2⟩ := nthK_spec h
    split at h2
    · cases h2
    · rename_i d hd
      have hy : ∀ v, a.tmps[d]? = some v → yielded l.toArray a.tmps j = match v with | .bool b => some b | _ => none := by
        intro v hv
        simp only [yielded, List.getElem?_toArray, h1, Option.bind_some, hd, hv]
        cases v <;> rfl
      split at h2
      · rename_i hT
        cases h2
        obtain ⟨v, e1, e2⟩ := hs.T d _ hT
        have := one_of e2
        subst this
        rw [hy _ e1]
        cases b <;> rfl
      · rename_i hT
        cases h2
        obtain ⟨v, e1, e2⟩ := hs.T d _ hT
        have := one_of e2
        subst this
        rw [hy _ e1]
        cases want <;> rfl
      · rename_i xs hT
        cases h2
        obtain ⟨v, e1, e2⟩ := hs.T d _ hT
        cases e2
        rw [hy _ e1]
        rfl
      · cases h2

section
variable {P : Program} {l rest : List Oper} {Q : Exit → St → Prop} {σ : St} {o : Oper}

theorem AW.region {id : Nat} (h : AL P l Q l σ) : AW P (.region id l.toArray false) Q σ := fun c a w hs => wp_region_lit (h c a w hs)
theorem AL.nil (h : Q .normal σ) : AL P l Q [] σ := fun _ _ _ hs => ⟨σ, h, hs⟩
theorem AL.step {σ' : St} (hw : wantedA l o σ = some true) (hs : AStep P o σ σ') (h : AL P l Q rest σ') : AL P l Q (o :: rest) σ := by
  intro c a w hsat
  refine wpList_step fun K hK => ?_
  rw [if_pos (wantedA_sound hw hsat)]
  exact hs c a w hsat K _ (fun a' w' hs' => hK _ _ (h c a' w' hs'))
/-- A step that needs no proof of its own. -/
theorem AL.do {ts : List (Nat × TI)} (hT : TOK P ts) {σ' : St} (hw : wantedA l o σ = some true) (hs : astep ts o σ = some σ') (h : AL P l Q rest σ') : AL P l Q (o :: rest) σ :=
  AL.step hw (astep_sound hT hs) h
/-- A step whose guard says no. -/
theorem AL.no {σ' : St} (hw : wantedA l o σ = some false) (hp : put σ o.dst (.tup []) = some σ') (h : AL P l Q rest σ') : AL P l Q (o :: rest) σ := by
  intro c a w hsat
  refine wpList_step fun K hK => ?_
  rw [if_neg (by rw [wantedA_sound hw hsat]; simp)]
  obtain ⟨ρ, O, hs⟩ := hsat
  refine hK _ _ (h c _ w ⟨ρ, O, put_sat hs (v := undef) ?_ hp⟩)
  exact .tup [] #[] rfl (fun k x v h => by simp at h)

def know : St → Nat → Bool → St
  | ⟨n, T, H, Hp, clk⟩, t, b => ⟨n, (t, .d (.one (.bool b))) :: T, H, Hp, clk⟩
theorem know_imp {t : Nat} {b : Bool} (hb : lk σ.T t = some (.d (.one (.bool b)))) : Imp σ (know σ t b) := by
  obtain ⟨n, T, H, Hp, clk⟩ := σ
  rintro c a w ⟨ρ, O, hs⟩
  refine ⟨ρ, O, hs.defers, hs.n, hs.par, hs.fresh, fun u x hu => ?_, hs.H, hs.F⟩
  simp only [know, lk] at hu
  cases hb' : Nat.beq t u with
  | true =>
    rw [hb'] at hu
    have := Nat.eq_of_beq_eq_true hb'
    subst this
    simp at hu
    subst hu
    exact hs.T t _ hb
  | false =>
    rw [hb'] at hu
    exact hs.T u x hu
theorem AL.imp {σ' : St} (hi : Imp σ σ') (h : AL P l Q rest σ') : AL P l Q rest σ := fun c a w hs => h c a w (hi c a w hs)
/-- A slot's Bool, both ways. -/
theorem AL.split {t : Nat} {b : Bool} (hb : lk σ.T t = some (.d (.one (.bool b)))) (ht : b = true → AL P l Q rest (know σ t true)) (hf : b = false → AL P l Q rest (know σ t false)) : AL P l Q rest σ := by
  cases b with
  | true => exact AL.imp (know_imp hb) (ht rfl)
  | false => exact AL.imp (know_imp hb) (hf rfl)
/-- A slot's Bool, known. -/
theorem AL.know {t : Nat} {b b' : Bool} (hb : lk σ.T t = some (.d (.one (.bool b)))) (he : b = b') (h : AL P l Q rest (know σ t b')) : AL P l Q rest σ := by
  subst he
  exact AL.imp (know_imp hb) h
def gdst (l : List Oper) (o : Oper) : Option Nat :=
  match o.guard with
  | none => none
  | some (j, _) => nthK l j fun oj => oj.dst
/-- A guard that isn't known: both ways. -/
theorem AL.guard {t : Nat} {b : Bool} (_hg : gdst l o = some t) (hb : lk σ.T t = some (.d (.one (.bool b)))) (ht : b = true → AL P l Q (o :: rest) (Go.AM.know σ t true))
    (hf : b = false → AL P l Q (o :: rest) (Go.AM.know σ t false)) : AL P l Q (o :: rest) σ := AL.split hb ht hf
end

end Go.AM

/- A machine over pure data: part 9: contracts over pure data; a function's body; calls. -/
namespace Go.AM
open Go Go.RowKit

/-- A row of the call's own that is handed back. -/
structure Rw where
  e : TypeId
  sz : Nat
  xs : List (List D)
def Rw.blk (r : Rw) : Blk := .row r.e r.sz r.xs

def rowsH : Nat → List Rw → List (Nat × Option Blk)
  | _, [] => []
  | k, r :: rs => (k, some r.blk) :: rowsH (k + 1) rs

theorem lk_rowsH (H : List (Nat × Option Blk)) : ∀ (rs : List Rw) (k0 k : Nat), lk (rowsH k0 rs ++ H) k = if k0 ≤ k ∧ k < k0 + rs.length then (rs[k - k0]?).map (fun r => some r.blk) else lk H k
  | [], k0, k => by simp [rowsH]; intro h1 h2; omega
  | r :: rs, k0, k => by
    simp only [rowsH, List.cons_append, List.length_cons]
    by_cases h : k0 = k
    · subst h
      rw [lk_cons_self, if_pos (by omega)]
      simp
    · rw [lk_cons_ne h, lk_rowsH H rs (k0 + 1) k]
      by_cases h2 : k0 + 1 ≤ k ∧ k < k0 + 1 + rs.length
      · rw [if_pos h2, if_pos (by omega)]
        have : k - k0 = (k - (k0 + 1)) + 1 := by omega
        rw [this, List.getElem?_cons_succ]
      · rw [if_neg h2, if_neg (by omega)]

def argT : Nat → List AV → List (Nat × AV)
  | _, [] => []
  | k, x :: r => (k, x) :: argT (k + 1) r

theorem lk_argT : ∀ (xs : List AV) (k0 k : Nat) {x : AV}, lk (argT k0 xs) k = some x → k0 ≤ k ∧ xs[k - k0]? = some x
  | [], k0, k, x, h => by simp [argT, lk] at h
  | y :: xs, k0, k, x, h => by
    simp only [argT] at h
    by_cases he : k0 = k
    · subst he
      rw [lk_cons_self] at h
      exact ⟨Nat.le_refl _, by simpa using h⟩
    · rw [lk_cons_ne he] at h
      obtain ⟨h1, h2⟩ := lk_argT xs (k0 + 1) k h
      refine ⟨by omega, ?_⟩
      have : k - k0 = (k - (k0 + 1)) + 1 := by omega
      rw [this, List.getElem?_cons_succ]
      exact h2

def Callable (P : Program) (f : FuncId) : Prop := ∃ fn, P.funcs[f]? = some fn ∧ (fn.name == "runtime.NumGoroutine") = false ∧ fn.body.isNone = false

def ρ0 (c : Ctx) : Env
  | .par k => c.ρp k
  | .loc _ => none

def hkp (Hp : List Blk) : Id → Option Blk
  | .par k => Hp[k]?
  | .loc _ => none

structure Ini (c : Ctx) (args : List AV) (Hp : List Blk) (vs : Array Value) : Prop where
  len : vs.size = args.length
  args : ∀ (k : Nat) x v, args[k]? = some x → vs[k]? = some v → VR (ρ0 c) c.O0 c.w0 x v
  H : HS c (ρ0 c) c.O0 c.w0 (hkp Hp)
  wlt : ∀ k, c.W k → c.O0 k ∧ k < c.w0.heap.size
  olt : ∀ k, c.O0 k → k < c.w0.heap.size
  gn : (∀ k, ¬ c.G k) ∧ c.dfr = []

def finS (Hp : List Blk) (Hr : List Rw) : St := ⟨0, [], rowsH 0 Hr, Hp, Hr.length⟩

structure FinAt (c : Ctx) (r : AV) (Hp : List Blk) (Hr : List Rw) (v : Value) (w : World) (ρ : Env) (O : Nat → Prop) : Prop where
  par : ∀ k, ρ (.par k) = c.ρp k
  fresh : ∀ k, Hr.length ≤ k → ρ (.loc k) = none
  H : HS c ρ O w (hk (finS Hp Hr))
  F : Fr c O w
  r : VR ρ O w r v

def ACalls (P : Program) (f : FuncId) (args : List AV) (Hp : List Blk) (R : AV → List Blk → List Rw → Prop) : Prop :=
  Callable P f ∧ ∀ c vs, Ini c args Hp vs → Calls P f vs c.w0 fun e w' => ∃ r Hp' Hr v ρ O, R r Hp' Hr ∧ e = .returned v ∧ FinAt c r Hp' Hr v w' ρ O

theorem ACalls.mono {P : Program} {f : FuncId} {args : List AV} {Hp : List Blk} {R R' : AV → List Blk → List Rw → Prop} (h : ACalls P f args Hp R) (hr : ∀ r Hp' Hr, R r Hp' Hr → R' r Hp' Hr) : ACalls P f args Hp R' :=
  ⟨h.1, fun c vs hi => (h.2 c vs hi).mono fun _ _ ⟨r, Hp', Hr, v, ρ, O, h1, h2⟩ => ⟨r, Hp', Hr, v, ρ, O, hr _ _ _ h1, h2⟩⟩

/-! ### what names no block, or none of the call's own -/
/-- No block of the call's own is named. -/
inductive LF : AV → Prop
  | d (x : D) : LF (.d x)
  | nilrow : LF .nilrow
  | ptr (k off : Nat) : LF (.ptr (.par k) off)
  | rptr (k sz j f : Nat) : LF (.rptr (.par k) sz j f)
  | eptr (r : List D) : LF (.eptr r)
  | own (k : Nat) : LF (.own (.par k))
  | sub (k sz lo n : Nat) (full : Bool) : LF (.sub (.par k) sz lo n full)
  | agg (xs : List AV) (h : ∀ x ∈ xs, LF x) : LF (.agg xs)
  | tup (xs : List AV) (h : ∀ x ∈ xs, LF x) : LF (.tup xs)
  | fn (f : FuncId) (xs : List AV) (h : ∀ x ∈ xs, LF x) : LF (.fn f xs)
  | bsl (k n : Nat) : LF (.bsl (.par k) n)
  | junk : LF .junk

theorem VR.lf {c : Ctx} {O : Nat → Prop} {w : World} {x : AV} {v : Value} (h : VR (ρ0 c) O w x v) : LF x := by
  induction h with
  | d x v h => exact .d x
  | nilrow => exact .nilrow
  | ptr i off g h =>
    cases i with
    | loc k => simp [ρ0] at h
    | par k => exact .ptr k off
  | rptr i sz j f g h =>
    cases i with
    | loc k => simp [ρ0] at h
    | par k => exact .rptr k sz j f
  | eptr rest p u hO hb hcell hsub => exact .eptr rest
  | own i v h h1 =>
    cases i with
    | loc k => simp [ρ0] at h
    | par k => exact .own k
  | agg xs vs hl h ih =>
    exact .agg xs fun x hx => by
      obtain ⟨k, hk⟩ := List.getElem?_of_mem hx
      have hlt : k < vs.size := by rw [← hl]; exact (List.getElem?_eq_some_iff.1 hk).1
      exact ih k x vs[k] hk (by simp [hlt])
  | tup xs vs hl h ih =>
    exact .tup xs fun x hx => by
      obtain ⟨k, hk⟩ := List.getElem?_of_mem hx
      have hlt : k < vs.size := by rw [← hl]; exact (List.getElem?_eq_some_iff.1 hk).1
      exact ih k x vs[k] hk (by simp [hlt])
  | fn f xs vs hl h ih =>
    exact .fn f xs fun x hx => by
      obtain ⟨k, hk⟩ := List.getElem?_of_mem hx
      have hlt : k < vs.size := by rw [← hl]; exact (List.getElem?_eq_some_iff.1 hk).1
      exact ih k x vs[k] hk (by simp [hlt])
  | sub i sz lo n full g L C c off h =>
    cases i with
    | loc k => simp [ρ0] at h
    | par k => exact .sub k sz lo n full
  | subN i sz full h =>
    cases i with
    | loc k => simp [ρ0] at h
    | par k => exact .sub k sz 0 0 full
  | bsl i n g h =>
    cases i with
    | loc k => simp [ρ0] at h
    | par k => exact .bsl k n
  | junk v => exact .junk

theorem LF.vr {ρ ρ' : Env} (hp : ∀ k, ρ (.par k) = ρ' (.par k)) {O : Nat → Prop} {w : World} {x : AV} (hx : LF x) : ∀ {v : Value}, VR ρ O w x v → VR ρ' O w x v := by
  induction hx with
  | d x => intro v h; cases h with | d _ _ h => exact .d _ _ h
  | nilrow => intro v h; cases h; exact .nilrow
  | ptr k off => intro v h; cases h with | ptr _ _ g hg => exact .ptr _ _ g (by rw [← hp]; exact hg)
  | rptr k sz j f => intro v h; cases h with | rptr _ _ _ _ g hg => exact .rptr _ _ _ _ g (by rw [← hp]; exact hg)
  | eptr r => intro v h; cases h with | eptr _ p u a b c d => exact .eptr _ p u a b c d
  | own k => intro v h; cases h with | own _ _ h h1 => exact .own _ _ (by rw [← hp]; exact h) h1
  | sub k sz lo n full =>
    intro v h
    cases h with
    | sub _ _ _ _ _ g L C c off h h1 h2 h3 h4 h5 => exact .sub _ _ _ _ _ g L C c off (by rw [← hp]; exact h) h1 h2 h3 h4 h5
    | subN _ _ _ h => exact .subN _ _ _ (by rw [← hp]; exact h)
  | bsl k n => intro v h; cases h with | bsl _ _ g hg => exact .bsl _ _ g (by rw [← hp]; exact hg)
  | agg xs h ih =>
    intro v hv
    cases hv with
    | agg _ vs hl hc => exact .agg _ vs hl fun k x v hx hv => ih x (List.mem_of_getElem? hx) (hc k x v hx hv)
  | tup xs h ih =>
    intro v hv
    cases hv with
    | tup _ vs hl hc => exact .tup _ vs hl fun k x v hx hv => ih x (List.mem_of_getElem? hx) (hc k x v hx hv)
  | fn f xs h ih =>
    intro v hv
    cases hv with
    | fn _ _ vs hl hc => exact .fn _ _ vs hl fun k x v hx hv => ih x (List.mem_of_getElem? hx) (hc k x v hx hv)
  | junk => intro v h; exact .junk v

def LFB : Blk → Prop
  | .box _ cells => ∀ x ∈ cells, LF x
  | .row .. => True
  | .iter .. => True
  | .mp .. => True
  | .mpr .. => True
  | .gen .. => True
  | .rowc .. => True

theorem BOK.lf {c : Ctx} {O : Nat → Prop} {w : World} {i : Id} {b : Blk} (h : BOK (ρ0 c) O w i b) : LFB b := by
  cases b with
  | box e cells =>
    obtain ⟨g, vs, _, _, hl, hc⟩ := h
    intro x hx
    obtain ⟨k, hk⟩ := List.getElem?_of_mem hx
    have hlt : k < vs.size := by rw [hl]; exact (List.getElem?_eq_some_iff.1 hk).1
    exact (hc k x vs[k] hk (by simp [hlt])).1.lf
  | row => trivial
  | iter => trivial
  | mp => trivial
  | mpr => trivial
  | gen => trivial
  | rowc => trivial

theorem LFB.bok {ρ ρ' : Env} (hp : ∀ k, ρ (.par k) = ρ' (.par k)) {O : Nat → Prop} {w : World} {i i' : Id} (hi : ρ i = ρ' i') {b : Blk} (hb : LFB b) (h : BOK ρ O w i b) : BOK ρ' O w i' b := by
  cases b with
  | box e cells =>
    obtain ⟨g, vs, h1, h2, h3, h4⟩ := h
    exact ⟨g, vs, by rw [← hi]; exact h1, h2, h3, fun k x v hx hv => ⟨(hb x (List.mem_of_getElem? hx)).vr hp (h4 k x v hx hv).1, (h4 k x v hx hv).2⟩⟩
  | row e sz xs =>
    obtain ⟨v, vs, h1, h2⟩ := h
    exact ⟨v, vs, by rw [← hi]; exact h1, h2⟩
  | iter s pos =>
    obtain ⟨g, h1, h2⟩ := h
    exact ⟨g, by rw [← hi]; exact h1, h2⟩
  | mp es clock =>
    obtain ⟨g, h1, h2⟩ := h
    exact ⟨g, by rw [← hi]; exact h1, h2⟩
  | mpr g0 es clock =>
    obtain ⟨g, h1, h2⟩ := h
    exact ⟨g, by rw [← hi]; exact h1, h2⟩
  | gen p =>
    obtain ⟨v, h1, h2⟩ := h
    exact ⟨v, by rw [← hi]; exact h1, h2⟩
  | rowc t sz xs L C =>
    obtain ⟨g, cur, h1, h2⟩ := h
    exact ⟨g, cur, by rw [← hi]; exact h1, h2⟩

/-- Cells of which the only blocks named are rows of the call's own, told by their numbers in m. -/
def ren1 (m : List Nat) : AV → AV
  | .own (.loc j) => .own (.loc (m.getD j 0))
  | x => x
def ren2 (m : List Nat) : AV → AV
  | .agg xs => .agg (xs.map (ren1 m))
  | x => ren1 m x
def ren3 (m : List Nat) : AV → AV
  | .tup xs => .tup (xs.map (ren2 m))
  | x => ren2 m x
def ok1 (n : Nat) : AV → Bool
  | .own (.loc j) => Nat.blt j n
  | .d _ => true
  | .nilrow => true
  | .eptr _ => true
  | _ => false
def ok2 (n : Nat) : AV → Bool
  | .agg xs => xs.all (ok1 n)
  | x => ok1 n x
def ok3 (n : Nat) : AV → Bool
  | .tup xs => xs.all (ok2 n)
  | x => ok2 n x

section
variable {ρ ρ' : Env} {O : Nat → Prop} {w : World} {m : List Nat}
theorem ren1_iff (hm : ∀ j, j < m.length → ρ' (.loc j) = ρ (.loc (m.getD j 0))) {x : AV} (hx : ok1 m.length x = true) {v : Value} : VR ρ O w (ren1 m x) v ↔ VR ρ' O w x v := by
  cases x with
  | own i =>
    cases i with
    | loc j =>
      have hj : j < m.length := by simpa [ok1] using hx
      constructor
      · intro h; cases h with | own _ _ h h1 => exact .own _ _ (by rw [hm j hj]; exact h) h1
      · intro h; cases h with | own _ _ h h1 => exact .own _ _ (by rw [← hm j hj]; exact h) h1
    | par k => simp [ok1] at hx
  | d x => exact ⟨fun h => by cases h with | d _ _ h => exact .d _ _ h, fun h => by cases h with | d _ _ h => exact .d _ _ h⟩
  | nilrow => exact ⟨fun h => by cases h; exact .nilrow, fun h => by cases h; exact .nilrow⟩
  | eptr r => exact ⟨fun h => by cases h with | eptr _ p u a b c d => exact .eptr _ p u a b c d, fun h => by cases h with | eptr _ p u a b c d => exact .eptr _ p u a b c d⟩
  | _ => simp [ok1] at hx
theorem list_iff {f : AV → AV} {xs : List AV} {vs : Array Value} (hf : ∀ x ∈ xs, ∀ v, VR ρ O w (f x) v ↔ VR ρ' O w x v) :
    (∀ (k : Nat) x v, (xs.map f)[k]? = some x → vs[k]? = some v → VR ρ O w x v) ↔ ∀ (k : Nat) x v, xs[k]? = some x → vs[k]? = some v → VR ρ' O w x v := by
  constructor
  · intro h k x v hx hv
    exact (hf x (List.mem_of_getElem? hx) v).1 (h k (f x) v (by simp [hx]) hv)
  · intro h k x v hx hv
    rw [List.getElem?_map, Option.map_eq_some_iff] at hx
    obtain ⟨y, hy, rfl⟩ := hx
    exact (hf y (List.mem_of_getElem? hy) v).2 (h k y v hy hv)
theorem ren2_iff (hm : ∀ j, j < m.length → ρ' (.loc j) = ρ (.loc (m.getD j 0))) {x : AV} (hx : ok2 m.length x = true) {v : Value} : VR ρ O w (ren2 m x) v ↔ VR ρ' O w x v := by
  cases x with
  | agg xs =>
    have hx' : ∀ x ∈ xs, ok1 m.length x = true := List.all_eq_true.1 hx
    constructor
    · intro h
      cases h with
      | agg _ vs hl hc => exact .agg _ vs (by simpa using hl) ((list_iff fun x hx v => ren1_iff hm (hx' x hx)).1 hc)
    · intro h
      cases h with
      | agg _ vs hl hc => exact .agg _ vs (by simpa using hl) ((list_iff fun x hx v => ren1_iff hm (hx' x hx)).2 hc)
  | d y => exact ren1_iff (x := .d y) hm hx
  | nilrow => exact ren1_iff (x := .nilrow) hm hx
  | ptr i off => exact ren1_iff (x := .ptr i off) hm hx
  | eptr y => exact ren1_iff (x := .eptr y) hm hx
  | rptr i sz j f => exact ren1_iff (x := .rptr i sz j f) hm hx
  | own i => exact ren1_iff (x := .own i) hm hx
  | sub i sz lo n full => exact ren1_iff (x := .sub i sz lo n full) hm hx
  | bsl i n => exact ren1_iff (x := .bsl i n) hm hx
  | tup y => exact ren1_iff (x := .tup y) hm hx
  | fn f y => exact ren1_iff (x := .fn f y) hm hx
  | junk => exact ren1_iff (x := .junk) hm hx
theorem ren3_iff (hm : ∀ j, j < m.length → ρ' (.loc j) = ρ (.loc (m.getD j 0))) {x : AV} (hx : ok3 m.length x = true) {v : Value} : VR ρ O w (ren3 m x) v ↔ VR ρ' O w x v := by
  cases x with
  | tup xs =>
    have hx' : ∀ x ∈ xs, ok2 m.length x = true := List.all_eq_true.1 hx
    constructor
    · intro h
      cases h with
      | tup _ vs hl hc => exact .tup _ vs (by simpa using hl) ((list_iff fun x hx v => ren2_iff hm (hx' x hx)).1 hc)
    · intro h
      cases h with
      | tup _ vs hl hc => exact .tup _ vs (by simpa using hl) ((list_iff fun x hx v => ren2_iff hm (hx' x hx)).2 hc)
  | d y => exact ren2_iff (x := .d y) hm hx
  | nilrow => exact ren2_iff (x := .nilrow) hm hx
  | ptr i off => exact ren2_iff (x := .ptr i off) hm hx
  | eptr y => exact ren2_iff (x := .eptr y) hm hx
  | rptr i sz j f => exact ren2_iff (x := .rptr i sz j f) hm hx
  | own i => exact ren2_iff (x := .own i) hm hx
  | sub i sz lo n full => exact ren2_iff (x := .sub i sz lo n full) hm hx
  | bsl i n => exact ren2_iff (x := .bsl i n) hm hx
  | agg y => exact ren2_iff (x := .agg y) hm hx
  | fn f y => exact ren2_iff (x := .fn f y) hm hx
  | junk => exact ren2_iff (x := .junk) hm hx
end

/-! ### a body -/
def aresL (ts : List (Nat × TI)) (σ : St) : List ResultVar → (List AV → Option AV) → Option AV
  | [], k => k []
  | .tmp t :: r, k => match lk σ.T t with
    | some x => aresL ts σ r fun l => k (x :: l)
    | none => none
  | .cell p t :: r, k => match lk σ.T p with
    | some x => match aload ts σ t x with
      | some y => aresL ts σ r fun l => k (y :: l)
      | none => none
    | none => none
def ares (ts : List (Nat × TI)) (rs : List ResultVar) (σ : St) : Option AV :=
  aresL ts σ rs fun l => match l with
    | [x] => some x
    | l => some (.tup l)

/-- What a call leaves: the result, and the rows of its own that it hands back (m tells which). -/
structure Out (Hp : List Blk) (σ : St) (rf : AV) (R : AV → List Blk → List Rw → Prop) (r : AV) (Hr : List Rw) (m : List Nat) : Prop where
  post : R r σ.Hp Hr
  ren : ren3 m r = rf
  ok : ok3 m.length r = true
  len : Hr.length = m.length
  nodup : m.Nodup
  rows : ∀ (k j : Nat) rw, m[k]? = some j → Hr[k]? = some rw → hk σ (.loc j) = some rw.blk
  hp : σ.Hp = Hp ∨ ∀ b ∈ σ.Hp, LFB b

theorem ren3_nil {r : AV} (hok : ok3 0 r = true) : ren3 [] r = r := by
  have h1 : ∀ x, ok1 0 x = true → ren1 [] x = x := fun x hx => by
    cases x with
    | own i => cases i <;> simp [ok1] at hx
    | _ => rfl
  have h2 : ∀ x, ok2 0 x = true → ren2 [] x = x := fun x hx => by
    cases x with
    | agg xs =>
      simp only [ren2]
      rw [List.map_congr_left (fun y hy => h1 y (List.all_eq_true.1 hx y hy))]
      simp
    | own i => cases i <;> simp [ok2, ok1] at hx
    | _ => rfl
  cases r with
  | tup xs =>
    simp only [ren3]
    rw [List.map_congr_left (fun y hy => h2 y (List.all_eq_true.1 hok y hy))]
    simp
  | agg xs => exact h2 (.agg xs) hok
  | own i => cases i <;> simp [ok3, ok2, ok1] at hok
  | _ => rfl

/-- A result that names no block. -/
theorem Out.pure {Hp : List Blk} {σ : St} {rf : AV} {R : AV → List Blk → List Rw → Prop} (hok : ok3 0 rf = true) (h : R rf σ.Hp []) (hp : σ.Hp = Hp) : Out Hp σ rf R rf [] [] :=
  ⟨h, ren3_nil hok, hok, rfl, List.nodup_nil, fun k j rw h => by simp at h, .inl hp⟩
/-- A row of the call's own. -/
theorem Out.row {Hp : List Blk} {σ : St} {j e sz : Nat} {xs : List (List D)} {R : AV → List Blk → List Rw → Prop} (hk' : hk σ (.loc j) = some (.row e sz xs)) (h : R (.own (.loc 0)) σ.Hp [⟨e, sz, xs⟩]) (hp : σ.Hp = Hp) :
    Out Hp σ (.own (.loc j)) R (.own (.loc 0)) [⟨e, sz, xs⟩] [j] := by
  refine ⟨h, rfl, rfl, rfl, by simp, fun k i rw h1 h2 => ?_, .inl hp⟩
  cases k with
  | zero =>
    simp at h1 h2
    subst h1; subst h2
    exact hk'
  | succ k => simp at h1

def retQ (ts : List (Nat × TI)) (rs : List ResultVar) (Hp : List Blk) (R : AV → List Blk → List Rw → Prop) : Exit → St → Prop
  | .normal, σ => ∃ rf r Hr m, ares ts rs σ = some rf ∧ Out Hp σ rf R r Hr m
  | .ret, σ => ∃ rf r Hr m, ares ts rs σ = some rf ∧ Out Hp σ rf R r Hr m
  | _, _ => False

def resv (tmps : Array Value) : ResultVar → Sem Value
  | .tmp t => pure (tmps.getD t undef)
  | .cell p t => do loadVar t (← asAddr (tmps.getD p undef))

theorem results_eq (fn : Func) (tmps : Array Value) : results fn tmps = (do
    let vs ← fn.results.mapM (resv tmps)
    pure (if h : vs.size = 1 then vs[0] else .tuple vs)) := by
  unfold results
  have : (fun (x : ResultVar) => (match x with
    | .tmp t => (pure (tmps.getD t undef) : Sem Value)
    | .cell a t => do loadVar t (← asAddr (tmps.getD a undef)))) = resv tmps := by
    funext x
    cases x <;> rfl
  rw [← this]
  rfl

theorem aresL_sound {P : Program} {ts : List (Nat × TI)} (hT : TOK P ts) {c : Ctx} {σ : St} {a : Act} {w : World} {ρ : Env} {O : Nat → Prop} (hs : SatAt c σ a w ρ O) {y : AV} :
    ∀ {rs : List ResultVar} {k : List AV → Option AV}, aresL ts σ rs k = some y → ∃ (xs : List AV) (vs : List Value), k xs = some y ∧
      (rs.mapM (resv a.tmps)).run P w = .ok vs w ∧ xs.length = vs.length ∧ ∀ (k : Nat) x v, xs[k]? = some x → vs[k]? = some v → VR ρ O w x v
  | [], k, h => ⟨[], [], by simpa [aresL] using h, rfl, rfl, fun k x v h => by simp at h⟩
  | .tmp t :: r, k, h => by
    simp only [aresL] at h
    split at h
    · rename_i x hx
      obtain ⟨xs, vs, h1, h2, h3, h4⟩ := aresL_sound hT hs h
      obtain ⟨v, e1, e2⟩ := hs.T t x hx
      refine ⟨x :: xs, v :: vs, h1, ?_, by simp [h3], fun k y u hy hu => ?_⟩
      · have hv : a.tmps.getD t undef = v := by simp [Array.getD_eq_getD_getElem?, e1]
        rw [List.mapM_cons]
        simp only [resv, Sem.run_bind, Sem.run_pure, Result.andThen_ok, hv, h2]
      · cases k with
        | zero => simp at hy hu; subst hy; subst hu; exact e2
        | succ k => exact h4 k y u (by simpa using hy) (by simpa using hu)
    · cases h
  | .cell p t :: r, k, h => by
    simp only [aresL] at h
    split at h
    · rename_i x hx
      split at h
      · rename_i y' hy'
        obtain ⟨xs, vs, h1, h2, h3, h4⟩ := aresL_sound hT hs h
        obtain ⟨v, e1, e2⟩ := hs.T p x hx
        obtain ⟨u, f1, f2⟩ := aload_sound hT hs e2 hy'
        refine ⟨y' :: xs, u :: vs, h1, ?_, by simp [h3], fun k z q hz hq => ?_⟩
        · have hv : a.tmps.getD p undef = v := by simp [Array.getD_eq_getD_getElem?, e1]
          have hload : (do loadVar t (← asAddr v) : Sem Value).run P w = .ok u w := by
            unfold Instr.loadAt at f1
            cases e2 with
            | ptr _ _ g hg => simpa [asAddr, Instr.sureAddr] using f1 w (Below.refl _ _)
            | eptr _ q => simpa [asAddr, Instr.sureAddr] using f1 w (Below.refl _ _)
            | _ => (unfold aload at hy'; cases hlk : lk ts t <;> rw [hlk] at hy' <;> simp at hy')
          rw [List.mapM_cons]
          simp only [resv, hv]
          rw [Sem.run_bind, hload]
          simp only [Result.andThen_ok, Sem.run_bind, h2, Sem.run_pure]
        · cases k with
          | zero => simp at hz hq; subst hz; subst hq; exact f2
          | succ k => exact h4 k z q (by simpa using hz) (by simpa using hq)
      · cases h
    · cases h

theorem ares_sound {P : Program} {ts : List (Nat × TI)} (hT : TOK P ts) {c : Ctx} {σ : St} {a : Act} {w : World} {ρ : Env} {O : Nat → Prop} (hs : SatAt c σ a w ρ O) {y : AV} {fn : Func}
    (h : ares ts fn.results.toList σ = some y) : ∃ v, (results fn a.tmps).run P w = .ok v w ∧ VR ρ O w y v := by
  obtain ⟨xs, vs, h1, h2, h3, h4⟩ := aresL_sound hT hs h
  have hrun : (fn.results.mapM (resv a.tmps)).run P w = .ok vs.toArray w := by
    have : fn.results = fn.results.toList.toArray := by simp
    rw [this, List.mapM_toArray, Sem.run_map, h2]
    rfl
  rw [results_eq]
  simp only [Sem.run_bind, hrun, Result.andThen_ok, Sem.run_pure]
  split at h1
  · rename_i x
    cases h1
    match vs, h3 with
    | [v], _ => exact ⟨v, by simp, h4 0 y v rfl rfl⟩
  · rename_i hne
    cases h1
    refine ⟨.tuple vs.toArray, ?_, .tup _ _ (by simpa using h3) (fun k x v hx hv => h4 k x v hx (by simpa using hv))⟩
    rw [dif_neg]
    intro he
    match xs, vs, h3 with
    | [x], [v], _ => exact hne x rfl
    | [], [], _ => simp at he
    | _ :: _ :: _, _ :: _ :: _, _ => simp at he

theorem ini_sat {c : Ctx} {args : List AV} {Hp : List Blk} {vs : Array Value} (h : Ini c args Hp vs) (n : Nat) (hn : args.length ≤ n) :
    SatAt c ⟨n, argT 0 args, [], Hp, 0⟩ { tmps := vs ++ Array.replicate (n - vs.size) undef, defers := [] } c.w0 (ρ0 c) c.O0 := by
  have hl := h.len
  have hh : hk ⟨n, argT 0 args, [], Hp, 0⟩ = hkp Hp := by
    funext i
    cases i <;> rfl
  refine ⟨h.gn.2.symm, by simp; omega, fun _ => rfl, fun _ _ => rfl, fun t x ht => ?_, by rw [hh]; exact h.H, ⟨rfl, rfl, rfl, Nat.le_refl _, fun _ _ _ _ => rfl, fun _ h => h, fun _ h => .inl h, h.wlt, h.olt, h.olt, fun k hk => absurd hk (h.gn.1 k)⟩⟩
  obtain ⟨_, h2⟩ := lk_argT args 0 t ht
  simp only [Nat.sub_zero] at h2
  have hlt : t < vs.size := by rw [hl]; exact (List.getElem?_eq_some_iff.1 h2).1
  refine ⟨vs[t], ?_, h.args t x _ h2 (by simp [hlt])⟩
  simp [Array.getElem?_append, hlt]

/-- What a body leaves. -/
theorem fin_of {P : Program} {ts : List (Nat × TI)} (hT : TOK P ts) {fn : Func} {Hp : List Blk} {R : AV → List Blk → List Rw → Prop} {c : Ctx} {σ : St} {a : Act} {w : World} {ρ : Env} {O : Nat → Prop} (hs' : SatAt c σ a w ρ O) (hdf : c.dfr = []) {rf r : AV} {Hr : List Rw} {m : List Nat}
    (hr : ares ts fn.results.toList σ = some rf) (ho : Out Hp σ rf R r Hr m) (hlf : ∀ (k : Nat) b, σ.Hp[k]? = some b → LFB b) :
    a.defers = [] ∧ ∃ v, (results fn a.tmps).run P w = .ok v w ∧ ∃ r Hp' Hr v' ρ O, R r Hp' Hr ∧ Ending.returned v = .returned v' ∧ FinAt c r Hp' Hr v' w ρ O := by
  obtain ⟨v, h1, h2⟩ := ares_sound hT hs' hr
  refine ⟨hs'.defers.trans hdf, v, h1, r, σ.Hp, Hr, v, (fun | .par k => c.ρp k | .loc k => match m[k]? with | some j => ρ (.loc j) | none => none), O, ho.post, rfl, ?_⟩
  have hm : ∀ j, j < m.length → (match m[j]? with | some j => ρ (.loc j) | none => none) = ρ (.loc (m.getD j 0)) := by
    intro j hj
    simp [hj]
  have hhk : ∀ i b, hk (finS σ.Hp Hr) i = some b → (∃ k, i = .par k ∧ σ.Hp[k]? = some b) ∨ ∃ k j rw, i = .loc k ∧ m[k]? = some j ∧ Hr[k]? = some rw ∧ b = rw.blk ∧ hk σ (.loc j) = some b := by
    intro i b hb'
    cases i with
    | par k => exact .inl ⟨k, rfl, hb'⟩
    | loc k =>
      have e := lk_rowsH [] Hr 0 k
      simp only [List.append_nil] at e
      simp only [finS, hk, e] at hb'
      by_cases hk' : k < Hr.length
      · rw [if_pos (by omega)] at hb'
        simp [hk'] at hb'
        have hkm : k < m.length := by rw [← ho.len]; exact hk'
        refine .inr ⟨k, m[k], Hr[k], rfl, by simp [hkm], by simp [hk'], hb'.symm, ?_⟩
        rw [← hb']
        exact ho.rows k _ _ (by simp [hkm]) (by simp [hk'])
      · rw [if_neg (by omega)] at hb'
        simp [lk] at hb'
  have hblk : ∀ i b g, hk (finS σ.Hp Hr) i = some b → ((fun | .par k => c.ρp k | .loc k => match m[k]? with | some j => ρ (.loc j) | none => none : Env) i).bind vblk = some g →
      ∃ i', hk σ i' = some b ∧ (ρ i').bind vblk = some g ∧ ((∃ k, i = .par k ∧ i' = .par k) ∨ ∃ k j, i = .loc k ∧ i' = .loc j ∧ m[k]? = some j) := by
    intro i b g hb' hg
    rcases hhk i b hb' with ⟨k, rfl, h1⟩ | ⟨k, j, rw', rfl, h1, h2, h3, h4⟩
    · exact ⟨.par k, h1, by rw [hs'.par]; exact hg, .inl ⟨k, rfl, rfl⟩⟩
    · refine ⟨.loc j, h4, ?_, .inr ⟨k, j, rfl, rfl, h1⟩⟩
      simpa only [h1] using hg
  refine ⟨fun _ => rfl, fun k hk' => ?_, ⟨fun i b hb' => ?_, fun i b g hb' hg => ?_, fun i j bi bj g hbi hbj hgi hgj => ?_⟩, hs'.F, ?_⟩
  · have : m[k]? = none := by rw [List.getElem?_eq_none]; rw [← ho.len]; exact hk'
    simp only [this]
  · rcases hhk i b hb' with ⟨k, rfl, h1⟩ | ⟨k, j, rw', rfl, h1, h2, h3, h4⟩
    · exact (hlf k b h1).bok (ρ := ρ) hs'.par (hs'.par k) (hs'.H.ok (.par k) b h1)
    · have := hs'.H.ok (.loc j) b h4
      subst h3
      exact LFB.bok (ρ := ρ) hs'.par (by simp only [h1]) trivial this
  · obtain ⟨i', h1, h2, h3⟩ := hblk i b g hb' hg
    obtain ⟨e1, e2, e3⟩ := hs'.H.own i' b g h1 h2
    refine ⟨e1, e2, ?_⟩
    rcases h3 with ⟨k, rfl, rfl⟩ | ⟨k, j, rfl, rfl, _⟩
    · exact e3
    · exact e3
  · obtain ⟨i', a1, a2, a3⟩ := hblk i bi g hbi hgi
    obtain ⟨j', b1, b2, b3⟩ := hblk j bj g hbj hgj
    have := hs'.H.inj i' j' bi bj g a1 b1 a2 b2
    subst this
    rcases a3 with ⟨k, rfl, e1⟩ | ⟨k, x, rfl, e1, e2⟩ <;> rcases b3 with ⟨k', rfl, e3⟩ | ⟨k', x', rfl, e3, e4⟩
    · rw [e1] at e3; injection e3 with e3; rw [e3]
    · rw [e1] at e3; cases e3
    · rw [e1] at e3; cases e3
    · rw [e1] at e3
      injection e3 with e3
      subst e3
      congr 1
      have hk1 : k < m.length := (List.getElem?_eq_some_iff.1 e2).1
      exact (List.getElem?_inj hk1 ho.nodup).1 (e2.trans e4.symm)
  · have h2' := h2
    rw [← ho.ren] at h2'
    exact (ren3_iff (ρ := ρ) hm ho.ok).1 h2'

/-- A function's body. -/
theorem ACalls.body {P : Program} {ts : List (Nat × TI)} (hT : TOK P ts) {f : FuncId} {fn : Func} {code : Code} {args : List AV} {Hp : List Blk} {R : AV → List Blk → List Rw → Prop}
    (hf : P.funcs[f]? = some fn) (hb : fn.body = some code) (hname : (fn.name == "runtime.NumGoroutine") = false) (hn : args.length ≤ fn.ntmps)
    (h : AW P code (retQ ts fn.results.toList Hp R) ⟨fn.ntmps, argT 0 args, [], Hp, 0⟩) : ACalls P f args Hp R := by
  refine ⟨⟨fn, hf, hname, by rw [hb]; rfl⟩, fun c vs hi => ?_⟩
  have hs := ini_sat hi fn.ntmps hn
  refine calls_of_wp hf hb (wp_mono (h c _ _ ⟨_, _, hs⟩) ?_)
  have fin : ∀ a w σ, (∃ rf r Hr m, ares ts fn.results.toList σ = some rf ∧ Out Hp σ rf R r Hr m) → Sat c σ a w →
      a.defers = [] ∧ ∃ v, (results fn a.tmps).run P w = .ok v w ∧ ∃ r Hp' Hr v' ρ O, R r Hp' Hr ∧ Ending.returned v = .returned v' ∧ FinAt c r Hp' Hr v' w ρ O := by
    rintro a w σ ⟨rf, r, Hr, m, hr, ho⟩ ⟨ρ, O, hs'⟩
    refine fin_of hT hs' hi.gn.2 hr ho (fun k b hb' => ?_)
    rcases ho.hp with he | hl
    · rw [he] at hb'
      exact (hi.H.ok (.par k) b hb').lf
    · exact hl b (List.mem_of_getElem? hb')
  rintro e a w ⟨σ, hq, hs'⟩
  cases e with
  | normal => exact fin a w σ hq hs'
  | ret => exact fin a w σ hq hs'
  | exit id => exact hq.elim
  | goto l => exact hq.elim
  | panic ch => exact hq.elim
  | outgrown => exact hq.elim

end Go.AM

/- A machine over pure data: part 10: calls. -/
namespace Go.AM
open Go Go.RowKit

def rpI (m : List Id) : Id → Id
  | .par k => m.getD k (.par k)
  | i => i
def rp1 (m : List Id) : AV → AV
  | .ptr i off => .ptr (rpI m i) off
  | .own i => .own (rpI m i)
  | .rptr i sz j f => .rptr (rpI m i) sz j f
  | .bsl i n => .bsl (rpI m i) n
  | x => x
def rp2 (m : List Id) : AV → AV
  | .fn f caps => .fn f (caps.map (rp1 m))
  | .agg xs => .agg (xs.map (rp1 m))
  | x => rp1 m x
def pkI (n : Nat) : Id → Bool
  | .par k => Nat.blt k n
  | .loc _ => false
def pk1 (n : Nat) : AV → Bool
  | .ptr i _ => pkI n i
  | .own i => pkI n i
  | .rptr i _ _ _ => pkI n i
  | .bsl i _ => pkI n i
  | .d _ => true
  | .nilrow => true
  | .eptr _ => true
  | _ => false
def pk2 (n : Nat) : AV → Bool
  | .fn _ caps => caps.all (pk1 n)
  | .agg xs => xs.all (pk1 n)
  | x => pk1 n x

section
variable {ρ ρ' : Env} {O : Nat → Prop} {w : World} {m : List Id}
theorem pkI_eq (hm : ∀ k, ρ' (.par k) = (m[k]?).bind ρ) {i : Id} (h : pkI m.length i = true) : ρ' i = ρ (rpI m i) := by
  cases i with
  | loc k => simp [pkI] at h
  | par k =>
    have hk : k < m.length := by simpa [pkI] using h
    rw [hm]
    simp [rpI, hk]
theorem rp1_vr (hm : ∀ k, ρ' (.par k) = (m[k]?).bind ρ) {x : AV} (hx : pk1 m.length x = true) {v : Value} (h : VR ρ O w (rp1 m x) v) : VR ρ' O w x v := by
  cases x with
  | ptr i off => cases h with | ptr _ _ g hg => exact .ptr _ _ g (by rw [pkI_eq hm hx]; exact hg)
  | own i => cases h with | own _ _ h h1 => exact .own _ _ (by rw [pkI_eq hm hx]; exact h) h1
  | rptr i sz j f => cases h with | rptr _ _ _ _ g hg => exact .rptr _ _ _ _ g (by rw [pkI_eq hm hx]; exact hg)
  | bsl i n => cases h with | bsl _ _ g hg => exact .bsl _ _ g (by rw [pkI_eq hm hx]; exact hg)
  | d y => cases h with | d _ _ h => exact .d _ _ h
  | nilrow => cases h; exact .nilrow
  | eptr r => cases h with | eptr _ p u a b c d => exact .eptr _ p u a b c d
  | _ => simp [pk1] at hx
theorem rp2_vr (hm : ∀ k, ρ' (.par k) = (m[k]?).bind ρ) {x : AV} (hx : pk2 m.length x = true) {v : Value} (h : VR ρ O w (rp2 m x) v) : VR ρ' O w x v := by
  have lst : ∀ (xs : List AV) (vs : Array Value), xs.all (pk1 m.length) = true → (∀ (k : Nat) x v, (xs.map (rp1 m))[k]? = some x → vs[k]? = some v → VR ρ O w x v) → ∀ (k : Nat) x v, xs[k]? = some x → vs[k]? = some v → VR ρ' O w x v :=
    fun xs vs ha h k x v hx hv => rp1_vr hm (List.all_eq_true.1 ha x (List.mem_of_getElem? hx)) (h k _ v (by simp [hx]) hv)
  cases x with
  | fn f caps => cases h with | fn _ _ vs hl hc => exact .fn _ _ vs (by simpa using hl) (lst caps vs hx hc)
  | agg xs => cases h with | agg _ vs hl hc => exact .agg _ vs (by simpa using hl) (lst xs vs hx hc)
  | d y => exact rp1_vr hm (x := .d y) hx h
  | nilrow => exact rp1_vr hm (x := .nilrow) hx h
  | ptr i off => exact rp1_vr hm (x := .ptr i off) hx h
  | eptr y => exact rp1_vr hm (x := .eptr y) hx h
  | rptr i sz j f => exact rp1_vr hm (x := .rptr i sz j f) hx h
  | own i => exact rp1_vr hm (x := .own i) hx h
  | sub i sz lo n full => exact rp1_vr hm (x := .sub i sz lo n full) hx h
  | bsl i n => exact rp1_vr hm (x := .bsl i n) hx h
  | tup y => exact rp1_vr hm (x := .tup y) hx h
  | junk => exact rp1_vr hm (x := .junk) hx h
end

def blkC : Blk → Bool
  | .box _ cells => cells.all (ok1 0)
  | _ => true

theorem ok1_vr {ρ ρ' : Env} {O : Nat → Prop} {w : World} {x : AV} (hx : ok1 0 x = true) {v : Value} (h : VR ρ O w x v) : VR ρ' O w x v := by
  cases x with
  | d y => cases h with | d _ _ h => exact .d _ _ h
  | nilrow => cases h; exact .nilrow
  | eptr r => cases h with | eptr _ p u a b c d => exact .eptr _ p u a b c d
  | own i => cases i <;> simp [ok1] at hx
  | _ => simp [ok1] at hx
theorem blkC_bok {ρ ρ' : Env} {O : Nat → Prop} {w : World} {i i' : Id} (hi : ρ i = ρ' i') {b : Blk} (hb : blkC b = true) (h : BOK ρ O w i b) : BOK ρ' O w i' b := by
  cases b with
  | box e cells =>
    obtain ⟨g, vs, h1, h2, h3, h4⟩ := h
    exact ⟨g, vs, by rw [← hi]; exact h1, h2, h3, fun k x v hx hv => ⟨ok1_vr (List.all_eq_true.1 hb x (List.mem_of_getElem? hx)) (h4 k x v hx hv).1, (h4 k x v hx hv).2⟩⟩
  | row e sz xs =>
    obtain ⟨v, vs, h1, h2⟩ := h
    exact ⟨v, vs, by rw [← hi]; exact h1, h2⟩
  | iter s pos =>
    obtain ⟨g, h1, h2⟩ := h
    exact ⟨g, by rw [← hi]; exact h1, h2⟩
  | mp es clock =>
    obtain ⟨g, h1, h2⟩ := h
    exact ⟨g, by rw [← hi]; exact h1, h2⟩
  | mpr g0 es clock =>
    obtain ⟨g, h1, h2⟩ := h
    exact ⟨g, by rw [← hi]; exact h1, h2⟩
  | gen p =>
    obtain ⟨v, h1, h2⟩ := h
    exact ⟨v, by rw [← hi]; exact h1, h2⟩
  | rowc t sz xs L C =>
    obtain ⟨g, cur, h1, h2⟩ := h
    exact ⟨g, cur, by rw [← hi]; exact h1, h2⟩

/-- What a call is handed: the world as it is; it may write the blocks m. -/
def ctxOf (ρ : Env) (O : Nat → Prop) (w : World) (m : List Id) : Ctx :=
  ⟨fun k => (m[k]?).bind ρ, O, fun g => ∃ i, i ∈ m ∧ (ρ i).bind vblk = some g, w, fun _ => False, []⟩

def merge (clk : Nat) (ρ ρ2 : Env) : Env
  | .par k => ρ (.par k)
  | .loc k => if k < clk then ρ (.loc k) else ρ2 (.loc (k - clk))

/-- Behind a call. -/
theorem call_core {c : Ctx} {σ σ' : St} {a : Act} {w w2 : World} {ρ ρ2 : Env} {O O2 : Nat → Prop} (hs : SatAt c σ a w ρ O) {m : List Id} (hmn : ∀ i ∈ m, ∃ b, hk σ i = some b)
    {r : AV} {Hp' : List Blk} {Hr : List Rw} {v : Value} (hf : FinAt (ctxOf ρ O w m) r Hp' Hr v w2 ρ2 O2) (hcl : Hp'.all blkC = true)
    (hn : σ'.n = σ.n) (hT : σ'.T = σ.T) (hclk : σ'.clk = σ.clk + Hr.length)
    (h1 : ∀ i b, hk σ' i = some b → (∃ k : Nat, m[k]? = some i ∧ Hp'[k]? = some b) ∨ (i ∉ m ∧ hk σ i = some b) ∨ ∃ (k : Nat) (rw : Rw), i = .loc (σ.clk + k) ∧ Hr[k]? = some rw ∧ b = rw.blk) :
    SatAt c σ' a w2 (merge σ.clk ρ ρ2) O2 ∧ Ext ρ (merge σ.clk ρ ρ2) := by
  have hF := hf.F
  have hext : Ext ρ (merge σ.clk ρ ρ2) := by
    intro i u hu
    cases i with
    | par k => exact hu
    | loc k =>
      by_cases hk' : k < σ.clk
      · simpa [merge, hk'] using hu
      · rw [hs.fresh k (by omega)] at hu; cases hu
  have hW : ∀ g, (ctxOf ρ O w m).W g → O g ∧ g < w.heap.size ∧ (c.W g ∨ Nw c g) := by
    rintro g ⟨i, hi, hg⟩
    obtain ⟨b, hb⟩ := hmn i hi
    obtain ⟨e1, e2, e3⟩ := hs.H.own i b g hb hg
    exact ⟨e1, e2, place_or e3⟩
  have hkeep : Keeps O w O2 w2 := ⟨hF.size, fun k hk hO => hF.same k hk (fun h => hO (hW k h).1) (fun h => h), fun k hk => (hF.news k hk).imp id (fun h => h.elim id False.elim)⟩
  have hloc : ∀ k b, hk σ (.loc k) = some b → k < σ.clk := by
    intro k b hb
    rcases Nat.lt_or_ge k σ.clk with h | h
    · exact h
    · have h0 := hs.fresh k h
      have hB := hs.H.ok _ _ hb
      cases b with
      | box => obtain ⟨g, vs, e, _⟩ := hB; rw [h0] at e; cases e
      | row => obtain ⟨g, vs, e, _⟩ := hB; rw [h0] at e; cases e
      | iter => obtain ⟨g, e, _⟩ := hB; rw [h0] at e; cases e
      | mp => obtain ⟨g, e, _⟩ := hB; rw [h0] at e; cases e
      | mpr => obtain ⟨g, e, _⟩ := hB; rw [h0] at e; cases e
      | gen => obtain ⟨v, e, _⟩ := hB; rw [h0] at e; cases e
      | rowc => obtain ⟨g, vs, e, _⟩ := hB; rw [h0] at e; cases e
  have hold : ∀ i b, hk σ i = some b → merge σ.clk ρ ρ2 i = ρ i := by
    intro i b hb
    cases i with
    | par k => rfl
    | loc k => simp [merge, hloc k b hb]
  have hnew : ∀ k, merge σ.clk ρ ρ2 (.loc (σ.clk + k)) = ρ2 (.loc k) := by
    intro k
    have h : ¬ σ.clk + k < σ.clk := by omega
    simp only [merge, if_neg h, Nat.add_sub_cancel_left]
  have hpar : ∀ (k : Nat) i, m[k]? = some i → ρ2 (.par k) = ρ i := by
    intro k i hki
    rw [hf.par]
    simp [ctxOf, hki]
  have hfp : ∀ (k : Nat) i b, m[k]? = some i → Hp'[k]? = some b → hk (finS Hp' Hr) (.par k) = some b := fun k i b _ h => h
  have hfl : ∀ (k : Nat) rw', Hr[k]? = some rw' → hk (finS Hp' Hr) (.loc k) = some rw'.blk := by
    intro k rw' hr
    have hlt : k < Hr.length := (List.getElem?_eq_some_iff.1 hr).1
    have e := lk_rowsH [] Hr 0 k
    simp only [List.append_nil] at e
    simp only [finS, hk, e]
    rw [if_pos (by omega)]
    simp [hr]
  have hmem : ∀ (k : Nat) i, m[k]? = some i → i ∈ m := fun k i h => List.mem_of_getElem? h
  refine ⟨⟨hs.defers, hs.n.trans hn.symm, fun k => hs.par k, fun k hk' => ?_, fun t x ht => ?_, ⟨fun i b hb => ?_, fun i b g hb hg => ?_, fun i j bi bj g hbi hbj hgi hgj => ?_⟩, ?_⟩, hext⟩
  · rw [hclk] at hk'
    have : merge σ.clk ρ ρ2 (.loc k) = ρ2 (.loc (k - σ.clk)) := by simp [merge]; intro h; omega
    rw [this]
    exact hf.fresh _ (by omega)
  · rw [hT] at ht
    obtain ⟨u, e1, e2⟩ := hs.T t x ht
    exact ⟨u, e1, e2.keep hext hkeep⟩
  · rcases h1 i b hb with ⟨k, e1, e2⟩ | ⟨e1, e2⟩ | ⟨k, rw', rfl, e2, rfl⟩
    · obtain ⟨b0, hb0⟩ := hmn i (hmem k i e1)
      refine blkC_bok (ρ := ρ2) (i := .par k) ?_ (List.all_eq_true.1 hcl b (List.mem_of_getElem? e2)) (hf.H.ok _ _ (hfp k i b e1 e2))
      rw [hpar k i e1, hold i b0 hb0]
    · refine (hs.H.ok i b e2).keep hext hkeep (fun g hg => ?_)
      refine hF.same g (hs.H.own i b g e2 hg).2.1 ?_ (fun h => h)
      rintro ⟨j, hj, hgj⟩
      obtain ⟨b', hb'⟩ := hmn j hj
      have := hs.H.inj i j b b' g e2 hb' hg hgj
      subst this
      exact e1 hj
    · exact blkC_bok (ρ := ρ2) (i := .loc k) (hnew k).symm rfl (hf.H.ok _ _ (hfl k rw' e2))
  · rcases h1 i b hb with ⟨k, e1, e2⟩ | ⟨e1, e2⟩ | ⟨k, rw', rfl, e2, rfl⟩
    · obtain ⟨b0, hb0⟩ := hmn i (hmem k i e1)
      rw [hold i b0 hb0] at hg
      obtain ⟨f1, f2, f3⟩ := hs.H.own i b0 g hb0 hg
      exact ⟨hF.mono g f1, Nat.lt_of_lt_of_le f2 hF.size, f3⟩
    · rw [hold i b e2] at hg
      obtain ⟨f1, f2, f3⟩ := hs.H.own i b g e2 hg
      exact ⟨hF.mono g f1, Nat.lt_of_lt_of_le f2 hF.size, f3⟩
    · rw [hnew] at hg
      obtain ⟨f1, f2, f3⟩ := hf.H.own _ _ g (hfl k rw' e2) hg
      exact ⟨f1, f2, .inl (Nat.le_trans hs.F.size (f3.elim id False.elim))⟩
  · -- what a block is, in the callee's words or in the caller's
    have view : ∀ i b g, hk σ' i = some b → (merge σ.clk ρ ρ2 i).bind vblk = some g →
        (∃ b0, hk σ i = some b0 ∧ (ρ i).bind vblk = some g) ∨ ∃ (k : Nat) (rw' : Rw), i = .loc (σ.clk + k) ∧ Hr[k]? = some rw' ∧ (ρ2 (.loc k)).bind vblk = some g := by
      intro i b g hb hg
      rcases h1 i b hb with ⟨k, e1, e2⟩ | ⟨e1, e2⟩ | ⟨k, rw', rfl, e2, rfl⟩
      · obtain ⟨b0, hb0⟩ := hmn i (hmem k i e1)
        exact .inl ⟨b0, hb0, by rw [← hold i b0 hb0]; exact hg⟩
      · exact .inl ⟨b, e2, by rw [← hold i b e2]; exact hg⟩
      · exact .inr ⟨k, rw', rfl, e2, by rw [← hnew]; exact hg⟩
    have apart : ∀ i b g (k : Nat) rw' bi, hk σ' i = some bi → hk σ i = some b → (ρ i).bind vblk = some g → Hr[k]? = some rw' → (ρ2 (.loc k)).bind vblk = some g → False := by
      intro i b g k rw' bi hbi' hb hg hr hgk
      obtain ⟨_, _, f3⟩ := hf.H.own _ _ g (hfl k rw' hr) hgk
      have := (hs.H.own i b g hb hg).2.1
      have : w.heap.size ≤ g := f3.elim id False.elim
      omega
    rcases view i bi g hbi hgi with ⟨b0, p1, p2⟩ | ⟨k, rw1, rfl, p1, p2⟩ <;> rcases view j bj g hbj hgj with ⟨b0', q1, q2⟩ | ⟨k', rw2, rfl, q1, q2⟩
    · exact hs.H.inj i j b0 b0' g p1 q1 p2 q2
    · exact (apart i b0 g k' rw2 bi hbi p1 p2 q1 q2).elim
    · exact (apart j b0' g k rw1 bj hbj q1 q2 p1 p2).elim
    · have := hf.H.inj (.loc k) (.loc k') _ _ g (hfl k rw1 p1) (hfl k' rw2 q1) p2 q2
      injection this with this
      rw [this]
  · have hF0 := hs.F
    refine ⟨hF.os.trans hF0.os, hF.tape.trans hF0.tape, hF.output.trans hF0.output, Nat.le_trans hF0.size hF.size, fun k hk' hkW hkG => ?_, fun k hk' => hF.mono k (hF0.mono k hk'), fun k hk' => ?_, hF0.wlt, hF.olt, hF0.olt0, hF0.glt⟩
    · refine (hF.same k (Nat.lt_of_lt_of_le hk' hF0.size) (fun h => ?_) (fun h => h)).trans (hF0.same k hk' hkW hkG)
      rcases (hW k h).2.2 with h | h | h
      · exact hkW h
      · omega
      · exact hkG h
    · rcases hF.news k hk' with h | h
      · exact hF0.news k h
      · exact .inr (.inl (Nat.le_trans hF0.size (h.elim id False.elim)))

end Go.AM

/- A machine over pure data: part 11: the rules for calls; what may be forgotten. -/
namespace Go.AM
open Go Go.RowKit

theorem rp1_nil (x : AV) : rp1 [] x = x := by
  cases x <;> first | rfl | (rename_i i _; cases i <;> rfl) | (rename_i i; cases i <;> rfl) | (rename_i i _ _ _; cases i <;> rfl)
theorem rp2_nil (x : AV) : rp2 [] x = x := by
  have h : rp1 [] = id := funext rp1_nil
  cases x <;> first | (simp [rp2, h]; done) | exact rp1_nil _

theorem run_call {P : Program} {o : Oper} {x : Operand} {args : Array Operand} {tys : Array TypeId} (hop : o.op = .call ⟨.value x, args, tys⟩) {a : Act} {f : FuncId} {cvs : Array Value} (hx : a.eval x = .func (.func f) #[] cvs)
    (hc : Callable P f) (w : World) : (execOp a.eval o).run P w = .ok (.enter f (args.map a.eval ++ cvs)) w := by
  obtain ⟨fn, h1, h2, h3⟩ := hc
  simp [execOp, hop, resolve, hx, Deferred.ofValue, invoke, callFunc, h1]
  rw [if_neg (by simpa using h2)]
  rw [if_neg (fun h => by rw [h] at h3; simp at h3)]

theorem aevs_vals {c : Ctx} {σ : St} {a : Act} {w : World} {ρ : Env} {O : Nat → Prop} (hs : SatAt c σ a w ρ O) {args : Array Operand} {as_ : List AV} (ha : aevs σ args.toList some = some as_) :
    as_.length = args.size ∧ ∀ (k : Nat) x v, as_[k]? = some x → (args.map a.eval)[k]? = some v → VR ρ O w x v := by
  obtain ⟨xs, h1, h2, h3⟩ := aevs_spec ha
  cases h1
  refine ⟨by simpa using h2, fun k x v hx hv => ?_⟩
  rw [Array.getElem?_map, Option.map_eq_some_iff] at hv
  obtain ⟨y, hy, rfl⟩ := hv
  exact ev_sound hs (h3 k x y hx (by simpa using hy))

section
variable {P : Program} {l rest : List Oper} {Q : Exit → St → Prop} {σ : St} {o : Oper}

/-- A call, at its most general: m are the caller's blocks that it is handed. -/
theorem AL.callG {x : Operand} {args : Array Operand} {tys : Array TypeId} (hop : o.op = .call ⟨.value x, args, tys⟩) (hw : wantedA l o σ = some true) {f : FuncId} {caps as_ ys : List AV} (hx : ev σ x = some (.fn f caps))
    (ha : aevs σ args.toList some = some as_) (m : List Id) {HpC : List Blk} (hHp : m.map (hk σ) = HpC.map some) (hcl : HpC.all blkC = true) (hnd : m.Nodup) (hys : ys.map (rp2 m) = as_ ++ caps) (hpk : ys.all (pk2 m.length) = true)
    {R : AV → List Blk → List Rw → Prop} (hc : ACalls P f ys HpC R)
    (h : ∀ c a w ρ O r Hp' Hr v w2 ρ2 O2, R r Hp' Hr → SatAt c σ a w ρ O → FinAt (ctxOf ρ O w m) r Hp' Hr v w2 ρ2 O2 → ∃ σ', Sat c σ' (a.put o.dst v) w2 ∧ AL P l Q rest σ') : AL P l Q (o :: rest) σ := by
  rintro c a w ⟨ρ, O, hs⟩
  refine wpList_step fun K hK => ?_
  rw [if_pos (wantedA_sound hw ⟨ρ, O, hs⟩)]
  have hxv := ev_sound hs hx
  generalize hq : a.eval x = q at hxv
  cases hxv with
  | fn _ _ cvs hcl' hcv =>
    obtain ⟨ha1, ha2⟩ := aevs_vals hs ha
    unfold Oper.wp
    rw [run_call hop hq hc.1 w]
    rw [Oper.upon_enter]
    have hm : ∀ k, ρ0 (ctxOf ρ O w m) (.par k) = (m[k]?).bind ρ := fun _ => rfl
    have hblk : ∀ (k : Nat) b, HpC[k]? = some b → ∃ i, m[k]? = some i ∧ hk σ i = some b := by
      intro k b hb
      have e := congrArg (fun l => l[k]?) hHp
      simp only [List.getElem?_map, hb, Option.map_some] at e
      rw [Option.map_eq_some_iff] at e
      exact e
    have hini : Ini (ctxOf ρ O w m) ys HpC (args.map a.eval ++ cvs) := by
      have hlen : ys.length = as_.length + caps.length := by
        have := congrArg List.length hys
        simpa using this
      refine ⟨by simp [hlen, ha1, hcl'], fun k y v hy hv => ?_, ⟨fun i b hb => ?_, fun i b g hb hg => ?_, fun i j bi bj g hbi hbj hgi hgj => ?_⟩, ?_, ?_, fun k hk => hk, rfl⟩
      · refine rp2_vr (ρ := ρ) hm (List.all_eq_true.1 hpk y (List.mem_of_getElem? hy)) ?_
        have e := congrArg (fun l => l[k]?) hys
        simp only [List.getElem?_map, hy, Option.map_some] at e
        rw [Array.getElem?_append] at hv
        simp only [Array.size_map] at hv
        rw [List.getElem?_append] at e
        by_cases hk' : k < args.size
        · rw [if_pos hk'] at hv
          rw [if_pos (by omega)] at e
          exact ha2 k _ v e.symm hv
        · rw [if_neg hk'] at hv
          rw [if_neg (by omega)] at e
          rw [ha1] at e
          exact hcv _ _ v e.symm hv
      · cases i with
        | loc k => cases hb
        | par k =>
          obtain ⟨i, e1, e2⟩ := hblk k b hb
          exact blkC_bok (ρ := ρ) (i := i) (by rw [hm, e1]; rfl) (List.all_eq_true.1 hcl b (List.mem_of_getElem? hb)) (hs.H.ok i b e2)
      · cases i with
        | loc k => cases hb
        | par k =>
          obtain ⟨i, e1, e2⟩ := hblk k b hb
          rw [hm, e1] at hg
          obtain ⟨f1, f2, _⟩ := hs.H.own i b g e2 hg
          exact ⟨f1, f2, ⟨i, List.mem_of_getElem? e1, hg⟩⟩
      · cases i with
        | loc k => cases hbi
        | par k =>
          cases j with
          | loc k' => cases hbj
          | par k' =>
            obtain ⟨i, e1, e2⟩ := hblk k bi hbi
            obtain ⟨j, e3, e4⟩ := hblk k' bj hbj
            rw [hm, e1] at hgi
            rw [hm, e3] at hgj
            have := hs.H.inj i j bi bj g e2 e4 hgi hgj
            subst this
            have hk1 : k < m.length := (List.getElem?_eq_some_iff.1 e1).1
            rw [(List.getElem?_inj hk1 hnd).1 (e1.trans e3.symm)]
      · rintro g ⟨i, hi, hg⟩
        have : hk σ i ∈ HpC.map some := by rw [← hHp]; exact List.mem_map_of_mem hi
        obtain ⟨b, _, hb⟩ := List.mem_map.1 this
        have e := hs.H.own i b g hb.symm hg
        exact ⟨e.1, e.2.1⟩
      · exact hs.F.olt
    refine (hc.2 (ctxOf ρ O w m) _ hini).mono ?_
    rintro e w2 ⟨r, Hp', Hr, v, ρ2, O2, hR, rfl, hf⟩
    obtain ⟨σ', h1, h2⟩ := h c a w ρ O r Hp' Hr v w2 ρ2 O2 hR hs hf
    exact hK _ _ (h2 c _ _ h1)

theorem hp_nil {c : Ctx} {r : AV} {Hp : List Blk} {Hr : List Rw} {v : Value} {w : World} {ρ : Env} {O : Nat → Prop} (hf : FinAt c r Hp Hr v w ρ O) (hn : ∀ k, c.ρp k = none) : Hp = [] := by
  match Hp with
  | [] => rfl
  | b :: l =>
    have h0 : ρ (.par 0) = none := by rw [hf.par]; exact hn 0
    have hB := hf.H.ok (.par 0) b rfl
    exfalso
    cases b with
    | box => obtain ⟨g, vs, e, _⟩ := hB; rw [h0] at e; cases e
    | row => obtain ⟨g, vs, e, _⟩ := hB; rw [h0] at e; cases e
    | iter => obtain ⟨g, e, _⟩ := hB; rw [h0] at e; cases e
    | mp => obtain ⟨g, e, _⟩ := hB; rw [h0] at e; cases e
    | mpr => obtain ⟨g, e, _⟩ := hB; rw [h0] at e; cases e
    | gen => obtain ⟨v, e, _⟩ := hB; rw [h0] at e; cases e
    | rowc => obtain ⟨g, vs, e, _⟩ := hB; rw [h0] at e; cases e

/-- rows that a call made: their numbers at the caller's. -/
def iota (k : Nat) : Nat → List Nat
  | 0 => []
  | n + 1 => k :: iota (k + 1) n
theorem iota_length : ∀ (n k : Nat), (iota k n).length = n
  | 0, _ => rfl
  | n + 1, k => by simp [iota, iota_length n]
theorem iota_get : ∀ (n k j : Nat), j < n → (iota k n).getD j 0 = k + j
  | 0, _, _, h => by omega
  | n + 1, k, 0, _ => rfl
  | n + 1, k, j + 1, h => by
    have := iota_get n (k + 1) j (by omega)
    simp only [iota, List.getD_cons_succ, this]
    omega

/-- A call that is handed pure data alone. -/
theorem AL.callR {n d clk : Nat} {T : List (Nat × AV)} {H : List (Nat × Option Blk)} {Hp : List Blk} {x : Operand} {args : Array Operand} {tys : Array TypeId} {ty : TypeId} {pos : String} {aft : Array Edge} {g : Option (Nat × Bool)}
    (hw : wantedA l ⟨some d, .call ⟨.value x, args, tys⟩, ty, pos, aft, g⟩ ⟨n, T, H, Hp, clk⟩ = some true) (hd : Nat.blt d n = true) {f : FuncId} {caps as_ : List AV} (hx : ev ⟨n, T, H, Hp, clk⟩ x = some (.fn f caps))
    (ha : aevs ⟨n, T, H, Hp, clk⟩ args.toList some = some as_) (hpk : (as_ ++ caps).all (pk2 0) = true) {R : AV → List Blk → List Rw → Prop} (hc : ACalls P f (as_ ++ caps) [] R)
    (h : ∀ r Hr, R r [] Hr → ok3 Hr.length r = true ∧ AL P l Q rest ⟨n, (d, ren3 (iota clk Hr.length) r) :: T, rowsH clk Hr ++ H, Hp, clk + Hr.length⟩) :
    AL P l Q (⟨some d, .call ⟨.value x, args, tys⟩, ty, pos, aft, g⟩ :: rest) ⟨n, T, H, Hp, clk⟩ := by
  refine AL.callG rfl hw hx ha [] (HpC := []) rfl rfl List.nodup_nil (by rw [List.map_congr_left (fun x _ => rp2_nil x)]; simp) hpk hc ?_
  intro c a w ρ O r Hp' Hr v w2 ρ2 O2 hR hs hf
  obtain rfl := hp_nil hf (fun _ => rfl)
  obtain ⟨hok, h⟩ := h r Hr hR
  have hcore := call_core (σ' := ⟨n, T, rowsH clk Hr ++ H, Hp, clk + Hr.length⟩) hs (fun i hi => by cases hi) hf rfl rfl rfl rfl (fun i b hb => by
    cases i with
    | par k => exact .inr (.inl ⟨by simp, hb⟩)
    | loc k =>
      simp only [hk, lk_rowsH] at hb
      by_cases hk' : clk ≤ k ∧ k < clk + Hr.length
      · rw [if_pos hk'] at hb
        have hlt : k - clk < Hr.length := by omega
        simp [hlt] at hb
        exact .inr (.inr ⟨k - clk, Hr[k - clk], by congr 1; simp only; omega, by simp [hlt], hb.symm⟩)
      · rw [if_neg hk'] at hb
        exact .inr (.inl ⟨by simp, hb⟩))
  refine ⟨⟨n, (d, ren3 (iota clk Hr.length) r) :: T, rowsH clk Hr ++ H, Hp, clk + Hr.length⟩, ⟨_, _, put_sat hcore.1 (v := v) (x := ren3 (iota clk Hr.length) r) ?_ (by simp [put, hd])⟩, h⟩
  refine (ren3_iff (ρ' := ρ2) (fun j hj => ?_) (by rw [iota_length]; exact hok)).2 hf.r
  rw [iota_length] at hj
  rw [iota_get _ _ _ hj]
  simp only [merge]
  rw [if_neg (by omega), Nat.add_sub_cancel_left]

end

def ACallP (P : Program) (f : FuncId) (args : List AV) (r : AV) : Prop := ACalls P f args [] fun r' _ Hr => r' = r ∧ Hr = []
def ACallPR (P : Program) (f : FuncId) (args : List AV) (R : AV → Prop) : Prop := ACalls P f args [] fun r' _ Hr => R r' ∧ Hr = []
def ACallO (P : Program) (f : FuncId) (args : List AV) (e sz : Nat) (R : List (List D) → Prop) : Prop := ACalls P f args [] fun r' _ Hr => ∃ xs, R xs ∧ r' = .own (.loc 0) ∧ Hr = [⟨e, sz, xs⟩]

section
variable {P : Program} {l rest : List Oper} {Q : Exit → St → Prop} {n d clk : Nat} {T : List (Nat × AV)} {H : List (Nat × Option Blk)} {Hp : List Blk} {x : Operand} {args : Array Operand} {tys : Array TypeId} {ty : TypeId} {pos : String} {aft : Array Edge} {g : Option (Nat × Bool)}
/-- A result that is pure needs no telling where it lies. -/
theorem AL.callPR (hw : wantedA l ⟨some d, .call ⟨.value x, args, tys⟩, ty, pos, aft, g⟩ ⟨n, T, H, Hp, clk⟩ = some true) (hd : Nat.blt d n = true) {f : FuncId} {caps as_ : List AV} (hx : ev ⟨n, T, H, Hp, clk⟩ x = some (.fn f caps))
    (ha : aevs ⟨n, T, H, Hp, clk⟩ args.toList some = some as_) (hpk : (as_ ++ caps).all (pk2 0) = true) {R : AV → Prop} (hc : ACallPR P f (as_ ++ caps) R)
    (h : ∀ r, R r → AL P l Q rest ⟨n, (d, r) :: T, H, Hp, clk⟩) :
    AL P l Q (⟨some d, .call ⟨.value x, args, tys⟩, ty, pos, aft, g⟩ :: rest) ⟨n, T, H, Hp, clk⟩ := by
  refine AL.callG rfl hw hx ha [] (HpC := []) rfl rfl List.nodup_nil (by rw [List.map_congr_left (fun x _ => rp2_nil x)]; simp) hpk hc ?_
  intro c a w ρ O r Hp' Hr v w2 ρ2 O2 hR hs hf
  obtain ⟨hR, rfl⟩ := hR
  obtain rfl := hp_nil hf (fun _ => rfl)
  have hcore := call_core (σ' := ⟨n, T, H, Hp, clk⟩) hs (fun i hi => by cases hi) hf rfl rfl rfl rfl (fun i b hb => .inr (.inl ⟨by simp, hb⟩))
  refine ⟨⟨n, (d, r) :: T, H, Hp, clk⟩, ⟨_, _, put_sat hcore.1 (v := v) (x := r) ?_ (by simp [put, hd])⟩, h r hR⟩
  refine hf.r.keep (fun i u hu => ?_) (Keeps.refl _ _)
  cases i with
  | par k => rw [hf.par] at hu; cases hu
  | loc k => rw [hf.fresh k (Nat.zero_le _)] at hu; cases hu
theorem AL.callP (hw : wantedA l ⟨some d, .call ⟨.value x, args, tys⟩, ty, pos, aft, g⟩ ⟨n, T, H, Hp, clk⟩ = some true) (hd : Nat.blt d n = true) {f : FuncId} {caps as_ : List AV} (hx : ev ⟨n, T, H, Hp, clk⟩ x = some (.fn f caps))
    (ha : aevs ⟨n, T, H, Hp, clk⟩ args.toList some = some as_) (hpk : (as_ ++ caps).all (pk2 0) = true) {r : AV} (hc : ACallP P f (as_ ++ caps) r)
    (h : AL P l Q rest ⟨n, (d, r) :: T, H, Hp, clk⟩) :
    AL P l Q (⟨some d, .call ⟨.value x, args, tys⟩, ty, pos, aft, g⟩ :: rest) ⟨n, T, H, Hp, clk⟩ :=
  AL.callPR hw hd hx ha hpk (R := (· = r)) hc (fun r' e => by subst e; exact h)
theorem AL.callO (hw : wantedA l ⟨some d, .call ⟨.value x, args, tys⟩, ty, pos, aft, g⟩ ⟨n, T, H, Hp, clk⟩ = some true) (hd : Nat.blt d n = true) {f : FuncId} {caps as_ : List AV} (hx : ev ⟨n, T, H, Hp, clk⟩ x = some (.fn f caps))
    (ha : aevs ⟨n, T, H, Hp, clk⟩ args.toList some = some as_) (hpk : (as_ ++ caps).all (pk2 0) = true) {e sz : Nat} {R : List (List D) → Prop} (hc : ACallO P f (as_ ++ caps) e sz R)
    (h : ∀ xs, R xs → AL P l Q rest ⟨n, (d, .own (.loc clk)) :: T, (clk, some (.row e sz xs)) :: H, Hp, clk + 1⟩) :
    AL P l Q (⟨some d, .call ⟨.value x, args, tys⟩, ty, pos, aft, g⟩ :: rest) ⟨n, T, H, Hp, clk⟩ :=
  AL.callR hw hd hx ha hpk hc (fun r Hr ⟨xs, h1, h2, h3⟩ => by
    subst h2; subst h3
    exact ⟨rfl, h xs h1⟩)

/-- A call that is handed blocks, and leaves them as they were. -/
theorem AL.callU (hw : wantedA l ⟨some d, .call ⟨.value x, args, tys⟩, ty, pos, aft, g⟩ ⟨n, T, H, Hp, clk⟩ = some true) (hd : Nat.blt d n = true) {f : FuncId} {caps as_ ys : List AV} (hx : ev ⟨n, T, H, Hp, clk⟩ x = some (.fn f caps))
    (ha : aevs ⟨n, T, H, Hp, clk⟩ args.toList some = some as_) (m : List Id) {HpC : List Blk} (hHp : m.map (hk ⟨n, T, H, Hp, clk⟩) = HpC.map some) (hcl : HpC.all blkC = true) (hnd : m.Nodup) (hys : ys.map (rp2 m) = as_ ++ caps) (hpk : ys.all (pk2 m.length) = true)
    {R : AV → Prop} (hc : ACalls P f ys HpC fun r Hp' Hr => R r ∧ ok3 0 r = true ∧ Hp' = HpC ∧ Hr = []) (h : ∀ r, R r → AL P l Q rest ⟨n, (d, r) :: T, H, Hp, clk⟩) :
    AL P l Q (⟨some d, .call ⟨.value x, args, tys⟩, ty, pos, aft, g⟩ :: rest) ⟨n, T, H, Hp, clk⟩ := by
  refine AL.callG rfl hw hx ha m hHp hcl hnd hys hpk hc ?_
  intro c a w ρ O r Hp' Hr v w2 ρ2 O2 hR hs hf
  obtain ⟨hR, hok, rfl, rfl⟩ := hR
  have hmb : ∀ i ∈ m, ∃ b, hk ⟨n, T, H, Hp, clk⟩ i = some b := by
    intro i hi
    have : hk ⟨n, T, H, Hp, clk⟩ i ∈ Hp'.map some := by rw [← hHp]; exact List.mem_map_of_mem hi
    obtain ⟨b, _, hb⟩ := List.mem_map.1 this
    exact ⟨b, hb.symm⟩
  have hcore := call_core (σ' := ⟨n, T, H, Hp, clk⟩) hs hmb hf hcl rfl rfl rfl (fun i b hb => by
    by_cases hi : i ∈ m
    · obtain ⟨k, hk'⟩ := List.getElem?_of_mem hi
      refine .inl ⟨k, hk', ?_⟩
      have e := congrArg (fun l => l[k]?) hHp
      simp only [List.getElem?_map, hk', Option.map_some, hb] at e
      rw [eq_comm, Option.map_eq_some_iff] at e
      obtain ⟨b', e1, e2⟩ := e
      injection e2 with e2
      rw [e1, e2]
    · exact .inr (.inl ⟨hi, hb⟩))
  refine ⟨⟨n, (d, r) :: T, H, Hp, clk⟩, ⟨_, _, put_sat hcore.1 (v := v) (x := r) ?_ (by simp [put, hd])⟩, h r hR⟩
  have := (ren3_iff (m := []) (ρ := merge clk ρ ρ2) (ρ' := ρ2) (O := O2) (w := w2) (fun j hj => by simp at hj) hok (v := v)).2 hf.r
  rw [ren3_nil hok] at this
  exact this
end

end Go.AM

/- A machine over pure data: part 12: sums within their range; an element's address; a function value that came in; what may be forgotten. -/
namespace Go.AM
open Go Go.RowKit

abbrev i64 (a : Int) : AV := .d (.one (.int .i64 a))
abbrev bo (b : Bool) : AV := .d (.one (.bool b))
abbrev st (s : ByteArray) : AV := .d (.one (.string s))

theorem wrap_i64 {x : Int} (h0 : -9223372036854775808 ≤ x) (h1 : x ≤ 9223372036854775807) : IntKind.i64.wrap x = x := by
  simp only [IntKind.wrap, IntKind.bits, IntKind.signed]
  simp only [Bool.true_and]
  split
  · rename_i h
    simp at h
    omega
  · rename_i h
    simp at h
    omega

section
variable {P : Program} {l rest : List Oper} {Q : Exit → St → Prop} {n d clk : Nat} {T : List (Nat × AV)} {H : List (Nat × Option Blk)} {Hp : List Blk} {x y : Operand} {t t2 ty : TypeId} {pos : String} {aft : Array Edge} {g : Option (Nat × Bool)}

theorem AL.v {op : Op} {v : AV} (hw : wantedA l ⟨some d, op, ty, pos, aft, g⟩ ⟨n, T, H, Hp, clk⟩ = some true) (hd : Nat.blt d n = true) (hv : VOp P ⟨n, T, H, Hp, clk⟩ ⟨some d, op, ty, pos, aft, g⟩ v)
    (h : AL P l Q rest ⟨n, (d, v) :: T, H, Hp, clk⟩) : AL P l Q (⟨some d, op, ty, pos, aft, g⟩ :: rest) ⟨n, T, H, Hp, clk⟩ :=
  AL.step hw (hv.step (by simp [put, hd])) h

theorem bin_run {o : Option Tmp} {op : BinOp} {a b : Int} {k : IntKind} {r : Int} {c : Ctx} {σ : St} {ac : Act} {w : World} {ρ : Env} {O : Nat → Prop} (hs : SatAt c σ ac w ρ O) (hx : ev σ x = some (.d (.one (.int k a)))) (hy : ev σ y = some (.d (.one (.int k b))))
    (hr : aari op (.int k a) (.int k b) = some (.int k r)) (w' : World) : (execOp ac.eval ⟨o, .binOp op t x y t2, ty, pos, aft, g⟩).run P w' = .ok (.value (.int k r)) w' := by
  have e1 := one_of (ev_sound hs hx)
  have e2 := one_of (ev_sound hs hy)
  obtain ⟨h1, _⟩ := aari_sound (P := P) (t := t) x y hr w'
  simp only [execOp, e1, e2]
  rw [Sem.run_bind, h1]
  rfl

theorem VOp.add {o : Option Tmp} {σ : St} {a b : Int} (hx : ev σ x = some (i64 a)) (hy : ev σ y = some (i64 b)) (h0 : -9223372036854775808 ≤ a + b ∧ a + b ≤ 9223372036854775807) : VOp P σ ⟨o, .binOp .add t x y t2, ty, pos, aft, g⟩ (i64 (a + b)) :=
  VOp.mk fun _ _ _ _ _ hs => ⟨_, fun w' _ => bin_run hs hx hy (by simp [aari, wrap_i64 h0.1 h0.2]) w', .d _ _ (.one _ rfl)⟩
theorem VOp.sub {o : Option Tmp} {σ : St} {a b : Int} (hx : ev σ x = some (i64 a)) (hy : ev σ y = some (i64 b)) (h0 : -9223372036854775808 ≤ a - b ∧ a - b ≤ 9223372036854775807) : VOp P σ ⟨o, .binOp .sub t x y t2, ty, pos, aft, g⟩ (i64 (a - b)) :=
  VOp.mk fun _ _ _ _ _ hs => ⟨_, fun w' _ => bin_run hs hx hy (by simp [aari, wrap_i64 h0.1 h0.2]) w', .d _ _ (.one _ rfl)⟩
theorem VOp.mul {o : Option Tmp} {σ : St} {a b : Int} (hx : ev σ x = some (i64 a)) (hy : ev σ y = some (i64 b)) (h0 : -9223372036854775808 ≤ a * b ∧ a * b ≤ 9223372036854775807) : VOp P σ ⟨o, .binOp .mul t x y t2, ty, pos, aft, g⟩ (i64 (a * b)) :=
  VOp.mk fun _ _ _ _ _ hs => ⟨_, fun w' _ => bin_run hs hx hy (by simp [aari, wrap_i64 h0.1 h0.2]) w', .d _ _ (.one _ rfl)⟩
theorem VOp.neg {o : Option Tmp} {σ : St} {a : Int} (hx : ev σ x = some (i64 a)) (h0 : -9223372036854775807 ≤ a ∧ a ≤ 9223372036854775807) : VOp P σ ⟨o, .unOp .neg t x, ty, pos, aft, g⟩ (i64 (-a)) :=
  VOp.mk fun _ _ _ _ _ hs => ⟨.int .i64 (-a), fun w' _ => by
    have e1 := one_of (ev_sound hs hx)
    have e2 : IntKind.i64.wrap (0 - a) = -a := by rw [wrap_i64 (by omega) (by omega)]; omega
    simp [execOp, e1, Op.unary, Op.intArith] at e2 ⊢
    exact e2, .d _ _ (.one _ rfl)⟩

theorem VOp.bin {o : Option Tmp} {op : BinOp} {σ : St} {k : IntKind} {a b r : Int} (hx : ev σ x = some (.d (.one (.int k a)))) (hy : ev σ y = some (.d (.one (.int k b)))) (hr : aari op (.int k a) (.int k b) = some (.int k r)) :
    VOp P σ ⟨o, .binOp op t x y t2, ty, pos, aft, g⟩ (.d (.one (.int k r))) :=
  VOp.mk fun _ _ _ _ _ hs => ⟨_, fun w' _ => bin_run hs hx hy hr w', .d _ _ (.one _ rfl)⟩
/-- A sum that may wrap. -/
theorem AL.bin {op : BinOp} (hw : wantedA l ⟨some d, .binOp op t x y t2, ty, pos, aft, g⟩ ⟨n, T, H, Hp, clk⟩ = some true) (hd : Nat.blt d n = true) {k : IntKind} {a b r : Int} (hx : ev ⟨n, T, H, Hp, clk⟩ x = some (.d (.one (.int k a)))) (hy : ev ⟨n, T, H, Hp, clk⟩ y = some (.d (.one (.int k b))))
    (hr : aari op (.int k a) (.int k b) = some (.int k r)) (h : AL P l Q rest ⟨n, (d, .d (.one (.int k r))) :: T, H, Hp, clk⟩) : AL P l Q (⟨some d, .binOp op t x y t2, ty, pos, aft, g⟩ :: rest) ⟨n, T, H, Hp, clk⟩ :=
  AL.v hw hd (.bin hx hy hr) h

theorem AL.add (hw : wantedA l ⟨some d, .binOp .add t x y t2, ty, pos, aft, g⟩ ⟨n, T, H, Hp, clk⟩ = some true) (hd : Nat.blt d n = true) {a b : Int} (hx : ev ⟨n, T, H, Hp, clk⟩ x = some (i64 a)) (hy : ev ⟨n, T, H, Hp, clk⟩ y = some (i64 b))
    (h0 : -9223372036854775808 ≤ a + b ∧ a + b ≤ 9223372036854775807) (h : AL P l Q rest ⟨n, (d, i64 (a + b)) :: T, H, Hp, clk⟩) : AL P l Q (⟨some d, .binOp .add t x y t2, ty, pos, aft, g⟩ :: rest) ⟨n, T, H, Hp, clk⟩ :=
  AL.v hw hd (.add hx hy h0) h
theorem AL.sub (hw : wantedA l ⟨some d, .binOp .sub t x y t2, ty, pos, aft, g⟩ ⟨n, T, H, Hp, clk⟩ = some true) (hd : Nat.blt d n = true) {a b : Int} (hx : ev ⟨n, T, H, Hp, clk⟩ x = some (i64 a)) (hy : ev ⟨n, T, H, Hp, clk⟩ y = some (i64 b))
    (h0 : -9223372036854775808 ≤ a - b ∧ a - b ≤ 9223372036854775807) (h : AL P l Q rest ⟨n, (d, i64 (a - b)) :: T, H, Hp, clk⟩) : AL P l Q (⟨some d, .binOp .sub t x y t2, ty, pos, aft, g⟩ :: rest) ⟨n, T, H, Hp, clk⟩ :=
  AL.v hw hd (.sub hx hy h0) h
theorem AL.mul (hw : wantedA l ⟨some d, .binOp .mul t x y t2, ty, pos, aft, g⟩ ⟨n, T, H, Hp, clk⟩ = some true) (hd : Nat.blt d n = true) {a b : Int} (hx : ev ⟨n, T, H, Hp, clk⟩ x = some (i64 a)) (hy : ev ⟨n, T, H, Hp, clk⟩ y = some (i64 b))
    (h0 : -9223372036854775808 ≤ a * b ∧ a * b ≤ 9223372036854775807) (h : AL P l Q rest ⟨n, (d, i64 (a * b)) :: T, H, Hp, clk⟩) : AL P l Q (⟨some d, .binOp .mul t x y t2, ty, pos, aft, g⟩ :: rest) ⟨n, T, H, Hp, clk⟩ :=
  AL.v hw hd (.mul hx hy h0) h
theorem AL.neg (hw : wantedA l ⟨some d, .unOp .neg t x, ty, pos, aft, g⟩ ⟨n, T, H, Hp, clk⟩ = some true) (hd : Nat.blt d n = true) {a : Int} (hx : ev ⟨n, T, H, Hp, clk⟩ x = some (i64 a))
    (h0 : -9223372036854775807 ≤ a ∧ a ≤ 9223372036854775807) (h : AL P l Q rest ⟨n, (d, i64 (-a)) :: T, H, Hp, clk⟩) : AL P l Q (⟨some d, .unOp .neg t x, ty, pos, aft, g⟩ :: rest) ⟨n, T, H, Hp, clk⟩ :=
  AL.v hw hd (.neg hx h0) h

/-! ### an element's address -/
/-- An index as it stands. -/
def idxOf : AV → Option (IntKind × Int)
  | .d (.one (.int k i)) => some (k, i)
  | _ => none

theorem VOp.idx {ts : List (Nat × TI)} (hT : TOK P ts) {o : Option Tmp} {σ : St} {xs : List (List D)} (hx : ev σ x = some (.d (.row xs)))
    {k : IntKind} {i : Int} (hy : ev σ y = some (.d (.one (.int k i)))) {e s b : Nat} {z : List AV} (ht : lk ts t = some ⟨.slice e, s, b, z⟩) {ie : TI} (he : lk ts e = some ie) {el : List D} (h0 : 0 ≤ i) (hel : xs[i.toNat]? = some el)
    (hlen : el.length = ie.size) : VOp P σ ⟨o, .indexAddr t x y, ty, pos, aft, g⟩ (.eptr el) := by
  refine VOp.mk fun c ac w ρ O hs => ?_
  have e1 := ev_sound hs hx
  have e2 := one_of (ev_sound hs hy)
  obtain ⟨du, hu1, hu2⟩ := (hT.facts ht).und
  have hsz := (hT.facts he).sizeOf (P := P)
  have hu3 : du = .slice e := by
    cases du <;> simp [tkOf] at hu2
    rw [hu2]
  subst hu3
  generalize hq : ac.eval x = q at e1
  cases e1 with
  | d _ _ hr =>
    cases hr with
    | none a c' => simp at hel
    | row _ sz c' ad u hl hc hm hO hb hcell hsub =>
      have hlt : i.toNat < xs.length := (List.getElem?_eq_some_iff.1 hel).1
      have hsz' : sz = ie.size := by rw [← hlen]; exact (hl el (List.mem_of_getElem? hel)).symm
      refine ⟨.pointer (some (ad.add (i.toNat * ie.size))), fun w' _ => ?_, ?_⟩
      · have hcond : 0 ≤ i ∧ i < (xs.length : Int) := ⟨h0, by omega⟩
        simp [execOp, hq, e2, Instr.indexAt, asIntOf, run_underlying hu1, hsz, hcond]
      · subst hsz'
        refine .eptr el _ (fun k => u i.toNat k) (by rw [block_add]; exact hO) (by rw [block_add]; exact hb) (fun k' d' hd' => ?_) (fun k' d' hd' => hsub _ _ _ d' hel hd')
        rw [add_add]
        exact hcell _ _ _ d' hel hd'
theorem AL.idx {ts : List (Nat × TI)} (hT : TOK P ts) (hw : wantedA l ⟨some d, .indexAddr t x y, ty, pos, aft, g⟩ ⟨n, T, H, Hp, clk⟩ = some true) (hd : Nat.blt d n = true) {xs : List (List D)} (hx : ev ⟨n, T, H, Hp, clk⟩ x = some (.d (.row xs)))
    {k : IntKind} {i : Int} (hy : ev ⟨n, T, H, Hp, clk⟩ y = some (.d (.one (.int k i)))) {e s b : Nat} {z : List AV} (ht : lk ts t = some ⟨.slice e, s, b, z⟩) {ie : TI} (he : lk ts e = some ie) {el : List D} (h0 : 0 ≤ i) (hel : xs[i.toNat]? = some el)
    (hlen : el.length = ie.size) (h : AL P l Q rest ⟨n, (d, .eptr el) :: T, H, Hp, clk⟩) : AL P l Q (⟨some d, .indexAddr t x y, ty, pos, aft, g⟩ :: rest) ⟨n, T, H, Hp, clk⟩ :=
  AL.v hw hd (.idx hT hx hy ht he h0 hel hlen) h

end

/-! ### a function value that came in -/
def lf1 : AV → Bool
  | .d _ => true
  | .nilrow => true
  | .eptr _ => true
  | .ptr (.par _) _ => true
  | .rptr (.par _) _ _ _ => true
  | .own (.par _) => true
  | .bsl (.par _) _ => true
  | _ => false
def lf2 : AV → Bool
  | .agg xs => xs.all lf1
  | .fn _ xs => xs.all lf1
  | x => lf1 x
theorem lf1_LF {x : AV} (h : lf1 x = true) : LF x := by
  cases x with
  | d x => exact .d x
  | nilrow => exact .nilrow
  | eptr r => exact .eptr r
  | ptr i off => cases i with
    | par k => exact .ptr k off
    | loc k => cases h
  | rptr i sz j f => cases i with
    | par k => exact .rptr k sz j f
    | loc k => cases h
  | own i => cases i with
    | par k => exact .own k
    | loc k => cases h
  | bsl i n => cases i with
    | par k => exact .bsl k n
    | loc k => cases h
  | _ => cases h
theorem lf2_LF {x : AV} (h : lf2 x = true) : LF x := by
  cases x with
  | agg xs => exact .agg xs fun y hy => lf1_LF (List.all_eq_true.1 h y hy)
  | fn f xs => exact .fn f xs fun y hy => lf1_LF (List.all_eq_true.1 h y hy)
  | d x => exact .d x
  | nilrow => exact .nilrow
  | eptr r => exact .eptr r
  | ptr i off => exact lf1_LF (x := .ptr i off) h
  | rptr i sz j f => exact lf1_LF (x := .rptr i sz j f) h
  | own i => exact lf1_LF (x := .own i) h
  | bsl i n => exact lf1_LF (x := .bsl i n) h
  | _ => cases h

section
variable {P : Program} {l rest : List Oper} {Q : Exit → St → Prop} {n d clk : Nat} {T : List (Nat × AV)} {H : List (Nat × Option Blk)} {Hp : List Blk} {x : Operand} {args : Array Operand} {tys : Array TypeId} {ty : TypeId} {pos : String} {aft : Array Edge} {g : Option (Nat × Bool)}

/-- A call that is handed all that came in, and leaves it as it was. -/
theorem AL.callPoly (hw : wantedA l ⟨some d, .call ⟨.value x, args, tys⟩, ty, pos, aft, g⟩ ⟨n, T, H, Hp, clk⟩ = some true) (hd : Nat.blt d n = true) {f : FuncId} {caps as_ : List AV} (hx : ev ⟨n, T, H, Hp, clk⟩ x = some (.fn f caps))
    (ha : aevs ⟨n, T, H, Hp, clk⟩ args.toList some = some as_) (hla : as_.all lf2 = true) (hlc : ∀ x ∈ caps, LF x) (hlb : ∀ b ∈ Hp, LFB b)
    {R : AV → Prop} (hc : ACalls P f (as_ ++ caps) Hp fun r Hp' Hr => R r ∧ ok3 0 r = true ∧ Hp' = Hp ∧ Hr = []) (h : ∀ r, R r → AL P l Q rest ⟨n, (d, r) :: T, H, Hp, clk⟩) :
    AL P l Q (⟨some d, .call ⟨.value x, args, tys⟩, ty, pos, aft, g⟩ :: rest) ⟨n, T, H, Hp, clk⟩ := by
  rintro c a w ⟨ρ, O, hs⟩
  refine wpList_step fun K hK => ?_
  rw [if_pos (wantedA_sound hw ⟨ρ, O, hs⟩)]
  have hxv := ev_sound hs hx
  generalize hq : a.eval x = q at hxv
  cases hxv with
  | fn _ _ cvs hcl' hcv =>
    obtain ⟨ha1, ha2⟩ := aevs_vals hs ha
    unfold Oper.wp
    rw [run_call rfl hq hc.1 w]
    rw [Oper.upon_enter]
    have hF := hs.F
    have hini : Ini ⟨c.ρp, O, c.W, w, fun _ => False, []⟩ (as_ ++ caps) Hp (args.map a.eval ++ cvs) := by
      refine ⟨by simp [ha1, hcl'], fun k y v hy hv => ?_, ⟨fun i b hb => ?_, fun i b g hb hg => ?_, fun i j bi bj g hbi hbj hgi hgj => ?_⟩, fun k hk' => ⟨hF.mono k (hF.wlt k hk').1, Nat.lt_of_lt_of_le (hF.wlt k hk').2 hF.size⟩, hF.olt, fun k hk' => hk', rfl⟩
      · have hLF : LF y := by
          rcases List.mem_append.1 (List.mem_of_getElem? hy) with hy | hy
          · exact lf2_LF (List.all_eq_true.1 hla y hy)
          · exact hlc y hy
        refine hLF.vr (ρ := ρ) (fun k => hs.par k) ?_
        rw [Array.getElem?_append] at hv
        simp only [Array.size_map] at hv
        rw [List.getElem?_append] at hy
        by_cases hk' : k < args.size
        · rw [if_pos hk'] at hv
          rw [if_pos (by omega)] at hy
          exact ha2 k _ v hy hv
        · rw [if_neg hk'] at hv
          rw [if_neg (by omega)] at hy
          rw [ha1] at hy
          exact hcv _ _ v hy hv
      · cases i with
        | loc k => cases hb
        | par k => exact (hlb b (List.mem_of_getElem? hb)).bok (ρ := ρ) (fun k => hs.par k) (hs.par k) (hs.H.ok (.par k) b hb)
      · cases i with
        | loc k => cases hb
        | par k => exact hs.H.own (.par k) b g hb (by rw [hs.par]; exact hg)
      · cases i with
        | loc k => cases hbi
        | par k =>
          cases j with
          | loc k' => cases hbj
          | par k' => exact hs.H.inj (.par k) (.par k') bi bj g hbi hbj (by rw [hs.par]; exact hgi) (by rw [hs.par]; exact hgj)
    refine (hc.2 _ _ hini).mono ?_
    rintro e w2 ⟨r, Hp', Hr, v, ρ2, O2, ⟨hR, hok, rfl, rfl⟩, rfl, hf⟩
    have hF2 := hf.F
    have hext : Ext ρ2 ρ := by
      intro i u hu
      cases i with
      | par k => rw [hf.par] at hu; rw [hs.par]; exact hu
      | loc k => rw [hf.fresh k (Nat.zero_le _)] at hu; cases hu
    have hWO : ∀ k, c.W k → k < c.w0.heap.size := fun k h => (hF.wlt k h).2
    have hdead : ∀ i b g, hk ⟨n, T, H, Hp', clk⟩ (.loc i) = some b → (ρ (.loc i)).bind vblk = some g → w2.heap[g]? = w.heap[g]? := by
      intro i b g hb hg
      obtain ⟨e1, e2, e3⟩ := hs.H.own _ b g hb hg
      exact hF2.same g e2 (fun h => hF.wn e3 h) (fun h => h)
    have hkeep : Keeps O w O2 w2 := ⟨hF2.size, fun k hk hO => hF2.same k hk (fun h => hO (hF.mono k (hF.wlt k h).1)) (fun h => h), fun k hk => (hF2.news k hk).imp id (fun h => h.elim id False.elim)⟩
    have hsat : SatAt c ⟨n, T, H, Hp', clk⟩ a w2 ρ O2 := by
      refine ⟨hs.defers, hs.n, hs.par, hs.fresh, fun t y ht => ?_, ⟨fun i b hb => ?_, fun i b g hb hg => ?_, hs.H.inj⟩, ?_⟩
      · obtain ⟨u, e1, e2⟩ := hs.T t y ht
        exact ⟨u, e1, e2.keep (Ext.refl ρ) hkeep⟩
      · cases i with
        | par k => exact (hf.H.ok (.par k) b hb).keep hext (Keeps.refl _ _) (fun _ _ => rfl)
        | loc k => exact (hs.H.ok (.loc k) b hb).keep (Ext.refl ρ) hkeep (fun g hg => hdead k b g hb hg)
      · obtain ⟨e1, e2, e3⟩ := hs.H.own i b g hb hg
        exact ⟨hF2.mono g e1, Nat.lt_of_lt_of_le e2 hF2.size, e3⟩
      · refine ⟨hF2.os.trans hF.os, hF2.tape.trans hF.tape, hF2.output.trans hF.output, Nat.le_trans hF.size hF2.size, fun k hk' hkW hkG => ?_, fun k hk' => hF2.mono k (hF.mono k hk'), fun k hk' => ?_, hF.wlt, hF2.olt, hF.olt0, hF.glt⟩
        · exact (hF2.same k (Nat.lt_of_lt_of_le hk' hF.size) hkW (fun h => h)).trans (hF.same k hk' hkW hkG)
        · rcases hF2.news k hk' with h | h
          · exact hF.news k h
          · exact .inr (.inl (Nat.le_trans hF.size (h.elim id False.elim)))
    exact hK _ _ (h r hR c _ w2 ⟨ρ, O2, put_sat hsat (v := v) (x := r) (hf.r.keep hext (Keeps.refl _ _)) (by simp [put, hd])⟩)
end

/-! ### what may be forgotten -/
/-- Blocks of the call's own are numbered below c. -/
def ltI (c : Nat) : Id → Bool
  | .loc k => Nat.blt k c
  | .par _ => true
/-- Pure data, or nil. -/
def lt0 : AV → Bool
  | .d _ => true
  | .nilrow => true
  | _ => false
theorem lt0_vr {ρ ρ' : Env} {O : Nat → Prop} {w : World} {x : AV} (hx : lt0 x = true) {v : Value} (h : VR ρ O w x v) : VR ρ' O w x v := by
  cases x with
  | d y => cases h with | d _ _ h => exact .d _ _ h
  | nilrow => cases h; exact .nilrow
  | _ => simp [lt0] at hx
def lt1 (c : Nat) : AV → Bool
  | .agg xs => xs.all lt0
  | .ptr i _ => ltI c i
  | .own i => ltI c i
  | .rptr i _ _ _ => ltI c i
  | .sub i _ _ _ _ => ltI c i
  | .bsl i _ => ltI c i
  | .d _ => true
  | .nilrow => true
  | .eptr _ => true
  | _ => false
def lt2 (c : Nat) : AV → Bool
  | .agg xs => xs.all (lt1 c)
  | .tup xs => xs.all (lt1 c)
  | .fn _ xs => xs.all (lt1 c)
  | x => lt1 c x
def rnI (m : Nat → Nat) : Id → Id
  | .loc k => .loc (m k)
  | i => i
def rn1 (m : Nat → Nat) : AV → AV
  | .ptr i off => .ptr (rnI m i) off
  | .own i => .own (rnI m i)
  | .rptr i sz j f => .rptr (rnI m i) sz j f
  | .sub i sz lo n full => .sub (rnI m i) sz lo n full
  | .bsl i n => .bsl (rnI m i) n
  | x => x
def rn2 (m : Nat → Nat) : AV → AV
  | .agg xs => .agg (xs.map (rn1 m))
  | .tup xs => .tup (xs.map (rn1 m))
  | .fn f xs => .fn f (xs.map (rn1 m))
  | x => rn1 m x
def rnB (m : Nat → Nat) : Blk → Blk
  | .box e cells => .box e (cells.map (rn1 m))
  | b => b
def ltB (c : Nat) : Blk → Bool
  | .box _ cells => cells.all (lt1 c)
  | _ => true

section
variable {ρ ρ' : Env} {O : Nat → Prop} {w : World} {m : Nat → Nat} {c : Nat}
theorem ltI_eq (hl : ∀ k, k < c → ρ' (.loc k) = ρ (.loc (m k))) (hp : ∀ k, ρ' (.par k) = ρ (.par k)) {i : Id} (h : ltI c i = true) : ρ' i = ρ (rnI m i) := by
  cases i with
  | loc k => exact hl k (by simpa [ltI] using h)
  | par k => exact hp k
theorem rn1_vr (hl : ∀ k, k < c → ρ' (.loc k) = ρ (.loc (m k))) (hp : ∀ k, ρ' (.par k) = ρ (.par k)) {x : AV} (hx : lt1 c x = true) {v : Value} (h : VR ρ O w (rn1 m x) v) : VR ρ' O w x v := by
  cases x with
  | ptr i off => cases h with | ptr _ _ g hg => exact .ptr _ _ g (by rw [ltI_eq hl hp hx]; exact hg)
  | own i => cases h with | own _ _ h h1 => exact .own _ _ (by rw [ltI_eq hl hp hx]; exact h) h1
  | rptr i sz j f => cases h with | rptr _ _ _ _ g hg => exact .rptr _ _ _ _ g (by rw [ltI_eq hl hp hx]; exact hg)
  | bsl i n => cases h with | bsl _ _ g hg => exact .bsl _ _ g (by rw [ltI_eq hl hp hx]; exact hg)
  | sub i sz lo n full =>
    cases h with
    | sub _ _ _ _ _ g L C c off h h1 h2 h3 h4 h5 => exact .sub _ _ _ _ _ g L C c off (by rw [ltI_eq hl hp hx]; exact h) h1 h2 h3 h4 h5
    | subN _ _ _ h => exact .subN _ _ _ (by rw [ltI_eq hl hp hx]; exact h)
  | d y => cases h with | d _ _ h => exact .d _ _ h
  | nilrow => cases h; exact .nilrow
  | eptr r => cases h with | eptr _ p u a b c d => exact .eptr _ p u a b c d
  | agg xs => cases h with | agg _ vs hl' hc => exact .agg _ vs hl' (fun k x v h1 h2 => lt0_vr (List.all_eq_true.1 hx x (List.mem_of_getElem? h1)) (hc k x v h1 h2))
  | _ => simp [lt1] at hx
theorem rn2_vr (hl : ∀ k, k < c → ρ' (.loc k) = ρ (.loc (m k))) (hp : ∀ k, ρ' (.par k) = ρ (.par k)) {x : AV} (hx : lt2 c x = true) {v : Value} (h : VR ρ O w (rn2 m x) v) : VR ρ' O w x v := by
  have lst : ∀ (xs : List AV) (vs : Array Value), xs.all (lt1 c) = true → (∀ (k : Nat) x v, (xs.map (rn1 m))[k]? = some x → vs[k]? = some v → VR ρ O w x v) → ∀ (k : Nat) x v, xs[k]? = some x → vs[k]? = some v → VR ρ' O w x v :=
    fun xs vs ha h k x v hx hv => rn1_vr hl hp (List.all_eq_true.1 ha x (List.mem_of_getElem? hx)) (h k _ v (by simp [hx]) hv)
  cases x with
  | fn f caps => cases h with | fn _ _ vs hl' hc => exact .fn _ _ vs (by simpa using hl') (lst caps vs hx hc)
  | agg xs => cases h with | agg _ vs hl' hc => exact .agg _ vs (by simpa using hl') (lst xs vs hx hc)
  | tup xs => cases h with | tup _ vs hl' hc => exact .tup _ vs (by simpa using hl') (lst xs vs hx hc)
  | d y => exact rn1_vr hl hp (x := .d y) hx h
  | nilrow => exact rn1_vr hl hp (x := .nilrow) hx h
  | ptr i off => exact rn1_vr hl hp (x := .ptr i off) hx h
  | eptr y => exact rn1_vr hl hp (x := .eptr y) hx h
  | rptr i sz j f => exact rn1_vr hl hp (x := .rptr i sz j f) hx h
  | own i => exact rn1_vr hl hp (x := .own i) hx h
  | sub i sz lo n full => exact rn1_vr hl hp (x := .sub i sz lo n full) hx h
  | bsl i n => exact rn1_vr hl hp (x := .bsl i n) hx h
  | junk => exact rn1_vr hl hp (x := .junk) hx h
theorem rnB_bok (hl : ∀ k, k < c → ρ' (.loc k) = ρ (.loc (m k))) (hp : ∀ k, ρ' (.par k) = ρ (.par k)) {b : Blk} (hb : ltB c b = true) {i i' : Id} (hi : ρ i = ρ' i') (h : BOK ρ O w i (rnB m b)) : BOK ρ' O w i' b := by
  cases b with
  | box e cells =>
    obtain ⟨g, vs, h1, h2, h3, h4⟩ := h
    refine ⟨g, vs, by rw [← hi]; exact h1, h2, by simpa using h3, fun k x v hx hv => ?_⟩
    obtain ⟨e1, e2⟩ := h4 k (rn1 m x) v (by simp [hx]) hv
    exact ⟨rn1_vr hl hp (List.all_eq_true.1 hb x (List.mem_of_getElem? hx)) e1, e2⟩
  | row e sz xs =>
    obtain ⟨v, vs, h1, h2⟩ := h
    exact ⟨v, vs, by rw [← hi]; exact h1, h2⟩
  | iter s pos =>
    obtain ⟨g, h1, h2⟩ := h
    exact ⟨g, by rw [← hi]; exact h1, h2⟩
  | mp es clock =>
    obtain ⟨g, h1, h2⟩ := h
    exact ⟨g, by rw [← hi]; exact h1, h2⟩
  | mpr g0 es clock =>
    obtain ⟨g, h1, h2⟩ := h
    exact ⟨g, by rw [← hi]; exact h1, h2⟩
  | gen p =>
    obtain ⟨v, h1, h2⟩ := h
    exact ⟨v, by rw [← hi]; exact h1, h2⟩
  | rowc t sz xs L C =>
    obtain ⟨g, cur, h1, h2⟩ := h
    exact ⟨g, cur, by rw [← hi]; exact h1, h2⟩
end

/-- Slots told by a list. -/
def subT (m : Nat → Nat) (c : Nat) (T : List (Nat × AV)) : List (Nat × AV) → Prop
  | [] => True
  | (t, x) :: r => (lk T t = some (rn2 m x) ∧ lt2 c x = true ∨ lk T t = some x ∧ LF x) ∧ subT m c T r
def subH (m : Nat → Nat) (c : Nat) (σ : St) : List (Nat × Option Blk) → Prop
  | [] => True
  | (k, b) :: r => (match b with | some b => k < c ∧ hk σ (.loc (m k)) = some (rnB m b) ∧ ltB c b = true | none => True) ∧ subH m c σ r

theorem subT_lk {m : Nat → Nat} {c : Nat} {T : List (Nat × AV)} : ∀ {T' : List (Nat × AV)}, subT m c T T' → ∀ {t : Nat} {x : AV}, lk T' t = some x → lk T t = some (rn2 m x) ∧ lt2 c x = true ∨ lk T t = some x ∧ LF x
  | [], _, t, x, h => by simp [lk] at h
  | (s, y) :: r, ⟨h1, h3⟩, t, x, h => by
    by_cases e : s = t
    · subst e
      rw [lk_cons_self] at h
      injection h with h
      subst h
      exact h1
    · rw [lk_cons_ne e] at h
      exact subT_lk h3 h
theorem subH_lk {m : Nat → Nat} {c : Nat} {σ : St} : ∀ {H' : List (Nat × Option Blk)}, subH m c σ H' → ∀ {k : Nat} {b : Blk}, lk H' k = some (some b) → k < c ∧ hk σ (.loc (m k)) = some (rnB m b) ∧ ltB c b = true
  | [], _, t, x, h => by simp [lk] at h
  | (s, y) :: r, ⟨h1, h3⟩, t, x, h => by
    by_cases e : s = t
    · subst e
      rw [lk_cons_self] at h
      injection h with h
      subst h
      exact h1
    · rw [lk_cons_ne e] at h
      exact subH_lk h3 h

/-- The environment, its own blocks renumbered. -/
def renum (ρ : Env) (m : Nat → Nat) (c : Nat) : Env
  | .par k => ρ (.par k)
  | .loc k => if k < c then ρ (.loc (m k)) else none

/-- Another state that says less; m tells how its own blocks are numbered in the first. -/
theorem Imp.weak (m : Nat → Nat) {n c clk : Nat} {T T' : List (Nat × AV)} {H H' : List (Nat × Option Blk)} {Hp : List Blk} (hm : ∀ j k, j < c → k < c → m j = m k → j = k) (hb : ∀ b ∈ Hp, LFB b) (hT : subT m c T T') (hH : subH m c ⟨n, T, H, Hp, clk⟩ H') : Imp ⟨n, T, H, Hp, clk⟩ ⟨n, T', H', Hp, c⟩ := by
  rintro cx a w ⟨ρ, O, hs⟩
  have hl : ∀ k, k < c → renum ρ m c (.loc k) = ρ (.loc (m k)) := fun k hk => by simp [renum, hk]
  have hp : ∀ k, renum ρ m c (.par k) = ρ (.par k) := fun _ => rfl
  have view : ∀ i b, hk ⟨n, T', H', Hp, c⟩ i = some b → (∃ k, i = .par k ∧ hk ⟨n, T, H, Hp, clk⟩ i = some b) ∨ ∃ k, i = .loc k ∧ k < c ∧ hk ⟨n, T, H, Hp, clk⟩ (.loc (m k)) = some (rnB m b) ∧ ltB c b = true := by
    intro i b hb
    cases i with
    | par k => exact .inl ⟨k, rfl, hb⟩
    | loc k =>
      simp only [hk] at hb
      split at hb
      · rename_i b' hb'
        cases hb
        exact .inr ⟨k, rfl, subH_lk hH hb'⟩
      · cases hb
  refine ⟨renum ρ m c, O, hs.defers, hs.n, hs.par, fun k hk' => ?_, fun t x ht => ?_, ⟨fun i b hb' => ?_, fun i b g hb' hg => ?_, fun i j bi bj g hbi hbj hgi hgj => ?_⟩, hs.F⟩
  · have : ¬ k < c := by simp only at hk'; omega
    simp [renum, this]
  · rcases subT_lk hT ht with ⟨h1, h2⟩ | ⟨h1, h2⟩
    · obtain ⟨v, e1, e2⟩ := hs.T t _ h1
      exact ⟨v, e1, rn2_vr hl hp h2 e2⟩
    · obtain ⟨v, e1, e2⟩ := hs.T t _ h1
      exact ⟨v, e1, LF.vr (ρ := ρ) (ρ' := renum ρ m c) (fun _ => rfl) h2 e2⟩
  · rcases view i b hb' with ⟨k, rfl, h1⟩ | ⟨k, rfl, h1, h2, h3⟩
    · exact LFB.bok (ρ := ρ) (ρ' := renum ρ m c) (fun _ => rfl) (i := .par k) (i' := .par k) rfl (hb b (List.mem_of_getElem? h1)) (hs.H.ok (.par k) b h1)
    · exact rnB_bok hl hp h3 (hl k h1).symm (hs.H.ok _ _ h2)
  · rcases view i b hb' with ⟨k, rfl, h1⟩ | ⟨k, rfl, h1, h2, h3⟩
    · exact hs.H.own (.par k) b g h1 hg
    · rw [hl k h1] at hg
      obtain ⟨e1, e2, e3⟩ := hs.H.own (.loc (m k)) _ g h2 hg
      exact ⟨e1, e2, e3⟩
  · rcases view i bi hbi with ⟨k, rfl, h1⟩ | ⟨k, rfl, h1, h2, h3⟩ <;> rcases view j bj hbj with ⟨k', rfl, h1'⟩ | ⟨k', rfl, h1', h2', h3'⟩
    · exact hs.H.inj (.par k) (.par k') bi bj g h1 h1' hgi hgj
    · rw [hl k' h1'] at hgj
      have := hs.H.inj (.par k) (.loc (m k')) _ _ g h1 h2' hgi hgj
      cases this
    · rw [hl k h1] at hgi
      have := hs.H.inj (.loc (m k)) (.par k') _ _ g h2 h1' hgi hgj
      cases this
    · rw [hl k h1] at hgi
      rw [hl k' h1'] at hgj
      have := hs.H.inj (.loc (m k)) (.loc (m k')) _ _ g h2 h2' hgi hgj
      injection this with this
      rw [hm k k' h1 h1' this]

end Go.AM
namespace Go.AM
open Go Go.RowKit

/-- A call that leaves what it was handed as it was, and hands back what names no block. -/
def ACallU (P : Program) (f : FuncId) (args : List AV) (Hp : List Blk) (r : AV) : Prop := ACalls P f args Hp fun r' Hp' Hr => r' = r ∧ ok3 0 r' = true ∧ Hp' = Hp ∧ Hr = []

theorem AW.bound {P : Program} {Q : Exit → St → Prop} {σ : St} {code : Code} (t : Nat) {xs : List (List D)} (hx : lk σ.T t = some (.d (.row xs))) (h : xs.length ≤ 9223372036854775807 → AW P code Q σ) : AW P code Q σ := by
  rintro c a w ⟨ρ, O, hs⟩
  obtain ⟨v, _, hv⟩ := hs.T t _ hx
  cases hv with
  | d _ _ hr =>
    obtain ⟨_, _, _, _, hm⟩ := hr.slice
    exact h hm c a w ⟨ρ, O, hs⟩

end Go.AM
