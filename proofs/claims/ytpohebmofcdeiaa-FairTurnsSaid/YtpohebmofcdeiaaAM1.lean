/- A machine over pure data, and what it says of Go's machine: part 1: data, readings, how they move. -/
import Derived.Below
import Derived.Maps.AppendAt
import Derived.Deep.LoopGhost
import Derived.Laws.Rows
import Derived.Laws.Tables
namespace Go.AM
open Go

/-- Pure data: one cell's value, or a slice's elements, each a list of cells. -/
inductive D where
  | one (v : Value)
  | row (xs : List (List D))

/-- In world w the value v reads as x; no block of O is looked into. -/
inductive Reads (O : Nat → Prop) (w : World) : D → Value → Prop
  | one (v : Value) (h : v.oneCell' = true) : Reads O w (.one v) v
  | none (a : Option Addr) (c : Nat) : Reads O w (.row []) (.slice a 0 c)
  | row (xs : List (List D)) (sz c : Nat) (ad : Addr) (u : Nat → Nat → Value)
      (hlen : ∀ x ∈ xs, x.length = sz) (hc : xs.length ≤ c) (hm : xs.length ≤ 9223372036854775807)
      (hO : ¬ O ad.block) (hb : ad.block < w.heap.size)
      (hcell : ∀ (j i : Nat) x d, xs[j]? = some x → x[i]? = some d → w.cell? (ad.add (j * sz + i)) = some (u j i))
      (hsub : ∀ (j i : Nat) x d, xs[j]? = some x → x[i]? = some d → Reads O w d (u j i)) :
      Reads O w (.row xs) (.slice (some ad) xs.length c)

theorem Reads.oneCell {O : Nat → Prop} {w : World} {x : D} {v : Value} (h : Reads O w x v) : v.oneCell' = true := by
  cases h with
  | one _ h => exact h
  | none a c => rfl
  | row => rfl

theorem Reads.slice {O : Nat → Prop} {w : World} {xs : List (List D)} {v : Value} (h : Reads O w (.row xs) v) :
    ∃ A c, v = .slice A xs.length c ∧ xs.length ≤ c ∧ xs.length ≤ 9223372036854775807 := by
  cases h with
  | none a c => exact ⟨a, c, rfl, Nat.zero_le _, by simp⟩
  | row _ sz c ad u hlen hc hm => exact ⟨_, c, rfl, hc, hm⟩

theorem block_add (a : Addr) (n : Nat) : (a.add n).block = a.block := by
  unfold Addr.add
  split <;> rfl

/-- What a step may do to the world, as far as readings are concerned. -/
structure Keeps (O : Nat → Prop) (w : World) (O' : Nat → Prop) (w' : World) : Prop where
  size : w.heap.size ≤ w'.heap.size
  same : ∀ k, k < w.heap.size → ¬ O k → w'.heap[k]? = w.heap[k]?
  news : ∀ k, O' k → O k ∨ w.heap.size ≤ k

theorem Keeps.refl (O : Nat → Prop) (w : World) : Keeps O w O w := ⟨Nat.le_refl _, fun _ _ _ => rfl, fun _ h => .inl h⟩

theorem Reads.keep {O O' : Nat → Prop} {w w' : World} (k : Keeps O w O' w') {x : D} {v : Value} (h : Reads O w x v) : Reads O' w' x v := by
  induction h with
  | one v h => exact .one v h
  | none a c => exact .none a c
  | row xs sz c ad u hlen hc hm hO hb hcell hsub ih =>
    refine .row xs sz c ad u hlen hc hm (fun h => ?_) (Nat.lt_of_lt_of_le hb k.size) (fun j i x d h1 h2 => ?_) ih
    · rcases k.news _ h with h | h
      · exact hO h
      · omega
    · rw [← hcell j i x d h1 h2]
      exact World.cell?_of_block (by rw [block_add]; exact k.same _ hb hO)

/-- A block of the call's own, or of one that it may write: a variable; a slice's row; a string's iterator. -/
inductive Id where
  | loc (k : Nat)
  | par (k : Nat)
  deriving DecidableEq

inductive AV where
  | d (x : D)
  | nilrow
  | ptr (i : Id) (off : Nat)
  | eptr (rest : List D)
  | rptr (i : Id) (sz j f : Nat)
  | own (i : Id)
  | agg (xs : List AV)
  | tup (xs : List AV)
  | fn (f : FuncId) (caps : List AV)
  | sub (i : Id) (sz lo n : Nat) (full : Bool)
  | junk

/-- The block behind a pointer to a variable, or behind a row. -/
def vblk : Value → Option Nat
  | .pointer (some ⟨g, 0, none⟩) => some g
  | .slice (some ⟨g, 0, none⟩) _ _ => some g
  | _ => none

abbrev Env := Id → Option Value

inductive VR (ρ : Env) (O : Nat → Prop) (w : World) : AV → Value → Prop
  | d (x : D) (v : Value) (h : Reads O w x v) : VR ρ O w (.d x) v
  | nilrow : VR ρ O w .nilrow (.slice none 0 0)
  | ptr (i : Id) (off g : Nat) (h : (ρ i).bind vblk = some g) : VR ρ O w (.ptr i off) (.pointer (some ⟨g, off, none⟩))
  | rptr (i : Id) (sz j f g : Nat) (h : (ρ i).bind vblk = some g) : VR ρ O w (.rptr i sz j f) (.pointer (some ⟨g, j * sz + f, none⟩))
  | eptr (rest : List D) (p : Addr) (u : Nat → Value) (hO : ¬ O p.block) (hb : p.block < w.heap.size)
      (hcell : ∀ (k : Nat) d, rest[k]? = some d → w.cell? (p.add k) = some (u k)) (hsub : ∀ (k : Nat) d, rest[k]? = some d → Reads O w d (u k)) : VR ρ O w (.eptr rest) (.pointer (some p))
  | own (i : Id) (v : Value) (h : ρ i = some v) (h1 : v.oneCell' = true) : VR ρ O w (.own i) v
  | agg (xs : List AV) (vs : Array Value) (hl : xs.length = vs.size) (h : ∀ (k : Nat) x v, xs[k]? = some x → vs[k]? = some v → VR ρ O w x v) : VR ρ O w (.agg xs) (.agg vs)
  | tup (xs : List AV) (vs : Array Value) (hl : xs.length = vs.size) (h : ∀ (k : Nat) x v, xs[k]? = some x → vs[k]? = some v → VR ρ O w x v) : VR ρ O w (.tup xs) (.tuple vs)
  | fn (f : FuncId) (caps : List AV) (vs : Array Value) (hl : caps.length = vs.size) (h : ∀ (k : Nat) x v, caps[k]? = some x → vs[k]? = some v → VR ρ O w x v) : VR ρ O w (.fn f caps) (.func (.func f) #[] vs)
  | sub (i : Id) (sz lo n : Nat) (full : Bool) (g L C c off : Nat) (h : ρ i = some (.slice (some ⟨g, 0, none⟩) L C)) (h1 : lo + n ≤ L) (h2 : n ≤ c) (h3 : lo + c ≤ C) (h4 : full = true → lo + c = C) (h5 : c ≠ 0 → off = lo * sz) :
      VR ρ O w (.sub i sz lo n full) (.slice (some ⟨g, off, none⟩) n c)
  | subN (i : Id) (sz : Nat) (full : Bool) (h : ρ i = some (.slice none 0 0)) : VR ρ O w (.sub i sz 0 0 full) (.slice none 0 0)
  | junk (v : Value) : VR ρ O w .junk v

def Ext (ρ ρ' : Env) : Prop := ∀ i v, ρ i = some v → ρ' i = some v
theorem Ext.refl (ρ : Env) : Ext ρ ρ := fun _ _ h => h
theorem Ext.bind {ρ ρ' : Env} (e : Ext ρ ρ') {i : Id} {g : Nat} (h : (ρ i).bind vblk = some g) : (ρ' i).bind vblk = some g := by
  cases hi : ρ i with
  | none => rw [hi] at h; cases h
  | some v => rw [hi] at h; rw [e i v hi]; exact h

theorem VR.keep {ρ ρ' : Env} {O O' : Nat → Prop} {w w' : World} (e : Ext ρ ρ') (k : Keeps O w O' w') {x : AV} {v : Value} (h : VR ρ O w x v) : VR ρ' O' w' x v := by
  induction h with
  | d x v h => exact .d x v (h.keep k)
  | nilrow => exact .nilrow
  | ptr i off g h => exact .ptr i off g (e.bind h)
  | rptr i sz j f g h => exact .rptr i sz j f g (e.bind h)
  | eptr rest p u hO hb hcell hsub =>
    refine .eptr rest p u (fun h => ?_) (Nat.lt_of_lt_of_le hb k.size) (fun j d h => ?_) (fun j d h => (hsub j d h).keep k)
    · rcases k.news _ h with h | h
      · exact hO h
      · omega
    · rw [← hcell j d h]
      exact World.cell?_of_block (by rw [block_add]; exact k.same _ hb hO)
  | own i v h h1 => exact .own i v (e i v h) h1
  | agg xs vs hl h ih => exact .agg xs vs hl ih
  | tup xs vs hl h ih => exact .tup xs vs hl ih
  | fn f caps vs hl h ih => exact .fn f caps vs hl ih
  | sub i sz lo n full g L C c off h h1 h2 h3 h4 h5 => exact .sub i sz lo n full g L C c off (e i _ h) h1 h2 h3 h4 h5
  | subN i sz full h => exact .subN i sz full (e i _ h)
  | junk v => exact .junk v

inductive Blk where
  | box (e : TypeId) (cells : List AV)
  | row (e : TypeId) (sz : Nat) (xs : List (List D))
  | iter (s : ByteArray) (pos : Nat)

/-- The block i is as told. -/
def BOK (ρ : Env) (O : Nat → Prop) (w : World) (i : Id) : Blk → Prop
  | .box e cells => ∃ g vs, ρ i = some (.pointer (some ⟨g, 0, none⟩)) ∧ w.heap[g]? = some (.cells vs e (0, 0)) ∧ vs.size = cells.length ∧
      ∀ (k : Nat) x v, cells[k]? = some x → vs[k]? = some v → VR ρ O w x v ∧ v.oneCell' = true
  | .row e sz xs => ∃ v vs, ρ i = some v ∧ w.ownsRow 0 e sz v xs.length vs ∧ (∀ x ∈ xs, x.length = sz) ∧
      ∀ (j k : Nat) x d, xs[j]? = some x → x[k]? = some d → ∃ u, vs[j * sz + k]? = some u ∧ Reads O w d u
  | .iter s pos => ∃ g, ρ i = some (.pointer (some ⟨g, 0, none⟩)) ∧ w.heap[g]? = some (.stringIter s pos)

/-- A block's own number lies in O; what has not been written is as it was. -/
theorem BOK.keep {ρ ρ' : Env} {O O' : Nat → Prop} {w w' : World} (e : Ext ρ ρ') (k : Keeps O w O' w') {i : Id} {b : Blk} (h : BOK ρ O w i b)
    (hs : ∀ g, (ρ i).bind vblk = some g → w'.heap[g]? = w.heap[g]?) : BOK ρ' O' w' i b := by
  cases b with
  | box t cells =>
    obtain ⟨g, vs, hi, hg, hl, hc⟩ := h
    exact ⟨g, vs, e _ _ hi, (hs g (by rw [hi]; rfl)).trans hg, hl, fun j x v h1 h2 => ⟨(hc j x v h1 h2).1.keep e k, (hc j x v h1 h2).2⟩⟩
  | row t sz xs =>
    obtain ⟨v, vs, hi, ho, hl, hc⟩ := h
    refine ⟨v, vs, e _ _ hi, ?_, hl, fun j n x d h1 h2 => ?_⟩
    · obtain ⟨h1, h2⟩ := ho
      refine ⟨h1, ?_⟩
      rcases h2 with h2 | ⟨g, cap, cur, rfl, hg, hh, r⟩
      · exact .inl h2
      · exact .inr ⟨g, cap, cur, rfl, hg, (hs g (by rw [hi]; rfl)).trans hh, r⟩
    · obtain ⟨u, h3, h4⟩ := hc j n x d h1 h2
      exact ⟨u, h3, h4.keep k⟩
  | iter s pos =>
    obtain ⟨g, hi, hg⟩ := h
    exact ⟨g, e _ _ hi, (hs g (by rw [hi]; rfl)).trans hg⟩

end Go.AM
