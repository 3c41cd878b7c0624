/- A machine over pure data: part 10: calls. -/
import Derived.Test.YtpohebmofcdeiaaAM9
namespace Go.AM
open Go Go.RowKit

def rpI (m : List Id) : Id → Id
  | .par k => m.getD k (.par k)
  | i => i
def rp1 (m : List Id) : AV → AV
  | .ptr i off => .ptr (rpI m i) off
  | .own i => .own (rpI m i)
  | .rptr i sz j f => .rptr (rpI m i) sz j f
  | x => x
def rp2 (m : List Id) : AV → AV
  | .fn f caps => .fn f (caps.map (rp1 m))
  | .agg xs => .agg (xs.map (rp1 m))
  | x => rp1 m x
def pkI (n : Nat) : Id → Bool
  | .par k => Nat.blt k n
  | .loc _ => false
def pk1 (n : Nat) : AV → Bool
  | .ptr i _ => pkI n i
  | .own i => pkI n i
  | .rptr i _ _ _ => pkI n i
  | .d _ => true
  | .nilrow => true
  | .eptr _ => true
  | _ => false
def pk2 (n : Nat) : AV → Bool
  | .fn _ caps => caps.all (pk1 n)
  | .agg xs => xs.all (pk1 n)
  | x => pk1 n x

section
variable {ρ ρ' : Env} {O : Nat → Prop} {w : World} {m : List Id}
theorem pkI_eq (hm : ∀ k, ρ' (.par k) = (m[k]?).bind ρ) {i : Id} (h : pkI m.length i = true) : ρ' i = ρ (rpI m i) := by
  cases i with
  | loc k => simp [pkI] at h
  | par k =>
    have hk : k < m.length := by simpa [pkI] using h
    rw [hm]
    simp [rpI, hk]
theorem rp1_vr (hm : ∀ k, ρ' (.par k) = (m[k]?).bind ρ) {x : AV} (hx : pk1 m.length x = true) {v : Value} (h : VR ρ O w (rp1 m x) v) : VR ρ' O w x v := by
  cases x with
  | ptr i off => cases h with | ptr _ _ g hg => exact .ptr _ _ g (by rw [pkI_eq hm hx]; exact hg)
  | own i => cases h with | own _ _ h h1 => exact .own _ _ (by rw [pkI_eq hm hx]; exact h) h1
  | rptr i sz j f => cases h with | rptr _ _ _ _ g hg => exact .rptr _ _ _ _ g (by rw [pkI_eq hm hx]; exact hg)
  | d y => cases h with | d _ _ h => exact .d _ _ h
  | nilrow => cases h; exact .nilrow
  | eptr r => cases h with | eptr _ p u a b c d => exact .eptr _ p u a b c d
  | _ => simp [pk1] at hx
theorem rp2_vr (hm : ∀ k, ρ' (.par k) = (m[k]?).bind ρ) {x : AV} (hx : pk2 m.length x = true) {v : Value} (h : VR ρ O w (rp2 m x) v) : VR ρ' O w x v := by
  have lst : ∀ (xs : List AV) (vs : Array Value), xs.all (pk1 m.length) = true → (∀ (k : Nat) x v, (xs.map (rp1 m))[k]? = some x → vs[k]? = some v → VR ρ O w x v) → ∀ (k : Nat) x v, xs[k]? = some x → vs[k]? = some v → VR ρ' O w x v :=
    fun xs vs ha h k x v hx hv => rp1_vr hm (List.all_eq_true.1 ha x (List.mem_of_getElem? hx)) (h k _ v (by simp [hx]) hv)
  cases x with
  | fn f caps => cases h with | fn _ _ vs hl hc => exact .fn _ _ vs (by simpa using hl) (lst caps vs hx hc)
  | agg xs => cases h with | agg _ vs hl hc => exact .agg _ vs (by simpa using hl) (lst xs vs hx hc)
  | d y => exact rp1_vr hm (x := .d y) hx h
  | nilrow => exact rp1_vr hm (x := .nilrow) hx h
  | ptr i off => exact rp1_vr hm (x := .ptr i off) hx h
  | eptr y => exact rp1_vr hm (x := .eptr y) hx h
  | rptr i sz j f => exact rp1_vr hm (x := .rptr i sz j f) hx h
  | own i => exact rp1_vr hm (x := .own i) hx h
  | sub i sz lo n full => exact rp1_vr hm (x := .sub i sz lo n full) hx h
  | tup y => exact rp1_vr hm (x := .tup y) hx h
  | junk => exact rp1_vr hm (x := .junk) hx h
end

def blkC : Blk → Bool
  | .box _ cells => cells.all (ok1 0)
  | _ => true

theorem ok1_vr {ρ ρ' : Env} {O : Nat → Prop} {w : World} {x : AV} (hx : ok1 0 x = true) {v : Value} (h : VR ρ O w x v) : VR ρ' O w x v := by
  cases x with
  | d y => cases h with | d _ _ h => exact .d _ _ h
  | nilrow => cases h; exact .nilrow
  | eptr r => cases h with | eptr _ p u a b c d => exact .eptr _ p u a b c d
  | own i => cases i <;> simp [ok1] at hx
  | _ => simp [ok1] at hx
theorem blkC_bok {ρ ρ' : Env} {O : Nat → Prop} {w : World} {i i' : Id} (hi : ρ i = ρ' i') {b : Blk} (hb : blkC b = true) (h : BOK ρ O w i b) : BOK ρ' O w i' b := by
  cases b with
  | box e cells =>
    obtain ⟨g, vs, h1, h2, h3, h4⟩ := h
    exact ⟨g, vs, by rw [← hi]; exact h1, h2, h3, fun k x v hx hv => ⟨ok1_vr (List.all_eq_true.1 hb x (List.mem_of_getElem? hx)) (h4 k x v hx hv).1, (h4 k x v hx hv).2⟩⟩
  | row e sz xs =>
    obtain ⟨v, vs, h1, h2⟩ := h
    exact ⟨v, vs, by rw [← hi]; exact h1, h2⟩
  | iter s pos =>
    obtain ⟨g, h1, h2⟩ := h
    exact ⟨g, by rw [← hi]; exact h1, h2⟩

/-- What a call is handed: the world as it is; it may write the blocks m. -/
def ctxOf (ρ : Env) (O : Nat → Prop) (w : World) (m : List Id) : Ctx :=
  ⟨fun k => (m[k]?).bind ρ, O, fun g => ∃ i, i ∈ m ∧ (ρ i).bind vblk = some g, w⟩

def merge (clk : Nat) (ρ ρ2 : Env) : Env
  | .par k => ρ (.par k)
  | .loc k => if k < clk then ρ (.loc k) else ρ2 (.loc (k - clk))

/-- Behind a call. -/
theorem call_core {c : Ctx} {σ σ' : St} {a : Act} {w w2 : World} {ρ ρ2 : Env} {O O2 : Nat → Prop} (hs : SatAt c σ a w ρ O) {m : List Id} (hmn : ∀ i ∈ m, ∃ b, hk σ i = some b)
    {r : AV} {Hp' : List Blk} {Hr : List Rw} {v : Value} (hf : FinAt (ctxOf ρ O w m) r Hp' Hr v w2 ρ2 O2) (hcl : Hp'.all blkC = true)
    (hn : σ'.n = σ.n) (hT : σ'.T = σ.T) (hclk : σ'.clk = σ.clk + Hr.length)
    (h1 : ∀ i b, hk σ' i = some b → (∃ k : Nat, m[k]? = some i ∧ Hp'[k]? = some b) ∨ (i ∉ m ∧ hk σ i = some b) ∨ ∃ (k : Nat) (rw : Rw), i = .loc (σ.clk + k) ∧ Hr[k]? = some rw ∧ b = rw.blk) :
    SatAt c σ' a w2 (merge σ.clk ρ ρ2) O2 ∧ Ext ρ (merge σ.clk ρ ρ2) := by
  have hF := hf.F
  have hext : Ext ρ (merge σ.clk ρ ρ2) := by
    intro i u hu
    cases i with
    | par k => exact hu
    | loc k =>
      by_cases hk' : k < σ.clk
      · simpa [merge, hk'] using hu
      · rw [hs.fresh k (by omega)] at hu; cases hu
  have hW : ∀ g, (ctxOf ρ O w m).W g → O g ∧ g < w.heap.size ∧ (c.W g ∨ c.w0.heap.size ≤ g) := by
    rintro g ⟨i, hi, hg⟩
    obtain ⟨b, hb⟩ := hmn i hi
    obtain ⟨e1, e2, e3⟩ := hs.H.own i b g hb hg
    exact ⟨e1, e2, place_or e3⟩
  have hkeep : Keeps O w O2 w2 := ⟨hF.size, fun k hk hO => hF.same k hk (fun h => hO (hW k h).1), hF.news⟩
  have hloc : ∀ k b, hk σ (.loc k) = some b → k < σ.clk := by
    intro k b hb
    rcases Nat.lt_or_ge k σ.clk with h | h
    · exact h
    · have h0 := hs.fresh k h
      have hB := hs.H.ok _ _ hb
      cases b with
      | box => obtain ⟨g, vs, e, _⟩ := hB; rw [h0] at e; cases e
      | row => obtain ⟨g, vs, e, _⟩ := hB; rw [h0] at e; cases e
      | iter => obtain ⟨g, e, _⟩ := hB; rw [h0] at e; cases e
  have hold : ∀ i b, hk σ i = some b → merge σ.clk ρ ρ2 i = ρ i := by
    intro i b hb
    cases i with
    | par k => rfl
    | loc k => simp [merge, hloc k b hb]
  have hnew : ∀ k, merge σ.clk ρ ρ2 (.loc (σ.clk + k)) = ρ2 (.loc k) := by
    intro k
    have h : ¬ σ.clk + k < σ.clk := by omega
    simp only [merge, if_neg h, Nat.add_sub_cancel_left]
  have hpar : ∀ (k : Nat) i, m[k]? = some i → ρ2 (.par k) = ρ i := by
    intro k i hki
    rw [hf.par]
    simp [ctxOf, hki]
  have hfp : ∀ (k : Nat) i b, m[k]? = some i → Hp'[k]? = some b → hk (finS Hp' Hr) (.par k) = some b := fun k i b _ h => h
  have hfl : ∀ (k : Nat) rw', Hr[k]? = some rw' → hk (finS Hp' Hr) (.loc k) = some rw'.blk := by
    intro k rw' hr
    have hlt : k < Hr.length := (List.getElem?_eq_some_iff.1 hr).1
    have e := lk_rowsH [] Hr 0 k
    simp only [List.append_nil] at e
    simp only [finS, hk, e]
    rw [if_pos (by omega)]
    simp [hr]
  have hmem : ∀ (k : Nat) i, m[k]? = some i → i ∈ m := fun k i h => List.mem_of_getElem? h
  refine ⟨⟨hs.defers, hs.n.trans hn.symm, fun k => hs.par k, fun k hk' => ?_, fun t x ht => ?_, ⟨fun i b hb => ?_, fun i b g hb hg => ?_, fun i j bi bj g hbi hbj hgi hgj => ?_⟩, ?_⟩, hext⟩
  · rw [hclk] at hk'
    have : merge σ.clk ρ ρ2 (.loc k) = ρ2 (.loc (k - σ.clk)) := by simp [merge]; intro h; omega
    rw [this]
    exact hf.fresh _ (by omega)
  · rw [hT] at ht
    obtain ⟨u, e1, e2⟩ := hs.T t x ht
    exact ⟨u, e1, e2.keep hext hkeep⟩
  · rcases h1 i b hb with ⟨k, e1, e2⟩ | ⟨e1, e2⟩ | ⟨k, rw', rfl, e2, rfl⟩
    · obtain ⟨b0, hb0⟩ := hmn i (hmem k i e1)
      refine blkC_bok (ρ := ρ2) (i := .par k) ?_ (List.all_eq_true.1 hcl b (List.mem_of_getElem? e2)) (hf.H.ok _ _ (hfp k i b e1 e2))
      rw [hpar k i e1, hold i b0 hb0]
    · refine (hs.H.ok i b e2).keep hext hkeep (fun g hg => ?_)
      refine hF.same g (hs.H.own i b g e2 hg).2.1 ?_
      rintro ⟨j, hj, hgj⟩
      obtain ⟨b', hb'⟩ := hmn j hj
      have := hs.H.inj i j b b' g e2 hb' hg hgj
      subst this
      exact e1 hj
    · exact blkC_bok (ρ := ρ2) (i := .loc k) (hnew k).symm rfl (hf.H.ok _ _ (hfl k rw' e2))
  · rcases h1 i b hb with ⟨k, e1, e2⟩ | ⟨e1, e2⟩ | ⟨k, rw', rfl, e2, rfl⟩
    · obtain ⟨b0, hb0⟩ := hmn i (hmem k i e1)
      rw [hold i b0 hb0] at hg
      obtain ⟨f1, f2, f3⟩ := hs.H.own i b0 g hb0 hg
      exact ⟨hF.mono g f1, Nat.lt_of_lt_of_le f2 hF.size, f3⟩
    · rw [hold i b e2] at hg
      obtain ⟨f1, f2, f3⟩ := hs.H.own i b g e2 hg
      exact ⟨hF.mono g f1, Nat.lt_of_lt_of_le f2 hF.size, f3⟩
    · rw [hnew] at hg
      obtain ⟨f1, f2, f3⟩ := hf.H.own _ _ g (hfl k rw' e2) hg
      exact ⟨f1, f2, Nat.le_trans hs.F.size f3⟩
  · -- what a block is, in the callee's words or in the caller's
    have view : ∀ i b g, hk σ' i = some b → (merge σ.clk ρ ρ2 i).bind vblk = some g →
        (∃ b0, hk σ i = some b0 ∧ (ρ i).bind vblk = some g) ∨ ∃ (k : Nat) (rw' : Rw), i = .loc (σ.clk + k) ∧ Hr[k]? = some rw' ∧ (ρ2 (.loc k)).bind vblk = some g := by
      intro i b g hb hg
      rcases h1 i b hb with ⟨k, e1, e2⟩ | ⟨e1, e2⟩ | ⟨k, rw', rfl, e2, rfl⟩
      · obtain ⟨b0, hb0⟩ := hmn i (hmem k i e1)
        exact .inl ⟨b0, hb0, by rw [← hold i b0 hb0]; exact hg⟩
      · exact .inl ⟨b, e2, by rw [← hold i b e2]; exact hg⟩
      · exact .inr ⟨k, rw', rfl, e2, by rw [← hnew]; exact hg⟩
    have apart : ∀ i b g (k : Nat) rw' bi, hk σ' i = some bi → hk σ i = some b → (ρ i).bind vblk = some g → Hr[k]? = some rw' → (ρ2 (.loc k)).bind vblk = some g → False := by
      intro i b g k rw' bi hbi' hb hg hr hgk
      obtain ⟨_, _, f3⟩ := hf.H.own _ _ g (hfl k rw' hr) hgk
      have := (hs.H.own i b g hb hg).2.1
      have : w.heap.size ≤ g := f3
      omega
    rcases view i bi g hbi hgi with ⟨b0, p1, p2⟩ | ⟨k, rw1, rfl, p1, p2⟩ <;> rcases view j bj g hbj hgj with ⟨b0', q1, q2⟩ | ⟨k', rw2, rfl, q1, q2⟩
    · exact hs.H.inj i j b0 b0' g p1 q1 p2 q2
    · exact (apart i b0 g k' rw2 bi hbi p1 p2 q1 q2).elim
    · exact (apart j b0' g k rw1 bj hbj q1 q2 p1 p2).elim
    · have := hf.H.inj (.loc k) (.loc k') _ _ g (hfl k rw1 p1) (hfl k' rw2 q1) p2 q2
      injection this with this
      rw [this]
  · have hF0 := hs.F
    refine ⟨hF.os.trans hF0.os, hF.tape.trans hF0.tape, hF.output.trans hF0.output, Nat.le_trans hF0.size hF.size, fun k hk' hkW => ?_, fun k hk' => hF.mono k (hF0.mono k hk'), fun k hk' => ?_, hF0.wlt, hF.olt, hF0.olt0⟩
    · refine (hF.same k (Nat.lt_of_lt_of_le hk' hF0.size) (fun h => ?_)).trans (hF0.same k hk' hkW)
      rcases (hW k h).2.2 with h | h
      · exact hkW h
      · omega
    · rcases hF.news k hk' with h | h
      · exact hF0.news k h
      · exact .inr (Nat.le_trans hF0.size h)

end Go.AM
