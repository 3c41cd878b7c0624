/- A machine over pure data: part 63: a call that is handed blocks that mention one another; slices of function values. -/
import Derived.Test.YtagdffkagpeomaaAM62
set_option linter.unusedVariables false
set_option linter.unusedSimpArgs false
namespace Go.AM
open Go Go.RowKit

/-- A block in the caller's words. -/
def rpB (m : List Id) : Blk → Blk
  | .box e cells => .box e (cells.map (rp2 m))
  | b => b
def pkB (n : Nat) : Blk → Bool
  | .box _ cells => cells.all (pk2 n)
  | _ => true

section
variable {ρ ρ' : Env} {O : Nat → Prop} {w : World} {m : List Id}
theorem rp1_out (hm : ∀ k, ρ' (.par k) = (m[k]?).bind ρ) {x : AV} (hx : pk1 m.length x = true) {v : Value} (h : VR ρ' O w x v) : VR ρ O w (rp1 m x) v := by
  cases x with
  | ptr i off => cases h with | ptr _ _ g hg => exact .ptr _ _ g (by rw [← pkI_eq hm hx]; exact hg)
  | own i => cases h with | own _ _ h h1 => exact .own _ _ (by rw [← pkI_eq hm hx]; exact h) h1
  | rptr i sz j f => cases h with | rptr _ _ _ _ g hg => exact .rptr _ _ _ _ g (by rw [← pkI_eq hm hx]; exact hg)
  | bsl i n => cases h with | bsl _ _ g hg => exact .bsl _ _ g (by rw [← pkI_eq hm hx]; exact hg)
  | d y => cases h with | d _ _ h => exact .d _ _ h
  | nilrow => cases h; exact .nilrow
  | eptr r => cases h with | eptr _ p u a b c d => exact .eptr _ p u a b c d
  | _ => simp [pk1] at hx
theorem rp2_out (hm : ∀ k, ρ' (.par k) = (m[k]?).bind ρ) {x : AV} (hx : pk2 m.length x = true) {v : Value} (h : VR ρ' O w x v) : VR ρ O w (rp2 m x) v := by
  have lst : ∀ (xs : List AV) (vs : Array Value), xs.all (pk1 m.length) = true → (∀ (k : Nat) x v, xs[k]? = some x → vs[k]? = some v → VR ρ' O w x v) → ∀ (k : Nat) x v, (xs.map (rp1 m))[k]? = some x → vs[k]? = some v → VR ρ O w x v := by
    intro xs vs ha h k x v hx hv
    rw [List.getElem?_map, Option.map_eq_some_iff] at hx
    obtain ⟨y, hy, rfl⟩ := hx
    exact rp1_out hm (List.all_eq_true.1 ha y (List.mem_of_getElem? hy)) (h k y v hy hv)
  cases x with
  | fn f caps => cases h with | fn _ _ vs hl hc => exact .fn _ _ vs (by simpa using hl) (lst caps vs hx hc)
  | agg xs => cases h with | agg _ vs hl hc => exact .agg _ vs (by simpa using hl) (lst xs vs hx hc)
  | d y => exact rp1_out hm (x := .d y) hx h
  | nilrow => exact rp1_out hm (x := .nilrow) hx h
  | ptr i off => exact rp1_out hm (x := .ptr i off) hx h
  | eptr y => exact rp1_out hm (x := .eptr y) hx h
  | rptr i sz j f => exact rp1_out hm (x := .rptr i sz j f) hx h
  | own i => exact rp1_out hm (x := .own i) hx h
  | sub i sz lo n full => exact rp1_out hm (x := .sub i sz lo n full) hx h
  | bsl i n => exact rp1_out hm (x := .bsl i n) hx h
  | tup y => exact rp1_out hm (x := .tup y) hx h
  | junk => exact rp1_out hm (x := .junk) hx h
theorem bok_in (hm : ∀ k, ρ' (.par k) = (m[k]?).bind ρ) {i : Id} {k : Nat} (hi : ρ' (.par k) = ρ i) {b : Blk} (hb : pkB m.length b = true) (h : BOK ρ O w i (rpB m b)) : BOK ρ' O w (.par k) b := by
  cases b with
  | box e cells =>
    obtain ⟨g, vs, h1, h2, h3, h4⟩ := h
    exact ⟨g, vs, by rw [hi]; exact h1, h2, by simpa using h3, fun j x v hx hv => ⟨rp2_vr hm (List.all_eq_true.1 hb x (List.mem_of_getElem? hx)) (h4 j (rp2 m x) v (by simp [hx]) hv).1, (h4 j (rp2 m x) v (by simp [hx]) hv).2⟩⟩
  | row e sz xs => exact blkC_bok (b := .row e sz xs) hi.symm rfl h
  | iter s pos => exact blkC_bok (b := .iter s pos) hi.symm rfl h
  | mp es clock => exact blkC_bok (b := .mp es clock) hi.symm rfl h
  | mpr g0 es clock => exact blkC_bok (b := .mpr g0 es clock) hi.symm rfl h
  | gen p => exact blkC_bok (b := .gen p) hi.symm rfl h
  | rowc t sz xs L C => exact blkC_bok (b := .rowc t sz xs L C) hi.symm rfl h
theorem bok_out (hm : ∀ k, ρ' (.par k) = (m[k]?).bind ρ) {i : Id} {k : Nat} (hi : ρ' (.par k) = ρ i) {b : Blk} (hb : pkB m.length b = true) (h : BOK ρ' O w (.par k) b) : BOK ρ O w i (rpB m b) := by
  cases b with
  | box e cells =>
    obtain ⟨g, vs, h1, h2, h3, h4⟩ := h
    refine ⟨g, vs, by rw [← hi]; exact h1, h2, by simpa using h3, fun j x v hx hv => ?_⟩
    rw [List.getElem?_map, Option.map_eq_some_iff] at hx
    obtain ⟨y, hy, rfl⟩ := hx
    exact ⟨rp2_out hm (List.all_eq_true.1 hb y (List.mem_of_getElem? hy)) (h4 j y v hy hv).1, (h4 j y v hy hv).2⟩
  | row e sz xs => exact blkC_bok (b := .row e sz xs) hi rfl h
  | iter s pos => exact blkC_bok (b := .iter s pos) hi rfl h
  | mp es clock => exact blkC_bok (b := .mp es clock) hi rfl h
  | mpr g0 es clock => exact blkC_bok (b := .mpr g0 es clock) hi rfl h
  | gen p => exact blkC_bok (b := .gen p) hi rfl h
  | rowc t sz xs L C => exact blkC_bok (b := .rowc t sz xs L C) hi rfl h
end

/-- Behind a call that was handed blocks that mention one another. -/
theorem call_coreN {c : Ctx} {σ σ' : St} {a : Act} {w w2 : World} {ρ ρ2 : Env} {O O2 : Nat → Prop} (hs : SatAt c σ a w ρ O) {m : List Id} (hmn : ∀ i ∈ m, ∃ b, hk σ i = some b)
    {r : AV} {Hp' : List Blk} {Hr : List Rw} {v : Value} (hf : FinAt (ctxOf ρ O w m) r Hp' Hr v w2 ρ2 O2) (hcl : Hp'.all (pkB m.length) = true)
    (hn : σ'.n = σ.n) (hT : σ'.T = σ.T) (hclk : σ'.clk = σ.clk + Hr.length)
    (h1 : ∀ i b, hk σ' i = some b → (∃ (k : Nat) (b0 : Blk), m[k]? = some i ∧ Hp'[k]? = some b0 ∧ b = rpB m b0) ∨ (i ∉ m ∧ hk σ i = some b) ∨ ∃ (k : Nat) (rw : Rw), i = .loc (σ.clk + k) ∧ Hr[k]? = some rw ∧ b = rw.blk) :
    SatAt c σ' a w2 (merge σ.clk ρ ρ2) O2 ∧ Ext ρ (merge σ.clk ρ ρ2) := by
  have hF := hf.F
  have hext : Ext ρ (merge σ.clk ρ ρ2) := by
    intro i u hu
    cases i with
    | par k => exact hu
    | loc k =>
      by_cases hk' : k < σ.clk
      · simpa [merge, hk'] using hu
      · rw [hs.fresh k (by omega)] at hu; cases hu
  have hW : ∀ g, (ctxOf ρ O w m).W g → O g ∧ g < w.heap.size ∧ (c.W g ∨ Nw c g) := by
    rintro g ⟨i, hi, hg⟩
    obtain ⟨b, hb⟩ := hmn i hi
    obtain ⟨e1, e2, e3⟩ := hs.H.own i b g hb hg
    exact ⟨e1, e2, place_or e3⟩
  have hkeep : Keeps O w O2 w2 := ⟨hF.size, fun k hk hO => hF.same k hk (fun h => hO (hW k h).1) (fun h => h), fun k hk => (hF.news k hk).imp id (fun h => h.elim id False.elim)⟩
  have hloc : ∀ k b, hk σ (.loc k) = some b → k < σ.clk := by
    intro k b hb
    rcases Nat.lt_or_ge k σ.clk with h | h
    · exact h
    · have h0 := hs.fresh k h
      have hB := hs.H.ok _ _ hb
      cases b with
      | box => obtain ⟨g, vs, e, _⟩ := hB; rw [h0] at e; cases e
      | row => obtain ⟨g, vs, e, _⟩ := hB; rw [h0] at e; cases e
      | iter => obtain ⟨g, e, _⟩ := hB; rw [h0] at e; cases e
      | mp => obtain ⟨g, e, _⟩ := hB; rw [h0] at e; cases e
      | mpr => obtain ⟨g, e, _⟩ := hB; rw [h0] at e; cases e
      | gen => obtain ⟨v, e, _⟩ := hB; rw [h0] at e; cases e
      | rowc => obtain ⟨g, vs, e, _⟩ := hB; rw [h0] at e; cases e
  have hold : ∀ i b, hk σ i = some b → merge σ.clk ρ ρ2 i = ρ i := by
    intro i b hb
    cases i with
    | par k => rfl
    | loc k => simp [merge, hloc k b hb]
  have hnew : ∀ k, merge σ.clk ρ ρ2 (.loc (σ.clk + k)) = ρ2 (.loc k) := by
    intro k
    have h : ¬ σ.clk + k < σ.clk := by omega
    simp only [merge, if_neg h, Nat.add_sub_cancel_left]
  have hpar : ∀ (k : Nat) i, m[k]? = some i → ρ2 (.par k) = ρ i := by
    intro k i hki
    rw [hf.par]
    simp [ctxOf, hki]
  have hfp : ∀ (k : Nat) i b, m[k]? = some i → Hp'[k]? = some b → hk (finS Hp' Hr) (.par k) = some b := fun k i b _ h => h
  have hfl : ∀ (k : Nat) rw', Hr[k]? = some rw' → hk (finS Hp' Hr) (.loc k) = some rw'.blk := by
    intro k rw' hr
    have hlt : k < Hr.length := (List.getElem?_eq_some_iff.1 hr).1
    have e := lk_rowsH [] Hr 0 k
    simp only [List.append_nil] at e
    simp only [finS, hk, e]
    rw [if_pos (by omega)]
    simp [hr]
  have hmm : ∀ k, ρ2 (.par k) = (m[k]?).bind (merge σ.clk ρ ρ2) := by
    intro k
    rw [hf.par]
    simp only [ctxOf]
    cases hmk : m[k]? with
    | none => rfl
    | some i =>
      obtain ⟨b0, hb0⟩ := hmn i (List.mem_of_getElem? hmk)
      simp only [Option.bind_some]
      exact (hold i b0 hb0).symm
  have hmem : ∀ (k : Nat) i, m[k]? = some i → i ∈ m := fun k i h => List.mem_of_getElem? h
  refine ⟨⟨hs.defers, hs.n.trans hn.symm, fun k => hs.par k, fun k hk' => ?_, fun t x ht => ?_, ⟨fun i b hb => ?_, fun i b g hb hg => ?_, fun i j bi bj g hbi hbj hgi hgj => ?_⟩, ?_⟩, hext⟩
  · rw [hclk] at hk'
    have : merge σ.clk ρ ρ2 (.loc k) = ρ2 (.loc (k - σ.clk)) := by simp [merge]; intro h; omega
    rw [this]
    exact hf.fresh _ (by omega)
  · rw [hT] at ht
    obtain ⟨u, e1, e2⟩ := hs.T t x ht
    exact ⟨u, e1, e2.keep hext hkeep⟩
  · rcases h1 i b hb with ⟨k, bb, e1, e2, rfl⟩ | ⟨e1, e2⟩ | ⟨k, rw', rfl, e2, rfl⟩
    · obtain ⟨b0, hb0⟩ := hmn i (hmem k i e1)
      refine bok_out (ρ' := ρ2) (k := k) hmm (by rw [hpar k i e1, hold i b0 hb0]) (List.all_eq_true.1 hcl bb (List.mem_of_getElem? e2)) (hf.H.ok _ _ (hfp k i bb e1 e2))
    · refine (hs.H.ok i b e2).keep hext hkeep (fun g hg => ?_)
      refine hF.same g (hs.H.own i b g e2 hg).2.1 ?_ (fun h => h)
      rintro ⟨j, hj, hgj⟩
      obtain ⟨b', hb'⟩ := hmn j hj
      have := hs.H.inj i j b b' g e2 hb' hg hgj
      subst this
      exact e1 hj
    · exact blkC_bok (ρ := ρ2) (i := .loc k) (hnew k).symm rfl (hf.H.ok _ _ (hfl k rw' e2))
  · rcases h1 i b hb with ⟨k, bb, e1, e2, rfl⟩ | ⟨e1, e2⟩ | ⟨k, rw', rfl, e2, rfl⟩
    · obtain ⟨b0, hb0⟩ := hmn i (hmem k i e1)
      rw [hold i b0 hb0] at hg
      obtain ⟨f1, f2, f3⟩ := hs.H.own i b0 g hb0 hg
      exact ⟨hF.mono g f1, Nat.lt_of_lt_of_le f2 hF.size, f3⟩
    · rw [hold i b e2] at hg
      obtain ⟨f1, f2, f3⟩ := hs.H.own i b g e2 hg
      exact ⟨hF.mono g f1, Nat.lt_of_lt_of_le f2 hF.size, f3⟩
    · rw [hnew] at hg
      obtain ⟨f1, f2, f3⟩ := hf.H.own _ _ g (hfl k rw' e2) hg
      exact ⟨f1, f2, .inl (Nat.le_trans hs.F.size (f3.elim id False.elim))⟩
  · -- what a block is, in the callee's words or in the caller's
    have view : ∀ i b g, hk σ' i = some b → (merge σ.clk ρ ρ2 i).bind vblk = some g →
        (∃ b0, hk σ i = some b0 ∧ (ρ i).bind vblk = some g) ∨ ∃ (k : Nat) (rw' : Rw), i = .loc (σ.clk + k) ∧ Hr[k]? = some rw' ∧ (ρ2 (.loc k)).bind vblk = some g := by
      intro i b g hb hg
      rcases h1 i b hb with ⟨k, bb, e1, e2, rfl⟩ | ⟨e1, e2⟩ | ⟨k, rw', rfl, e2, rfl⟩
      · obtain ⟨b0, hb0⟩ := hmn i (hmem k i e1)
        exact .inl ⟨b0, hb0, by rw [← hold i b0 hb0]; exact hg⟩
      · exact .inl ⟨b, e2, by rw [← hold i b e2]; exact hg⟩
      · exact .inr ⟨k, rw', rfl, e2, by rw [← hnew]; exact hg⟩
    have apart : ∀ i b g (k : Nat) rw' bi, hk σ' i = some bi → hk σ i = some b → (ρ i).bind vblk = some g → Hr[k]? = some rw' → (ρ2 (.loc k)).bind vblk = some g → False := by
      intro i b g k rw' bi hbi' hb hg hr hgk
      obtain ⟨_, _, f3⟩ := hf.H.own _ _ g (hfl k rw' hr) hgk
      have := (hs.H.own i b g hb hg).2.1
      have : w.heap.size ≤ g := f3.elim id False.elim
      omega
    rcases view i bi g hbi hgi with ⟨b0, p1, p2⟩ | ⟨k, rw1, rfl, p1, p2⟩ <;> rcases view j bj g hbj hgj with ⟨b0', q1, q2⟩ | ⟨k', rw2, rfl, q1, q2⟩
    · exact hs.H.inj i j b0 b0' g p1 q1 p2 q2
    · exact (apart i b0 g k' rw2 bi hbi p1 p2 q1 q2).elim
    · exact (apart j b0' g k rw1 bj hbj q1 q2 p1 p2).elim
    · have := hf.H.inj (.loc k) (.loc k') _ _ g (hfl k rw1 p1) (hfl k' rw2 q1) p2 q2
      injection this with this
      rw [this]
  · have hF0 := hs.F
    refine ⟨hF.os.trans hF0.os, hF.tape.trans hF0.tape, hF.output.trans hF0.output, Nat.le_trans hF0.size hF.size, fun k hk' hkW hkG => ?_, fun k hk' => hF.mono k (hF0.mono k hk'), fun k hk' => ?_, hF0.wlt, hF.olt, hF0.olt0, hF0.glt⟩
    · refine (hF.same k (Nat.lt_of_lt_of_le hk' hF0.size) (fun h => ?_) (fun h => h)).trans (hF0.same k hk' hkW hkG)
      rcases (hW k h).2.2 with h | h | h
      · exact hkW h
      · omega
      · exact hkG h
    · rcases hF.news k hk' with h | h
      · exact hF0.news k h
      · exact .inr (.inl (Nat.le_trans hF0.size (h.elim id False.elim)))

section
variable {P : Program} {l rest : List Oper} {Q : Exit → St → Prop} {σ : St} {o : Oper}

/-- A call that is handed the caller's blocks m, which may mention one another. -/
theorem AL.callGN {x : Operand} {args : Array Operand} {tys : Array TypeId} (hop : o.op = .call ⟨.value x, args, tys⟩) (hw : wantedA l o σ = some true) {f : FuncId} {caps as_ ys : List AV} (hx : ev σ x = some (.fn f caps))
    (ha : aevs σ args.toList some = some as_) (m : List Id) {HpC : List Blk} (hHp : m.map (hk σ) = HpC.map fun b => some (rpB m b)) (hcl : HpC.all (pkB m.length) = true) (hnd : m.Nodup) (hys : ys.map (rp2 m) = as_ ++ caps) (hpk : ys.all (pk2 m.length) = true)
    {R : AV → List Blk → List Rw → Prop} (hc : ACalls P f ys HpC R)
    (h : ∀ c a w ρ O r Hp' Hr v w2 ρ2 O2, R r Hp' Hr → SatAt c σ a w ρ O → FinAt (ctxOf ρ O w m) r Hp' Hr v w2 ρ2 O2 → ∃ σ', Sat c σ' (a.put o.dst v) w2 ∧ AL P l Q rest σ') : AL P l Q (o :: rest) σ := by
  rintro c a w ⟨ρ, O, hs⟩
  refine wpList_step fun K hK => ?_
  rw [if_pos (wantedA_sound hw ⟨ρ, O, hs⟩)]
  have hxv := ev_sound hs hx
  generalize hq : a.eval x = q at hxv
  cases hxv with
  | fn _ _ cvs hcl' hcv =>
    obtain ⟨ha1, ha2⟩ := aevs_vals hs ha
    unfold Oper.wp
    rw [run_call hop hq hc.1 w]
    rw [Oper.upon_enter]
    have hm : ∀ k, ρ0 (ctxOf ρ O w m) (.par k) = (m[k]?).bind ρ := fun _ => rfl
    have hblk : ∀ (k : Nat) b, HpC[k]? = some b → ∃ i, m[k]? = some i ∧ hk σ i = some (rpB m b) := by
      intro k b hb
      have e := congrArg (fun l => l[k]?) hHp
      simp only [List.getElem?_map, hb, Option.map_some] at e
      rw [Option.map_eq_some_iff] at e
      exact e
    have hini : Ini (ctxOf ρ O w m) ys HpC (args.map a.eval ++ cvs) := by
      have hlen : ys.length = as_.length + caps.length := by
        have := congrArg List.length hys
        simpa using this
      refine ⟨by simp [hlen, ha1, hcl'], fun k y v hy hv => ?_, ⟨fun i b hb => ?_, fun i b g hb hg => ?_, fun i j bi bj g hbi hbj hgi hgj => ?_⟩, ?_, ?_, fun k hk => hk, rfl⟩
      · refine rp2_vr (ρ := ρ) hm (List.all_eq_true.1 hpk y (List.mem_of_getElem? hy)) ?_
        have e := congrArg (fun l => l[k]?) hys
        simp only [List.getElem?_map, hy, Option.map_some] at e
        rw [Array.getElem?_append] at hv
        simp only [Array.size_map] at hv
        rw [List.getElem?_append] at e
        by_cases hk' : k < args.size
        · rw [if_pos hk'] at hv
          rw [if_pos (by omega)] at e
          exact ha2 k _ v e.symm hv
        · rw [if_neg hk'] at hv
          rw [if_neg (by omega)] at e
          rw [ha1] at e
          exact hcv _ _ v e.symm hv
      · cases i with
        | loc k => cases hb
        | par k =>
          obtain ⟨i, e1, e2⟩ := hblk k b hb
          exact bok_in (ρ := ρ) (i := i) (k := k) hm (by rw [hm, e1]; rfl) (List.all_eq_true.1 hcl b (List.mem_of_getElem? hb)) (hs.H.ok i _ e2)
      · cases i with
        | loc k => cases hb
        | par k =>
          obtain ⟨i, e1, e2⟩ := hblk k b hb
          rw [hm, e1] at hg
          obtain ⟨f1, f2, _⟩ := hs.H.own i _ g e2 hg
          exact ⟨f1, f2, ⟨i, List.mem_of_getElem? e1, hg⟩⟩
      · cases i with
        | loc k => cases hbi
        | par k =>
          cases j with
          | loc k' => cases hbj
          | par k' =>
            obtain ⟨i, e1, e2⟩ := hblk k bi hbi
            obtain ⟨j, e3, e4⟩ := hblk k' bj hbj
            rw [hm, e1] at hgi
            rw [hm, e3] at hgj
            have := hs.H.inj i j _ _ g e2 e4 hgi hgj
            subst this
            have hk1 : k < m.length := (List.getElem?_eq_some_iff.1 e1).1
            rw [(List.getElem?_inj hk1 hnd).1 (e1.trans e3.symm)]
      · rintro g ⟨i, hi, hg⟩
        have : hk σ i ∈ HpC.map fun b => some (rpB m b) := by rw [← hHp]; exact List.mem_map_of_mem hi
        obtain ⟨b, _, hb⟩ := List.mem_map.1 this
        have e := hs.H.own i _ g hb.symm hg
        exact ⟨e.1, e.2.1⟩
      · exact hs.F.olt
    refine (hc.2 (ctxOf ρ O w m) _ hini).mono ?_
    rintro e w2 ⟨r, Hp', Hr, v, ρ2, O2, hR, rfl, hf⟩
    obtain ⟨σ', h1, h2⟩ := h c a w ρ O r Hp' Hr v w2 ρ2 O2 hR hs hf
    exact hK _ _ (h2 c _ _ h1)

end

section
variable {P : Program} {l rest : List Oper} {Q : Exit → St → Prop} {n d clk : Nat} {T : List (Nat × AV)} {H : List (Nat × Option Blk)} {Hp : List Blk} {x : Operand} {args : Array Operand} {tys : Array TypeId} {t ty : TypeId} {pos : String} {aft : Array Edge} {g : Option (Nat × Bool)} {ts : List (Nat × TI)}

/-- A call that is handed blocks that mention one another, leaves them as they were and may hand back fresh rows. -/
theorem AL.callN (m : List Id) {HpC : List Blk} {f : FuncId} {caps as_ ys : List AV} {R : AV → List Rw → Prop} (hc : ACalls P f ys HpC fun r Hp' Hr => R r Hr ∧ Hp' = HpC) (hw : wantedA l ⟨some d, .call ⟨.value x, args, tys⟩, ty, pos, aft, g⟩ ⟨n, T, H, Hp, clk⟩ = some true) (hd : Nat.blt d n = true) (hx : ev ⟨n, T, H, Hp, clk⟩ x = some (.fn f caps))
    (ha : aevs ⟨n, T, H, Hp, clk⟩ args.toList some = some as_) (hHp : m.map (hk ⟨n, T, H, Hp, clk⟩) = HpC.map fun b => some (rpB m b)) (hcl : HpC.all (pkB m.length) = true) (hnd : m.Nodup) (hys : ys.map (rp2 m) = as_ ++ caps) (hpk : ys.all (pk2 m.length) = true)
    (h : ∀ r Hr, R r Hr → ok3 Hr.length r = true ∧ AL P l Q rest ⟨n, (d, ren3 (iota clk Hr.length) r) :: T, rowsH clk Hr ++ H, Hp, clk + Hr.length⟩) :
    AL P l Q (⟨some d, .call ⟨.value x, args, tys⟩, ty, pos, aft, g⟩ :: rest) ⟨n, T, H, Hp, clk⟩ := by
  refine AL.callGN rfl hw hx ha m hHp hcl hnd hys hpk hc ?_
  rintro c a w ρ O r Hp' Hr v w2 ρ2 O2 ⟨hR, rfl⟩ hs hf
  obtain ⟨hok, h⟩ := h r Hr hR
  have hmk : ∀ i ∈ m, ∃ (k : Nat) (b0 : Blk), m[k]? = some i ∧ Hp'[k]? = some b0 ∧ hk ⟨n, T, H, Hp, clk⟩ i = some (rpB m b0) := by
    intro i hi
    obtain ⟨k, hk'⟩ := List.getElem?_of_mem hi
    have e := congrArg (fun l => l[k]?) hHp
    simp only [List.getElem?_map, hk', Option.map_some] at e
    obtain ⟨b0, h1, h2⟩ := Option.map_eq_some_iff.1 e.symm
    exact ⟨k, b0, hk', h1, h2.symm⟩
  have hcore := call_coreN (σ' := ⟨n, T, rowsH clk Hr ++ H, Hp, clk + Hr.length⟩) hs (fun i hi => by obtain ⟨_, b0, _, _, h⟩ := hmk i hi; exact ⟨_, h⟩) hf hcl rfl rfl rfl (fun i b hb => by
    have old : hk ⟨n, T, H, Hp, clk⟩ i = some b → (∃ (k : Nat) (b0 : Blk), m[k]? = some i ∧ Hp'[k]? = some b0 ∧ b = rpB m b0) ∨ (i ∉ m ∧ hk ⟨n, T, H, Hp, clk⟩ i = some b) ∨ ∃ (k : Nat) (rw : Rw), i = .loc (clk + k) ∧ Hr[k]? = some rw ∧ b = rw.blk := fun hb => by
      by_cases hi : i ∈ m
      · obtain ⟨k, b0, h1, h2, h3⟩ := hmk i hi
        rw [h3] at hb
        exact .inl ⟨k, b0, h1, h2, (Option.some.inj hb).symm⟩
      · exact .inr (.inl ⟨hi, hb⟩)
    cases i with
    | par k => exact old hb
    | loc k =>
      have hb' := hb
      simp only [hk, lk_rowsH] at hb
      by_cases hk' : clk ≤ k ∧ k < clk + Hr.length
      · rw [if_pos hk'] at hb
        have hlt : k - clk < Hr.length := by omega
        simp [hlt] at hb
        exact .inr (.inr ⟨k - clk, Hr[k - clk], by congr 1; simp only; omega, by simp [hlt], hb.symm⟩)
      · rw [if_neg hk'] at hb
        exact old hb)
  refine ⟨⟨n, (d, ren3 (iota clk Hr.length) r) :: T, rowsH clk Hr ++ H, Hp, clk + Hr.length⟩, ⟨_, _, put_sat hcore.1 (v := v) (x := ren3 (iota clk Hr.length) r) ?_ (by simp [put, hd])⟩, h⟩
  refine (ren3_iff (ρ' := ρ2) (fun j hj => ?_) (by rw [iota_length]; exact hok)).2 hf.r
  rw [iota_length] at hj
  rw [iota_get _ _ _ hj]
  simp only [merge]
  rw [if_neg (by omega), Nat.add_sub_cancel_left]

def isFn : AV → Bool
  | .fn _ _ => true
  | .ptr _ _ => true
  | _ => false

/-- []F{f, g}, f and g function values. -/
theorem AL.buildF (hT : TOK P ts) {len : Nat} {parts : Array (Nat × Operand)} {fs : List AV} {e s b : Nat} {z : List AV} {ie : TI} (hw : wantedA l ⟨some d, .buildSlice t len parts, ty, pos, aft, g⟩ ⟨n, T, H, Hp, clk⟩ = some true) (hd : Nat.blt d n = true)
    (ht : lk ts t = some ⟨.slice e, s, b, z⟩) (he : lk ts e = some ie) (hsz1 : Nat.beq ie.size 1 = true) (hix : parts.toList.map (·.1) = List.range len) (hfs : aevs ⟨n, T, H, Hp, clk⟩ (parts.toList.map (·.2)) some = some fs) (hfn : fs.all isFn = true) (hl0 : Nat.blt 0 len = true) (hsl : Nat.ble len 16777216 = true)
    (h : AL P l Q rest ⟨n, (d, .bsl (.loc clk) len) :: T, (clk, some (.box e fs)) :: H, Hp, clk + 1⟩) : AL P l Q (⟨some d, .buildSlice t len parts, ty, pos, aft, g⟩ :: rest) ⟨n, T, H, Hp, clk⟩ := by
  refine AL.step (σ' := ⟨n, (d, .bsl (.loc clk) len) :: T, (clk, some (.box e fs)) :: H, Hp, clk + 1⟩) hw ?_ h
  rintro c a w ⟨ρ, O, hs⟩ K Q hK
  have hsz1 := Nat.eq_of_beq_eq_true hsz1
  have hsl := Nat.le_of_ble_eq_true hsl
  have hl0 : 0 < len := by simpa using hl0
  obtain ⟨fs', hx1, hx2, hx3⟩ := aevs_spec hfs
  cases hx1
  have hpl : parts.toList.length = len := by have := congrArg List.length hix; simpa using this
  have hfl : fs.length = len := by rw [hx2, List.length_map, hpl]
  obtain ⟨zv, hz1, _⟩ := (hT.facts he).zero w
  have hsz := (hT.facts he).sizeOf w
  have hval : ∀ (k : Nat) f o', fs[k]? = some f → (parts.toList.map (·.2))[k]? = some o' → VR ρ O w f (a.eval o') ∧ (a.eval o').cells = #[a.eval o'] ∧ (a.eval o').oneCell' = true := by
    intro k f o' hf ho
    have e1 := ev_sound hs (hx3 k f o' hf ho)
    have hff := List.all_eq_true.1 hfn f (List.mem_of_getElem? hf)
    cases f with
    | fn ff caps =>
      generalize hq : a.eval o' = q at e1
      cases e1 with
      | fn _ _ vs h1 h2 => exact ⟨.fn _ _ vs h1 h2, rfl, rfl⟩
    | ptr i off =>
      generalize hq : a.eval o' = q at e1
      cases e1 with
      | ptr _ _ g h1 => exact ⟨.ptr _ _ g h1, rfl, rfl⟩
    | _ => simp [isFn] at hff
  have hrun : ∃ us, Instr.fill (fun i => some (i * ie.size, ie.size)) ((Array.range (len * ie.size)).map (zv.cells[· % zv.cells.size]!)) (parts.map fun (i, x) => (i, a.eval x)).toList = some us ∧ us.size = len ∧
      ∀ (k : Nat) o', (parts.toList.map (·.2))[k]? = some o' → us[k]? = some (a.eval o') := by
    obtain ⟨us, g1, g2, _, g4⟩ := fillS (O := O) (w := w) (sz := ie.size) (parts.map fun (i, x) => (i, a.eval x)).toList (parts.toList.map fun p => [D.one (a.eval p.2)]) 0 ((Array.range (len * ie.size)).map (zv.cells[· % zv.cells.size]!)) (by simp) (fun k p x hp hx => by
      rw [Array.toList_map, List.getElem?_map, Option.map_eq_some_iff] at hp
      obtain ⟨q, hq, rfl⟩ := hp
      rw [List.getElem?_map, hq] at hx
      cases hx
      have hkl : k < fs.length := by rw [hfl, ← hpl]; exact (List.getElem?_eq_some_iff.1 hq).1
      obtain ⟨_, h2, h3⟩ := hval k fs[k] q.2 (List.getElem?_eq_getElem hkl) (by simp [hq])
      have h4 : q.1 = k := by
        have e := congrArg (fun l => l[k]?) hix
        simp only [List.getElem?_map, hq, Option.map_some] at e
        rw [List.getElem?_range (by omega)] at e
        exact Option.some.inj e
      refine ⟨by simp [h4], by simp [hsz1], by rw [h2, hsz1]; rfl, fun i d u hd hu => ?_⟩
      cases i with
      | succ i => simp at hd
      | zero =>
        simp at hd
        subst hd
        rw [h2] at hu
        simp at hu
        subst hu
        exact ⟨.one _ h3, h3⟩) (by simp [hsz1, hpl])
    refine ⟨us, g1, by rw [g2]; simp [hsz1], fun k o' ho => ?_⟩
    rw [List.getElem?_map, Option.map_eq_some_iff] at ho
    obtain ⟨p, hp, rfl⟩ := ho
    obtain ⟨u, u1, u2, _⟩ := g4 k 0 [D.one (a.eval p.2)] (D.one (a.eval p.2)) (by simp [hp]) rfl
    cases u2
    simpa [hsz1] using u1
  obtain ⟨us, hr, hus, hcl⟩ := hrun
  have hrb : (Instr.buildSlice t len (parts.map fun (i, x) => (i, a.eval x))).run P w = .ok (.slice (some ⟨w.heap.size, 0, none⟩) len len) (w.alloc (.cells us e)) := by
    have hns : ¬ len * ie.size > 2 ^ 24 := by rw [hsz1]; omega
    have h0 : ¬ len * ie.size = 0 := by rw [hsz1]; omega
    simp only [Instr.buildSlice, Sem.run_bind, run_underlying (und_slice hT ht), Result.andThen_ok, hsz, Sem.run_ite, hns, if_false, Sem.run_pure, h0, hz1, hr, newRow, run_newObj, World.alloc_eq]
  have hk0 : Keeps O w (fun k => O k ∨ k = w.heap.size) (w.alloc (.cells us e)) := ⟨by simp, fun k hk _ => Below.heap_alloc w _ k hk, fun k hk => by
    rcases hk with hk | hk
    · exact .inl hk
    · exact .inr (by omega)⟩
  have hm := mk_sat hs (.box e fs) (.pointer (some ⟨w.heap.size, 0, none⟩)) (.inl rfl) hk0 (by simp) (fun k hk => Below.heap_alloc w _ k hk) rfl rfl rfl
    ⟨w.heap.size, us, upd_self _ _ _, heap_alloc_new w _, by rw [hus, hfl], fun k x v hx hv => by
      have hkl : k < (parts.toList.map (·.2)).length := by rw [List.length_map, hpl, ← hfl]; exact (List.getElem?_eq_some_iff.1 hx).1
      have ho := List.getElem?_eq_getElem hkl
      rw [hcl k _ ho] at hv
      cases hv
      obtain ⟨e1, _, e3⟩ := hval k x _ hx ho
      exact ⟨e1.keep (upd_ext (hs.fresh clk (Nat.le_refl _))) hk0, e3⟩⟩
  unfold Oper.wp
  simp only [execOp, Sem.run_bind, hrb, Result.andThen_ok, Sem.run_pure]
  refine hK _ _ ⟨_, _, put_sat hm (x := .bsl (.loc clk) len) (.bsl _ _ w.heap.size (by rw [show (upd ρ clk (Value.pointer (some ⟨w.heap.size, 0, none⟩))) (.loc clk) = some (Value.pointer (some ⟨w.heap.size, 0, none⟩)) from upd_self _ _ _]; rfl)) ?_⟩
  simp [mk, put, hd]

theorem VOp.lenB (hT : TOK P ts) {o : Option Tmp} {σ : St} {i : Id} {m e s b : Nat} {z : List AV} (hx : ev σ x = some (.bsl i m)) (ht : lk ts t = some ⟨.slice e, s, b, z⟩) : VOp P σ ⟨o, .call ⟨.builtin .len, #[x], #[t]⟩, ty, pos, aft, g⟩ (i64 m) := by
  refine VOp.mk fun c ac w ρ O hs => ?_
  have e1 := ev_sound hs hx
  generalize hq : ac.eval x = q at e1
  cases e1 with
  | bsl _ _ gb h1 =>
    refine ⟨.int .i64 m, fun w' _ => ?_, .d _ _ (.one _ rfl)⟩
    simp [execOp, resolve, invoke, builtin, hq, Builtin.len_, run_underlying (und_slice hT ht), goInt]
theorem VOp.idxF (hT : TOK P ts) {y : Operand} {o : Option Tmp} {σ : St} {i : Id} {m e s b : Nat} {z : List AV} {ie : TI} {k : IntKind} {j : Nat} (hx : ev σ x = some (.bsl i m)) (hy : ev σ y = some (.d (.one (.int k (j : Int))))) (ht : lk ts t = some ⟨.slice e, s, b, z⟩) (he : lk ts e = some ie) (hsz : Nat.beq ie.size 1 = true) (hj : j < m) :
    VOp P σ ⟨o, .indexAddr t x y, ty, pos, aft, g⟩ (.ptr i j) := by
  refine VOp.mk fun c ac w ρ O hs => ?_
  have e1 := ev_sound hs hx
  have e2 := one_of (ev_sound hs hy)
  have hsize := (hT.facts he).sizeOf (P := P)
  have hsz := Nat.eq_of_beq_eq_true hsz
  generalize hq : ac.eval x = q at e1
  cases e1 with
  | bsl _ _ gb h1 =>
    refine ⟨.pointer (some ⟨gb, j, none⟩), fun w' _ => ?_, .ptr _ _ gb h1⟩
    simp [execOp, hq, e2, Instr.indexAt, asIntOf, run_underlying (und_slice hT ht), hsize, hj, hsz, add_ptr]
end

/-- Two rows of the call's own. -/
theorem Out.row2 {Hp : List Blk} {σ : St} {j k e sz e2 sz2 : Nat} {xs ys : List (List D)} {R : AV → List Blk → List Rw → Prop} (hj : hk σ (.loc j) = some (.row e sz xs)) (hk' : hk σ (.loc k) = some (.row e2 sz2 ys)) (hne : j ≠ k) (h : R (.tup [.own (.loc 0), .own (.loc 1)]) σ.Hp [⟨e, sz, xs⟩, ⟨e2, sz2, ys⟩]) (hp : σ.Hp = Hp) :
    Out Hp σ (.tup [.own (.loc j), .own (.loc k)]) R (.tup [.own (.loc 0), .own (.loc 1)]) [⟨e, sz, xs⟩, ⟨e2, sz2, ys⟩] [j, k] := by
  refine ⟨h, rfl, rfl, rfl, by simpa using hne, fun a b rw h1 h2 => ?_, .inl hp⟩
  match a with
  | 0 =>
    simp at h1 h2
    subst h1; subst h2
    exact hj
  | 1 =>
    simp at h1 h2
    subst h1; subst h2
    exact hk'
  | a + 2 => simp at h1
/-- Handed the blocks Hp, which it leaves as they were, the call answers two fresh rows. -/
def ACallW (P : Program) (f : FuncId) (args : List AV) (Hp : List Blk) (e sz : Nat) (xs ys : List (List D)) : Prop := ACalls P f args Hp fun r Hp' Hr => (r = .tup [.own (.loc 0), .own (.loc 1)] ∧ Hr = [⟨e, sz, xs⟩, ⟨e, sz, ys⟩]) ∧ Hp' = Hp
end Go.AM
