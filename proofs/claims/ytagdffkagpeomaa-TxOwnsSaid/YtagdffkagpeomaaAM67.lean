/- A machine over pure data: part 67: the calls of part 66. -/
import Derived.Test.YtagdffkagpeomaaAM66
set_option linter.unusedVariables false
set_option linter.unusedSimpArgs false
namespace Go.AM
open Go Go.RowKit

def ctxX (ρ : Env) (O : Nat → Prop) (w : World) (m : List Id) (is : List Nat) : Ctx :=
  ⟨fun k => (m[k]?).bind ρ, fun g => O g ∧ ¬ GGb ρ is g, fun g => ∃ i, i ∈ m ∧ (ρ i).bind vblk = some g, w, GGb ρ is, []⟩
def envX (ρ : Env) (m : List Id) (is : List Nat) : Env
  | .par k => (m[k]?).bind ρ
  | .loc k => (is[k]?).bind fun i => ρ (.loc i)
theorem envX_eq (ρ : Env) (m : List Id) (is : List Nat) : ∀ i, okI m.length is.length i = true → envX ρ m is i = ρ (mpI m is i) := by
  intro i hi
  cases i with
  | par k =>
    have hk : k < m.length := by simpa [okI] using hi
    simp [envX, mpI, hk]
  | loc k =>
    have hk : k < is.length := by simpa [okI] using hi
    simp [envX, mpI, hk]

section
variable {c : Ctx} {σ : St} {a : Act} {w : World} {ρ : Env} {O : Nat → Prop} {m : List Id} {is : List Nat}
theorem iniX_of (hs : SatAt c σ a w ρ O) {HpC : List Blk} {Hg : List Rw} (hHp : m.map (hk σ) = HpC.map fun b => some (mpB m is b)) (hi : is.map (fun i => hk σ (.loc i)) = Hg.map fun r => some r.blk) (hcl : HpC.all (okmB m.length is.length) = true)
    (hnm : m.Nodup) (hnd : is.Nodup) (hdj : ∀ i ∈ is, Id.loc i ∉ m) {ys as_ caps : List AV} (hys : ys.map (mp2 m is) = as_ ++ caps) (hpk : ys.all (okm2 m.length is.length) = true) {args : Array Value} {cvs : Array Value} (ha1 : as_.length = args.size)
    (ha2 : ∀ (k : Nat) x v, as_[k]? = some x → args[k]? = some v → VR ρ O w x v) (hcl' : caps.length = cvs.size) (hcv : ∀ (k : Nat) x v, caps[k]? = some x → cvs[k]? = some v → VR ρ O w x v) : IniX (ctxX ρ O w m is) ys HpC Hg (args ++ cvs) (envX ρ m is) := by
  have hlenI : is.length = Hg.length := by have := congrArg List.length hi; simpa using this
  have hlenM : m.length = HpC.length := by have := congrArg List.length hHp; simpa using this
  have hblkI : ∀ (k : Nat) i, is[k]? = some i → ∃ r, Hg[k]? = some r ∧ hk σ (.loc i) = some r.blk := by
    intro k i hk'
    have e := congrArg (fun l => l[k]?) hi
    simp only [List.getElem?_map, hk', Option.map_some] at e
    rw [eq_comm, Option.map_eq_some_iff] at e
    obtain ⟨r, e1, e2⟩ := e
    exact ⟨r, e1, e2.symm⟩
  have hblkM : ∀ (k : Nat) b, HpC[k]? = some b → ∃ i, m[k]? = some i ∧ hk σ i = some (mpB m is b) := by
    intro k b hb
    have e := congrArg (fun l => l[k]?) hHp
    simp only [List.getElem?_map, hb, Option.map_some] at e
    rw [Option.map_eq_some_iff] at e
    exact e
  have hex : ∀ i ∈ is, ∃ b, hk σ (.loc i) = some b := by
    intro i him
    obtain ⟨k, hk'⟩ := List.getElem?_of_mem him
    obtain ⟨r, _, hr⟩ := hblkI k i hk'
    exact ⟨_, hr⟩
  have hexM : ∀ i ∈ m, ∃ b, hk σ i = some b := by
    intro i him
    have : hk σ i ∈ HpC.map fun b => some (mpB m is b) := by rw [← hHp]; exact List.mem_map_of_mem him
    obtain ⟨b, _, hb⟩ := List.mem_map.1 this
    exact ⟨_, hb.symm⟩
  have hG : ∀ g, GGb ρ is g → O g ∧ g < w.heap.size ∧ Nw c g := fun g ⟨i, him, hg⟩ => by
    obtain ⟨b, hb⟩ := hex i him
    exact hs.H.own (.loc i) _ g hb hg
  have hO : ∀ g, ((ctxX ρ O w m is).O0 g ∨ (ctxX ρ O w m is).G g) → O g := fun g hg => hg.elim (fun h => h.1) (fun h => (hG g h).1)
  have hkp : Keeps O w (fun g => (ctxX ρ O w m is).O0 g ∨ (ctxX ρ O w m is).G g) w := ⟨Nat.le_refl _, fun _ _ _ => rfl, fun k hk => .inl (hO k hk)⟩
  have hnG : ∀ i b g, i ∈ m → hk σ i = some b → (ρ i).bind vblk = some g → ¬ GGb ρ is g := fun i b g him hb hg ⟨j, hj, hjg⟩ => by
    obtain ⟨b', hb'⟩ := hex j hj
    have := hs.H.inj i (.loc j) b b' g hb hb' hg hjg
    subst this
    exact hdj j hj him
  -- what the callee's words name
  have view : ∀ j b, hk (finS HpC Hg) j = some b → ∃ i, hk σ i = some (mpB m is b) ∧ envX ρ m is j = ρ i ∧ okmB m.length is.length b = true ∧ ((∃ k, j = .par k ∧ m[k]? = some i) ∨ ∃ k i', j = .loc k ∧ is[k]? = some i' ∧ i = .loc i') := by
    intro j b hb
    cases j with
    | par k =>
      have hb : HpC[k]? = some b := hb
      obtain ⟨i, e1, e2⟩ := hblkM k b hb
      exact ⟨i, e2, by simp [envX, e1], List.all_eq_true.1 hcl b (List.mem_of_getElem? hb), .inl ⟨k, rfl, e1⟩⟩
    | loc k =>
      have e := lk_rowsH [] Hg 0 k
      simp only [List.append_nil] at e
      simp only [finS, hk, e] at hb
      by_cases hk' : k < Hg.length
      · rw [if_pos (by omega)] at hb
        simp [hk'] at hb
        have hki : k < is.length := by omega
        obtain ⟨r, h1, h2⟩ := hblkI k is[k] (by simp [hki])
        rw [List.getElem?_eq_getElem hk'] at h1
        injection h1 with h1
        subst h1
        subst hb
        exact ⟨.loc is[k], h2, by simp [envX, hki], rfl, .inr ⟨k, is[k], rfl, by simp [hki], rfl⟩⟩
      · rw [if_neg (by omega)] at hb
        simp [lk] at hb
  refine ⟨?_, fun k => rfl, fun k hk' => ?_, fun k y v hy hv => ?_, ⟨fun j b hb => ?_, fun j b g hb hg => ?_, fun j j' bi bj g hbi hbj hgi hgj => ?_⟩, fun g hg => ?_, fun k hk => hs.F.olt k hk.1, fun k hk => ⟨fun h => h.2 hk, (hG k hk).2.1⟩, rfl⟩
  · have := congrArg List.length hys
    simp only [List.length_map, List.length_append] at this
    simp only [Array.size_append]
    omega
  · simp only [envX, List.getElem?_eq_none (show is.length ≤ k by omega), Option.bind_none]
  · refine (mp2_iff (ρ := ρ) (envX_eq ρ m is) (List.all_eq_true.1 hpk y (List.mem_of_getElem? hy))).1 ?_
    have e := congrArg (fun l => l[k]?) hys
    simp only [List.getElem?_map, hy, Option.map_some] at e
    rw [Array.getElem?_append] at hv
    rw [List.getElem?_append] at e
    refine VR.keep (Ext.refl ρ) hkp (O := O) ?_
    by_cases hk' : k < args.size
    · rw [if_pos hk'] at hv
      rw [if_pos (by omega)] at e
      exact ha2 k _ v e.symm hv
    · rw [if_neg hk'] at hv
      rw [if_neg (by omega)] at e
      rw [ha1] at e
      exact hcv _ _ v e.symm hv
  · obtain ⟨i, e1, e2, e3, _⟩ := view j b hb
    exact (mpB_iff (ρ := ρ) (envX_eq ρ m is) e3 e2.symm).1 ((hs.H.ok i _ e1).keep (Ext.refl ρ) hkp (fun _ _ => rfl))
  · obtain ⟨i, e1, e2, e3, e4⟩ := view j b hb
    rw [e2] at hg
    obtain ⟨f1, f2, _⟩ := hs.H.own i _ g e1 hg
    rcases e4 with ⟨k, rfl, e5⟩ | ⟨k, i', rfl, e5, rfl⟩
    · have him := List.mem_of_getElem? e5
      exact ⟨.inl ⟨f1, hnG i _ g him e1 hg⟩, f2, ⟨i, him, hg⟩⟩
    · have hgg : GGb ρ is g := ⟨i', List.mem_of_getElem? e5, hg⟩
      exact ⟨.inr hgg, f2, .inr hgg⟩
  · obtain ⟨i, e1, e2, e3, e4⟩ := view j bi hbi
    obtain ⟨i', e1', e2', e3', e4'⟩ := view j' bj hbj
    rw [e2] at hgi
    rw [e2'] at hgj
    have := hs.H.inj i i' _ _ g e1 e1' hgi hgj
    subst this
    rcases e4 with ⟨k, rfl, e5⟩ | ⟨k, x, rfl, e5, ex⟩ <;> rcases e4' with ⟨k', rfl, e5'⟩ | ⟨k', x', rfl, e5', ex'⟩
    · have hk1 : k < m.length := (List.getElem?_eq_some_iff.1 e5).1
      rw [(List.getElem?_inj hk1 hnm).1 (e5.trans e5'.symm)]
    · subst ex'
      exact absurd (List.mem_of_getElem? e5) (hdj x' (List.mem_of_getElem? e5'))
    · subst ex
      exact absurd (List.mem_of_getElem? e5') (hdj x (List.mem_of_getElem? e5))
    · subst ex
      injection ex' with ex'
      subst ex'
      have hk1 : k < is.length := (List.getElem?_eq_some_iff.1 e5).1
      rw [(List.getElem?_inj hk1 hnd).1 (e5.trans e5'.symm)]
  · obtain ⟨i, him, hgi⟩ := hg
    obtain ⟨b, hb⟩ := hexM i him
    obtain ⟨f1, f2, _⟩ := hs.H.own i _ g hb hgi
    exact ⟨⟨f1, hnG i b g him hb hgi⟩, f2⟩

/-- Behind such a call. -/
theorem call_coreX {σ' : St} {w2 : World} {ρ2 : Env} {O2 : Nat → Prop} (hs : SatAt c σ a w ρ O) (hmn : ∀ i ∈ m, ∃ b, hk σ i = some b) (hex : ∀ i ∈ is, ∃ b, hk σ (.loc i) = some b) (hdj : ∀ i ∈ is, Id.loc i ∉ m) (hnm : m.Nodup)
    {r : AV} {Hp' : List Blk} {Hr : List Rw} {v : Value} (hf : FinAt (ctxX ρ O w m is) r Hp' Hr v w2 ρ2 O2) (hcl : Hp'.all (okmB m.length Hr.length) = true)
    (hn : σ'.n = σ.n) (hT : σ'.T = σ.T) (hclk : σ'.clk = σ.clk + Hr.length)
    (h1 : ∀ i b, hk σ' i = some b → (∃ (k : Nat) (b0 : Blk), m[k]? = some i ∧ Hp'[k]? = some b0 ∧ b = mpB m (iota σ.clk Hr.length) b0) ∨ (i ∉ m ∧ (∀ j ∈ is, i ≠ .loc j) ∧ hk σ i = some b) ∨ ∃ (k : Nat) (rw : Rw), i = .loc (σ.clk + k) ∧ Hr[k]? = some rw ∧ b = rw.blk) :
    SatAt c σ' a w2 (merge σ.clk ρ ρ2) O2 ∧ (∀ i, okI m.length Hr.length i = true → ρ2 i = merge σ.clk ρ ρ2 (mpI m (iota σ.clk Hr.length) i)) := by
  have hF := hf.F
  have hF0 := hs.F
  have hG : ∀ g, GGb ρ is g → O g ∧ g < w.heap.size ∧ Nw c g := fun g ⟨i, him, hg⟩ => by
    obtain ⟨b, hb⟩ := hex i him
    exact hs.H.own (.loc i) _ g hb hg
  have hext : Ext ρ (merge σ.clk ρ ρ2) := by
    intro i u hu
    cases i with
    | par k => exact hu
    | loc k =>
      by_cases hk' : k < σ.clk
      · simpa [merge, hk'] using hu
      · rw [hs.fresh k (by omega)] at hu; cases hu
  have hW : ∀ g, (ctxX ρ O w m is).W g → O g ∧ g < w.heap.size ∧ (c.W g ∨ Nw c g) := by
    rintro g ⟨i, hi, hg⟩
    obtain ⟨b, hb⟩ := hmn i hi
    obtain ⟨e1, e2, e3⟩ := hs.H.own i b g hb hg
    exact ⟨e1, e2, place_or e3⟩
  have hkeep : Keeps O w O2 w2 := ⟨hF.size, fun k hk hO => hF.same k hk (fun h => hO (hW k h).1) (fun h => hO (hG k h).1), fun k hk => by
    rcases hF.news k hk with h | h | h
    · exact .inl h.1
    · exact .inr h
    · exact .inl (hG k h).1⟩
  have hloc : ∀ k b, hk σ (.loc k) = some b → k < σ.clk := by
    intro k b hb
    rcases Nat.lt_or_ge k σ.clk with h | h
    · exact h
    · have h0 := hs.fresh k h
      have hB := hs.H.ok _ _ hb
      cases b with
      | box => obtain ⟨g, vs, e, _⟩ := hB; rw [h0] at e; cases e
      | row => obtain ⟨g, vs, e, _⟩ := hB; rw [h0] at e; cases e
      | iter => obtain ⟨g, e, _⟩ := hB; rw [h0] at e; cases e
      | mp => obtain ⟨g, e, _⟩ := hB; rw [h0] at e; cases e
      | mpr => obtain ⟨g, e, _⟩ := hB; rw [h0] at e; cases e
      | gen => obtain ⟨v, e, _⟩ := hB; rw [h0] at e; cases e
      | rowc => obtain ⟨g, vs, e, _⟩ := hB; rw [h0] at e; cases e
  have hold : ∀ i b, hk σ i = some b → merge σ.clk ρ ρ2 i = ρ i := by
    intro i b hb
    cases i with
    | par k => rfl
    | loc k => simp [merge, hloc k b hb]
  have hnew : ∀ k, merge σ.clk ρ ρ2 (.loc (σ.clk + k)) = ρ2 (.loc k) := by
    intro k
    have h : ¬ σ.clk + k < σ.clk := by omega
    simp only [merge, if_neg h, Nat.add_sub_cancel_left]
  have hpar : ∀ (k : Nat) i, m[k]? = some i → ρ2 (.par k) = ρ i := by
    intro k i hki
    rw [hf.par]
    simp [ctxX, hki]
  have hfp : ∀ (k : Nat) b, Hp'[k]? = some b → hk (finS Hp' Hr) (.par k) = some b := fun k b h => h
  have hfl : ∀ (k : Nat) rw', Hr[k]? = some rw' → hk (finS Hp' Hr) (.loc k) = some rw'.blk := by
    intro k rw' hr
    have hlt : k < Hr.length := (List.getElem?_eq_some_iff.1 hr).1
    have e := lk_rowsH [] Hr 0 k
    simp only [List.append_nil] at e
    simp only [finS, hk, e]
    rw [if_pos (by omega)]
    simp [hr]
  have heq : ∀ i, okI m.length Hr.length i = true → ρ2 i = merge σ.clk ρ ρ2 (mpI m (iota σ.clk Hr.length) i) := by
    intro i hi
    cases i with
    | par k =>
      have hk : k < m.length := by simpa [okI] using hi
      obtain ⟨b, hb⟩ := hmn m[k] (List.getElem_mem hk)
      rw [hpar k m[k] (by simp [hk])]
      simp only [mpI, List.getD_eq_getElem?_getD, List.getElem?_eq_getElem hk, Option.getD_some]
      exact (hold m[k] b hb).symm
    | loc k =>
      have hk : k < Hr.length := by simpa [okI] using hi
      simp only [mpI]
      rw [iota_get _ _ _ hk, hnew]
  have hnoG : ∀ j b g, (∀ i ∈ is, j ≠ .loc i) → hk σ j = some b → (ρ j).bind vblk = some g → ¬ GGb ρ is g := fun j b g hj hb hg ⟨i, him, he⟩ => by
    obtain ⟨b', hb'⟩ := hex i him
    exact hj i him (hs.H.inj j (.loc i) b _ g hb hb' hg he)
  have hnoW : ∀ j b g, j ∉ m → hk σ j = some b → (ρ j).bind vblk = some g → ¬ (ctxX ρ O w m is).W g := fun j b g hj hb hg ⟨i, him, he⟩ => by
    obtain ⟨b', hb'⟩ := hmn i him
    have := hs.H.inj j i b b' g hb hb' hg he
    subst this
    exact hj him
  have hmI : ∀ i ∈ m, ∀ j ∈ is, i ≠ .loc j := fun i hi j hj e => hdj j hj (e ▸ hi)
  refine ⟨⟨hs.defers, hs.n.trans hn.symm, fun k => hs.par k, fun k hk' => ?_, fun t x ht => ?_, ⟨fun i b hb => ?_, fun i b g hb hg => ?_, fun i j bi bj g hbi hbj hgi hgj => ?_⟩, ?_⟩, heq⟩
  · rw [hclk] at hk'
    have : merge σ.clk ρ ρ2 (.loc k) = ρ2 (.loc (k - σ.clk)) := by simp [merge]; intro h; omega
    rw [this]
    exact hf.fresh _ (by omega)
  · rw [hT] at ht
    obtain ⟨u, e1, e2⟩ := hs.T t x ht
    exact ⟨u, e1, e2.keep hext hkeep⟩
  · rcases h1 i b hb with ⟨k, b0, e1, e2, rfl⟩ | ⟨e1, e3, e2⟩ | ⟨k, rw', rfl, e2, rfl⟩
    · obtain ⟨bb, hbb⟩ := hmn i (List.mem_of_getElem? e1)
      exact (mpB_iff (ρ' := ρ2) heq (List.all_eq_true.1 hcl b0 (List.mem_of_getElem? e2)) (by rw [hold i bb hbb, hpar k i e1])).2 (hf.H.ok _ _ (hfp k b0 e2))
    · refine (hs.H.ok i b e2).keep hext hkeep (fun g hg => ?_)
      exact hF.same g (hs.H.own i b g e2 hg).2.1 (hnoW i b g e1 e2 hg) (hnoG i b g e3 e2 hg)
    · exact blkC_bok (ρ := ρ2) (i := .loc k) (hnew k).symm rfl (hf.H.ok _ _ (hfl k rw' e2))
  · rcases h1 i b hb with ⟨k, b0, e1, e2, rfl⟩ | ⟨e1, e3, e2⟩ | ⟨k, rw', rfl, e2, rfl⟩
    · have him := List.mem_of_getElem? e1
      obtain ⟨bb, hbb⟩ := hmn i him
      rw [hold i bb hbb] at hg
      obtain ⟨f1, f2, f3⟩ := hs.H.own i bb g hbb hg
      exact ⟨hF.mono g ⟨f1, hnoG i bb g (hmI i him) hbb hg⟩, Nat.lt_of_lt_of_le f2 hF.size, f3⟩
    · rw [hold i b e2] at hg
      obtain ⟨f1, f2, f3⟩ := hs.H.own i b g e2 hg
      exact ⟨hF.mono g ⟨f1, hnoG i b g e3 e2 hg⟩, Nat.lt_of_lt_of_le f2 hF.size, f3⟩
    · rw [hnew] at hg
      obtain ⟨f1, f2, f3⟩ := hf.H.own _ _ g (hfl k rw' e2) hg
      refine ⟨f1, f2, ?_⟩
      rcases f3 with f3 | f3
      · exact .inl (Nat.le_trans hF0.size f3)
      · exact (hG g f3).2.2
  · -- what a block is, in the caller's old words or among the rows handed back
    have cls : ∀ i b g, hk σ' i = some b → (merge σ.clk ρ ρ2 i).bind vblk = some g → (∃ bb, hk σ i = some bb ∧ (ρ i).bind vblk = some g ∧ ¬ GGb ρ is g) ∨ ∃ (k : Nat) (rw : Rw), i = .loc (σ.clk + k) ∧ Hr[k]? = some rw ∧ (ρ2 (.loc k)).bind vblk = some g := by
      intro i b g hb hg
      rcases h1 i b hb with ⟨k, b0, e1, e2, rfl⟩ | ⟨e1, e3, e2⟩ | ⟨k, rw', rfl, e2, rfl⟩
      · have him := List.mem_of_getElem? e1
        obtain ⟨bb, hbb⟩ := hmn i him
        rw [hold i bb hbb] at hg
        exact .inl ⟨bb, hbb, hg, hnoG i bb g (hmI i him) hbb hg⟩
      · rw [hold i b e2] at hg
        exact .inl ⟨b, e2, hg, hnoG i b g e3 e2 hg⟩
      · rw [hnew] at hg
        exact .inr ⟨k, rw', rfl, e2, hg⟩
    have apart : ∀ i bb g (k : Nat) rw', hk σ i = some bb → (ρ i).bind vblk = some g → ¬ GGb ρ is g → Hr[k]? = some rw' → (ρ2 (.loc k)).bind vblk = some g → False := by
      intro i bb g k rw' hb hg hng hr hgk
      obtain ⟨_, _, f3⟩ := hf.H.own _ _ g (hfl k rw' hr) hgk
      rcases f3 with f3 | f3
      · have h1 := (hs.H.own i bb g hb hg).2.1
        have h2 : w.heap.size ≤ g := f3
        omega
      · exact hng f3
    rcases cls i bi g hbi hgi with ⟨b0, p1, p2, p3⟩ | ⟨k, rw1, rfl, p1, p2⟩ <;> rcases cls j bj g hbj hgj with ⟨b0', q1, q2, q3⟩ | ⟨k', rw2, rfl, q1, q2⟩
    · exact hs.H.inj i j b0 b0' g p1 q1 p2 q2
    · exact (apart i b0 g k' rw2 p1 p2 p3 q1 q2).elim
    · exact (apart j b0' g k rw1 q1 q2 q3 p1 p2).elim
    · have := hf.H.inj (.loc k) (.loc k') _ _ g (hfl k rw1 p1) (hfl k' rw2 q1) p2 q2
      injection this with this
      rw [this]
  · refine ⟨hF.os.trans hF0.os, hF.tape.trans hF0.tape, hF.output.trans hF0.output, Nat.le_trans hF0.size hF.size, fun k hk' hkW hkG => ?_, fun k hk' => hF.mono k ⟨hF0.mono k hk', fun e => hF0.nw (hG k e).2.2 hk'⟩, fun k hk' => ?_, hF0.wlt, hF.olt, hF0.olt0, hF0.glt⟩
    · refine (hF.same k (Nat.lt_of_lt_of_le hk' hF0.size) (fun h => ?_) (fun h => ?_)).trans (hF0.same k hk' hkW hkG)
      · rcases (hW k h).2.2 with h | h | h
        · exact hkW h
        · omega
        · exact hkG h
      · rcases (hG k h).2.2 with h | h
        · omega
        · exact hkG h
    · rcases hF.news k hk' with h | h | h
      · exact hF0.news k h.1
      · exact .inr (.inl (Nat.le_trans hF0.size h))
      · exact .inr (hG k h).2.2
end

def asetL : St → List (Id × Blk) → Option St
  | σ, [] => some σ
  | σ, (i, b) :: r => match aset σ i b with
    | some σ' => asetL σ' r
    | none => none
theorem asetL_hk : ∀ {l : List (Id × Blk)} {σ σ' : St}, asetL σ l = some σ' → (l.map (·.1)).Nodup → (∀ (k : Nat) i b, l[k]? = some (i, b) → hk σ' i = some b) ∧ (∀ j, j ∉ l.map (·.1) → hk σ' j = hk σ j) ∧ σ'.n = σ.n ∧ σ'.T = σ.T ∧ σ'.clk = σ.clk
  | [], σ, σ', h, _ => by
    simp only [asetL] at h
    cases h
    exact ⟨fun k i b h => by simp at h, fun j _ => rfl, rfl, rfl, rfl⟩
  | (i, b) :: r, σ, σ', h, hnd => by
    simp only [asetL] at h
    split at h
    · rename_i σ1 h1
      obtain ⟨e1, e2, e3, e4, e5⟩ := aset_hk h1
      simp only [List.map_cons, List.nodup_cons] at hnd
      obtain ⟨f1, f2, f3, f4, f5⟩ := asetL_hk h hnd.2
      refine ⟨fun k j b' hk' => ?_, fun j hj => ?_, f3.trans e3, f4.trans e4, f5.trans e5⟩
      · cases k with
        | zero =>
          simp at hk'
          obtain ⟨rfl, rfl⟩ := hk'
          rw [f2 i hnd.1]
          exact e1
        | succ k => exact f1 k j b' (by simpa using hk')
      · simp only [List.map_cons, List.mem_cons, not_or] at hj
        rw [f2 j hj.2, e2 j hj.1]
    · cases h
/-- What h1 of call_coreX asks. -/
theorem asetL_view {n : Nat} {T : List (Nat × AV)} {H : List (Nat × Option Blk)} {Hp : List Blk} {clk : Nat} {m : List Id} {is : List Nat} {Hp' : List Blk} {Hr : List Rw} {σ2 : St} (hl : Hp'.length = m.length) (hnm : m.Nodup)
    (hset : asetL ⟨n, T, rowsH clk Hr ++ dropI is H, Hp, clk + Hr.length⟩ (m.zip (Hp'.map (mpB m (iota clk Hr.length)))) = some σ2) :
    σ2.n = n ∧ σ2.T = T ∧ σ2.clk = clk + Hr.length ∧ ∀ i b, hk σ2 i = some b → (∃ (k : Nat) (b0 : Blk), m[k]? = some i ∧ Hp'[k]? = some b0 ∧ b = mpB m (iota clk Hr.length) b0) ∨ (i ∉ m ∧ (∀ j ∈ is, i ≠ .loc j) ∧ hk ⟨n, T, H, Hp, clk⟩ i = some b) ∨ ∃ (k : Nat) (rw : Rw), i = .loc (clk + k) ∧ Hr[k]? = some rw ∧ b = rw.blk := by
  have hz : (m.zip (Hp'.map (mpB m (iota clk Hr.length)))).map (·.1) = m := by
    rw [List.map_fst_zip]
    simp [hl]
  obtain ⟨e1, e2, e3, e4, e5⟩ := asetL_hk hset (by rw [hz]; exact hnm)
  refine ⟨e3, e4, e5, fun i b hb => ?_⟩
  by_cases him : i ∈ m
  · obtain ⟨k, hk'⟩ := List.getElem?_of_mem him
    have hkl : k < Hp'.length := by rw [hl]; exact (List.getElem?_eq_some_iff.1 hk').1
    have := e1 k i (mpB m (iota clk Hr.length) Hp'[k]) (by rw [List.getElem?_zip_eq_some]; exact ⟨hk', by simp [hkl]⟩)
    rw [this] at hb
    injection hb with hb
    exact .inl ⟨k, Hp'[k], hk', by simp [hkl], hb.symm⟩
  · rw [e2 i (by rw [hz]; exact him)] at hb
    cases i with
    | par k => exact .inr (.inl ⟨him, fun j _ => by simp, hb⟩)
    | loc k =>
      simp only [hk, lk_rowsH] at hb
      by_cases hk' : clk ≤ k ∧ k < clk + Hr.length
      · rw [if_pos hk'] at hb
        have hlt : k - clk < Hr.length := by omega
        simp [hlt] at hb
        exact .inr (.inr ⟨k - clk, Hr[k - clk], by congr 1; omega, by simp [hlt], hb.symm⟩)
      · rw [if_neg hk'] at hb
        rw [lk_dropI] at hb
        by_cases e : k ∈ is
        · rw [if_pos e] at hb
          cases hb
        · rw [if_neg e] at hb
          exact .inr (.inl ⟨him, fun j hj e' => by injection e' with e'; subst e'; exact e hj, hb⟩)

section
variable {P : Program} {l rest : List Oper} {Q : Exit → St → Prop} {n clk : Nat} {T : List (Nat × AV)} {H : List (Nat × Option Blk)} {Hp : List Blk} {x : Operand} {args : Array Operand} {tys : Array TypeId} {ty : TypeId} {pos : String} {aft : Array Edge} {g : Option (Nat × Bool)} {o : Option Tmp}

/-- A call that is handed the variables m, and the rows is for good. -/
theorem AL.callX (m : List Id) (is : List Nat) {HpC : List Blk} {Hg : List Rw} {f : FuncId} {caps as_ ys : List AV} {R : AV → List Blk → List Rw → Prop} (hc : ACallsX P f ys HpC Hg R) (hw : wantedA l ⟨o, .call ⟨.value x, args, tys⟩, ty, pos, aft, g⟩ ⟨n, T, H, Hp, clk⟩ = some true)
    (hx : ev ⟨n, T, H, Hp, clk⟩ x = some (.fn f caps)) (ha : aevs ⟨n, T, H, Hp, clk⟩ args.toList some = some as_) (hHp : m.map (hk ⟨n, T, H, Hp, clk⟩) = HpC.map fun b => some (mpB m is b)) (hi : is.map (fun i => hk ⟨n, T, H, Hp, clk⟩ (.loc i)) = Hg.map fun r => some r.blk)
    (hcl : HpC.all (okmB m.length is.length) = true) (hnm : m.Nodup) (hnd : is.Nodup) (hdj : ∀ i ∈ is, Id.loc i ∉ m) (hys : ys.map (mp2 m is) = as_ ++ caps) (hpk : ys.all (okm2 m.length is.length) = true)
    (h : ∀ r Hp' Hr, R r Hp' Hr → okm2 m.length Hr.length r = true ∧ Hp'.length = m.length ∧ Hp'.all (okmB m.length Hr.length) = true ∧ ∃ σ2 σ3, asetL ⟨n, T, rowsH clk Hr ++ dropI is H, Hp, clk + Hr.length⟩ (m.zip (Hp'.map (mpB m (iota clk Hr.length)))) = some σ2 ∧ put σ2 o (mp2 m (iota clk Hr.length) r) = some σ3 ∧ AL P l Q rest σ3) :
    AL P l Q (⟨o, .call ⟨.value x, args, tys⟩, ty, pos, aft, g⟩ :: rest) ⟨n, T, H, Hp, clk⟩ := by
  rintro c a w ⟨ρ, O, hs⟩
  refine wpList_step fun K hK => ?_
  rw [if_pos (wantedA_sound hw ⟨ρ, O, hs⟩)]
  have hxv := ev_sound hs hx
  generalize hq : a.eval x = q at hxv
  have hex : ∀ i ∈ is, ∃ b, hk ⟨n, T, H, Hp, clk⟩ (.loc i) = some b := by
    intro i him
    have : hk ⟨n, T, H, Hp, clk⟩ (.loc i) ∈ Hg.map fun r => some r.blk := by rw [← hi]; exact List.mem_map_of_mem (f := fun i => hk ⟨n, T, H, Hp, clk⟩ (.loc i)) him
    obtain ⟨b, _, hb⟩ := List.mem_map.1 this
    exact ⟨_, hb.symm⟩
  have hmn : ∀ i ∈ m, ∃ b, hk ⟨n, T, H, Hp, clk⟩ i = some b := by
    intro i him
    have : hk ⟨n, T, H, Hp, clk⟩ i ∈ HpC.map fun b => some (mpB m is b) := by rw [← hHp]; exact List.mem_map_of_mem him
    obtain ⟨b, _, hb⟩ := List.mem_map.1 this
    exact ⟨_, hb.symm⟩
  cases hxv with
  | fn _ _ cvs hcl' hcv =>
    obtain ⟨ha1, ha2⟩ := aevs_vals hs ha
    unfold Oper.wp
    rw [run_call rfl hq hc.1 w]
    rw [Oper.upon_enter]
    have hini := iniX_of hs hHp hi hcl hnm hnd hdj hys hpk (args := args.map a.eval) (cvs := cvs) (by simpa using ha1) (fun k x v h1 h2 => ha2 k x v h1 h2) hcl' hcv
    refine (hc.2 _ _ _ hini).mono ?_
    rintro e' w2 ⟨r, Hp', Hr, v, ρ2, O2, hR, rfl, hf⟩
    obtain ⟨hok, hlen, hcl2, σ2, σ3, hset, hput, h⟩ := h r Hp' Hr hR
    obtain ⟨f1, f2, f3, f4⟩ := asetL_view (H := H) hlen hnm hset
    have hcore := call_coreX (σ' := σ2) hs hmn hex hdj hnm hf hcl2 f1 f2 f3 f4
    exact hK _ _ (h c _ w2 ⟨_, _, put_sat hcore.1 (v := v) (x := mp2 m (iota clk Hr.length) r) ((mp2_iff hcore.2 hok).2 hf.r) hput⟩)
/-- The same; it panics. -/
theorem AL.callXP (m : List Id) (is : List Nat) {HpC : List Blk} {Hg : List Rw} {f : FuncId} {caps as_ ys : List AV} {ch : List PanicEntry} {R : List Blk → List Rw → Prop} (hc : ACallsXP P f ys HpC Hg ch R) (hw : wantedA l ⟨o, .call ⟨.value x, args, tys⟩, ty, pos, aft, g⟩ ⟨n, T, H, Hp, clk⟩ = some true)
    (hx : ev ⟨n, T, H, Hp, clk⟩ x = some (.fn f caps)) (ha : aevs ⟨n, T, H, Hp, clk⟩ args.toList some = some as_) (hHp : m.map (hk ⟨n, T, H, Hp, clk⟩) = HpC.map fun b => some (mpB m is b)) (hi : is.map (fun i => hk ⟨n, T, H, Hp, clk⟩ (.loc i)) = Hg.map fun r => some r.blk)
    (hcl : HpC.all (okmB m.length is.length) = true) (hnm : m.Nodup) (hnd : is.Nodup) (hdj : ∀ i ∈ is, Id.loc i ∉ m) (hys : ys.map (mp2 m is) = as_ ++ caps) (hpk : ys.all (okm2 m.length is.length) = true)
    (h : ∀ Hp' Hr, R Hp' Hr → Hp'.length = m.length ∧ Hp'.all (okmB m.length Hr.length) = true ∧ ∃ σ2, asetL ⟨n, T, rowsH clk Hr ++ dropI is H, Hp, clk + Hr.length⟩ (m.zip (Hp'.map (mpB m (iota clk Hr.length)))) = some σ2 ∧ Q (.panic ch) σ2) :
    AL P l Q (⟨o, .call ⟨.value x, args, tys⟩, ty, pos, aft, g⟩ :: rest) ⟨n, T, H, Hp, clk⟩ := by
  rintro c a w ⟨ρ, O, hs⟩
  refine wpList_step fun K hK => ?_
  rw [if_pos (wantedA_sound hw ⟨ρ, O, hs⟩)]
  have hxv := ev_sound hs hx
  generalize hq : a.eval x = q at hxv
  have hex : ∀ i ∈ is, ∃ b, hk ⟨n, T, H, Hp, clk⟩ (.loc i) = some b := by
    intro i him
    have : hk ⟨n, T, H, Hp, clk⟩ (.loc i) ∈ Hg.map fun r => some r.blk := by rw [← hi]; exact List.mem_map_of_mem (f := fun i => hk ⟨n, T, H, Hp, clk⟩ (.loc i)) him
    obtain ⟨b, _, hb⟩ := List.mem_map.1 this
    exact ⟨_, hb.symm⟩
  have hmn : ∀ i ∈ m, ∃ b, hk ⟨n, T, H, Hp, clk⟩ i = some b := by
    intro i him
    have : hk ⟨n, T, H, Hp, clk⟩ i ∈ HpC.map fun b => some (mpB m is b) := by rw [← hHp]; exact List.mem_map_of_mem him
    obtain ⟨b, _, hb⟩ := List.mem_map.1 this
    exact ⟨_, hb.symm⟩
  cases hxv with
  | fn _ _ cvs hcl' hcv =>
    obtain ⟨ha1, ha2⟩ := aevs_vals hs ha
    unfold Oper.wp
    rw [run_call rfl hq hc.1 w]
    rw [Oper.upon_enter]
    have hini := iniX_of hs hHp hi hcl hnm hnd hdj hys hpk (args := args.map a.eval) (cvs := cvs) (by simpa using ha1) (fun k x v h1 h2 => ha2 k x v h1 h2) hcl' hcv
    refine (hc.2 _ _ _ hini).mono ?_
    rintro e' w2 ⟨Hp', Hr, v, ρ2, O2, hR, rfl, hf⟩
    obtain ⟨hlen, hcl2, σ2, hset, h⟩ := h Hp' Hr hR
    obtain ⟨f1, f2, f3, f4⟩ := asetL_view (H := H) hlen hnm hset
    have hcore := call_coreX (σ' := σ2) hs hmn hex hdj hnm hf hcl2 f1 f2 f3 f4
    exact ⟨σ2, h, _, _, hcore.1⟩
end
end Go.AM
