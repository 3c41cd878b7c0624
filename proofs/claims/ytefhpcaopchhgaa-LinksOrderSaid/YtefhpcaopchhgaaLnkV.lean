/- links: the net and the reference's state. -/
import Derived.Test.YtefhpcaopchhgaaLnkU
import Derived.Test.YtefhpcaopchhgaaWk
set_option linter.unusedSimpArgs false
set_option linter.unusedVariables false
namespace Go.Proofs.Try
open Go Go.AM

def shift (k : Int) (l : List It) : List It := l.map fun x => ⟨x.wait + k, x.d⟩
structure Rel (i : Nat) (n : Nt) (s : Rs) : Prop where
  ok : OkN n
  nodes : s.nodes = n.nodes
  now : 0 ≤ s.now ∧ s.now ≤ i
  way : s.way = shift s.now n.way
  cuts : ∀ a b, pairS n a b = true → ((lo a b, hi a b) ∈ s.cuts ↔ n.cut.getD (ixS a b) false = true)
  clen : s.cuts.length ≤ i
  mw : ∀ x ∈ n.way, 1 ≤ x.wait ∧ x.wait ≤ 3000000000000
theorem Rel.up {i : Nat} {n : Nt} {s : Rs} (h : Rel i n s) (a b : Int) : upR s a b = upS n a b := by
  unfold upR upS
  rw [h.nodes, linkB_pair]
  cases hp : pairS n a b with
  | false => rfl
  | true =>
    have := h.cuts a b hp
    by_cases hm : (lo a b, hi a b) ∈ s.cuts
    · rw [decide_eq_true hm, this.1 hm]
    · rw [decide_eq_false hm]
      cases hg : n.cut.getD (ixS a b) false with
      | false => rfl
      | true => exact absurd (this.2 hg) hm
theorem Rel.len {i : Nat} {n : Nt} {s : Rs} (h : Rel i n s) : s.way.length = n.way.length := by
  rw [h.way, shift, List.length_map]
theorem Rel.okWay {i : Nat} {n : Nt} {s : Rs} (h : Rel i n s) : OkWay n.way := ⟨by have := h.ok.len; omega, fun x hx => by have := h.mw x hx; omega⟩
theorem Rel.mono {i j : Nat} {n : Nt} {s : Rs} (h : Rel i n s) (hj : i ≤ j) : Rel j n s := ⟨h.ok, h.nodes, ⟨h.now.1, by have := h.now.2; omega⟩, h.way, h.cuts, by have := h.clen; omega, h.mw⟩
theorem Rel.sendE {i : Nat} {n : Nt} {s : Rs} (h : Rel i n s) (d : Dg) (f : Fa) : sendER s d f = sendE n d f := by
  unfold sendER Try.sendE
  rw [h.nodes, linkB_pair, h.up, h.len]
theorem putM_shift (l : List It) (d : Dg) (f : Fa) (now : Int) : ∀ k, putM (shift now l) d f now k = shift now (putI l d f k)
  | 0 => rfl
  | k + 1 => by
    rw [putM, putM_shift l d f now k, putI, shift, shift, List.map_append]
    congr 2
    show (⟨now + 1 + f.delay + k, d⟩ : It) = ⟨1 + f.delay + k + now, d⟩
    congr 1
    omega
theorem putI_mw {l : List It} {d : Dg} {f : Fa} (h : ∀ x ∈ l, 1 ≤ x.wait ∧ x.wait ≤ 3000000000000) (h0 : 0 ≤ f.delay) (h1 : f.delay ≤ 1099511627776) : ∀ {m : Nat}, m ≤ 33 → ∀ x ∈ putI l d f m, 1 ≤ x.wait ∧ x.wait ≤ 3000000000000
  | 0, _ => h
  | m + 1, hm => by
    intro x hx
    rw [putI] at hx
    rcases List.mem_append.1 hx with hx | hx
    · exact putI_mw h h0 h1 (by omega) x hx
    · rw [List.mem_singleton.1 hx]
      show 1 ≤ 1 + f.delay + m ∧ 1 + f.delay + m ≤ 3000000000000
      omega
theorem Rel.send {i : Nat} {n : Nt} {s : Rs} (h : Rel i n s) (d : Dg) (f : Fa) : Rel (i + 1) (sendS n d f) (sendSR s d f) := by
  have hE := h.sendE d f
  have hU := h.up d.src d.dst
  unfold sendSR
  rw [hE, hU]
  by_cases hc : Try.sendE n d f = 0 ∧ f.drop = false ∧ upS n d.src d.dst = true
  · rw [if_pos hc]
    have hok := h.ok.send d f
    have hdel : f.delay ≤ 1099511627776 ∧ 0 ≤ f.delay ∧ f.copies.toNat + 1 ≤ 33 := by
      have h1 := hc.1
      unfold Try.sendE at h1
      split at h1
      · cases h1
      split at h1
      · cases h1
      split at h1
      · cases h1
      rename_i hokf
      rw [Classical.not_not] at hokf
      obtain ⟨f1, f2, f3, f4⟩ := hokf
      omega
    have e : sendS n d f = setW n (putI n.way d f (f.copies.toNat + 1)) := by unfold sendS; rw [if_pos hc]
    rw [e] at hok ⊢
    exact ⟨hok, h.nodes, ⟨h.now.1, by have := h.now.2; show s.now ≤ ((i + 1 : Nat) : Int); omega⟩, by show putM s.way d f s.now _ = _; rw [h.way]; exact putM_shift _ _ _ _ _, h.cuts, by have := h.clen; show s.cuts.length ≤ i + 1; omega, putI_mw h.mw hdel.2.1 hdel.1 hdel.2.2⟩
  · rw [if_neg hc]
    have e : sendS n d f = n := by unfold sendS; rw [if_neg hc]
    rw [e]
    exact h.mono (by omega)
theorem Rel.arr {i : Nat} {n : Nt} {s : Rs} (h : Rel i n s) : arrR s = arrS n.way := by
  unfold arrR arrS
  rw [h.way, shift, List.filter_map, List.map_map]
  congr 1
  refine List.filter_congr fun x hx => ?_
  show decide (x.wait + s.now = s.now + 1) = decide (x.wait - 1 = 0)
  exact decide_eq_decide.2 (by omega)
theorem Rel.step {i : Nat} {n : Nt} {s : Rs} (h : Rel i n s) : Rel (i + 1) (stepS n) (stepR s) := by
  refine ⟨h.ok.step, h.nodes, ⟨by have := h.now.1; show 0 ≤ s.now + 1; omega, by have := h.now.2; show s.now + 1 ≤ ((i + 1 : Nat) : Int); omega⟩, ?_, h.cuts, by have := h.clen; show s.cuts.length ≤ i + 1; omega, fun x hx => ?_⟩
  · show s.way.filter (fun x => !decide (x.wait = s.now + 1)) = shift (s.now + 1) (leftS n.way)
    rw [h.way]
    unfold shift leftS
    rw [List.filter_map, List.map_map]
    have e : (n.way.filter ((fun x : It => !decide (x.wait = s.now + 1)) ∘ fun x : It => (⟨x.wait + s.now, x.d⟩ : It))) = n.way.filter fun x => !soon x := by
      refine List.filter_congr fun x hx => ?_
      show (!decide (x.wait + s.now = s.now + 1)) = !decide (x.wait - 1 = 0)
      rw [decide_eq_decide.2 (show x.wait + s.now = s.now + 1 ↔ x.wait - 1 = 0 by omega)]
    rw [e]
    refine List.map_congr_left fun x hx => ?_
    show (⟨x.wait + s.now, x.d⟩ : It) = ⟨x.wait - 1 + (s.now + 1), x.d⟩
    congr 1
    omega
  · have hx' : x ∈ leftS n.way := hx
    unfold leftS at hx'
    obtain ⟨y, hy, rfl⟩ := List.mem_map.1 hx'
    obtain ⟨hy1, hy2⟩ := List.mem_filter.1 hy
    have := h.mw y hy1
    have hne : ¬ y.wait - 1 = 0 := by simpa [soon] using hy2
    show 1 ≤ y.wait - 1 ∧ y.wait - 1 ≤ 3000000000000
    omega
theorem lohi {a b c d : Int} : (lo c d = lo a b ∧ hi c d = hi a b) ↔ ((c = a ∧ d = b) ∨ (c = b ∧ d = a)) := by
  unfold lo hi
  split <;> split <;> split <;> split <;> omega
theorem ixS_inj {n : Nt} (hn : n.nodes ≤ 7) {a b c d : Int} (h1 : pairS n a b = true) (h2 : pairS n c d = true) : ixS c d = ixS a b ↔ (lo c d, hi c d) = (lo a b, hi a b) := by
  obtain ⟨p1, p2, p3, p4, _⟩ := pair_ix hn h1
  obtain ⟨q1, q2, q3, q4, _⟩ := pair_ix hn h2
  constructor
  · intro h
    unfold ixS at h
    have e1 : lo c d = lo a b := by omega
    have e2 : hi c d = hi a b := by omega
    rw [e1, e2]
  · intro h
    injection h with e1 e2
    unfold ixS
    rw [e1, e2]
theorem getD_set (l : List Bool) (i j : Nat) (v : Bool) (hi : i < l.length) : (l.set i v).getD j false = if j = i then v else l.getD j false := by
  rw [List.getD_eq_getElem?_getD, List.getD_eq_getElem?_getD, List.getElem?_set]
  by_cases h : i = j
  · subst h
    simp [hi]
  · rw [if_neg h, if_neg (fun e => h e.symm)]
theorem errR_eq {i : Nat} {n : Nt} {s : Rs} (h : Rel i n s) (a b : Int) : errR s a b = mendE n a b := by
  unfold errR mendE
  rw [h.nodes, linkB_pair]
theorem Rel.mend {i : Nat} {n : Nt} {s : Rs} (h : Rel i n s) (a b : Int) : Rel (i + 1) (mendS n a b) (mendSR s a b) := by
  have hok := h.ok.mend a b
  unfold mendSR mendS at *
  rw [h.nodes, linkB_pair]
  cases hp : pairS n a b with
  | false =>
    rw [if_neg (by decide), if_neg (by decide)]
    exact h.mono (by omega)
  | true =>
    rw [hp, if_pos rfl] at hok
    rw [if_pos rfl, if_pos rfl]
    obtain ⟨_, _, _, _, hix⟩ := pair_ix h.ok.nodes hp
    refine ⟨hok, rfl, ⟨h.now.1, by have := h.now.2; show s.now ≤ ((i + 1 : Nat) : Int); omega⟩, h.way, fun c d hcd => ?_, Nat.le_trans (List.length_filter_le _ _) (by have := h.clen; omega), h.mw⟩
    have hcd' : pairS n c d = true := hcd
    have h1 := h.cuts c d hcd'
    have h2 := ixS_inj h.ok.nodes hp hcd'
    show (lo c d, hi c d) ∈ s.cuts.filter (onK a b) ↔ (n.cut.set (ixS a b) false).getD (ixS c d) false = true
    rw [getD_set _ _ _ _ (by rw [h.ok.cut]; exact hix), List.mem_filter]
    by_cases he : ixS c d = ixS a b
    · rw [if_pos he]
      have e := h2.1 he
      injection e with e1 e2
      simp [onK, e1, e2]
    · rw [if_neg he, h1]
      have hne : onK a b (lo c d, hi c d) = true := by
        unfold onK
        rw [Bool.not_eq_true', Bool.and_eq_false_iff]
        by_cases e1 : lo c d = lo a b
        · right
          rw [decide_eq_false_iff_not]
          intro e2
          exact he (h2.2 (Prod.ext e1 e2))
        · left
          rw [decide_eq_false_iff_not]
          exact e1
      simp [hne]
theorem Rel.cutC {i : Nat} {n : Nt} {s : Rs} (h : Rel i n s) (a b : Int) : Rel (i + 1) (cutS n a b) (cutSR s a b) := by
  have hok := h.ok.cutC a b
  have hU := h.up a b
  unfold cutSR cutS at *
  rw [h.nodes, linkB_pair]
  cases hp : pairS n a b with
  | false =>
    rw [if_neg (by decide), if_neg (by decide)]
    exact h.mono (by omega)
  | true =>
    rw [hp, if_pos rfl] at hok
    rw [if_pos rfl, if_pos rfl]
    obtain ⟨_, _, _, _, hix⟩ := pair_ix h.ok.nodes hp
    refine ⟨hok, rfl, ⟨h.now.1, by have := h.now.2; show s.now ≤ ((i + 1 : Nat) : Int); omega⟩, ?_, fun c d hcd => ?_, ?_, fun x hx => h.mw x (List.mem_filter.1 hx).1⟩
    · show s.way.filter (fun x => onK a b (lo x.d.src x.d.dst, hi x.d.src x.d.dst)) = shift s.now (n.way.filter fun x => !onL a b x)
      rw [h.way]
      unfold shift
      rw [List.filter_map]
      congr 1
      refine List.filter_congr fun x hx => ?_
      show (!(decide (lo x.d.src x.d.dst = lo a b) && decide (hi x.d.src x.d.dst = hi a b))) = !onL a b x
      congr 1
      unfold onL
      rw [Bool.eq_iff_iff]
      simp only [Bool.and_eq_true, Bool.or_eq_true, decide_eq_true_eq]
      exact lohi
    · have hcd' : pairS n c d = true := hcd
      have h1 := h.cuts c d hcd'
      have h2 := ixS_inj h.ok.nodes hp hcd'
      have hab := h.cuts a b hp
      show (lo c d, hi c d) ∈ (if upR s a b = true then s.cuts ++ [(lo a b, hi a b)] else s.cuts) ↔ (n.cut.set (ixS a b) true).getD (ixS c d) false = true
      rw [getD_set _ _ _ _ (by rw [h.ok.cut]; exact hix), hU]
      unfold upS
      rw [hp]
      by_cases he : ixS c d = ixS a b
      · rw [if_pos he, h2.1 he]
        cases hg : n.cut.getD (ixS a b) false with
        | true => simpa using hab.2 hg
        | false => simp
      · rw [if_neg he, ← h1]
        have hne : ¬ (lo c d, hi c d) = (lo a b, hi a b) := fun e => he (h2.2 e)
        split
        · rw [List.mem_append, List.mem_singleton]
          constructor
          · rintro (h | h)
            · exact h
            · exact absurd h hne
          · exact .inl
        · rfl
    · show (if upR s a b = true then s.cuts ++ [(lo a b, hi a b)] else s.cuts).length ≤ i + 1
      have := h.clen
      split
      · rw [List.length_append]
        simpa using this
      · omega
end Go.Proofs.Try
