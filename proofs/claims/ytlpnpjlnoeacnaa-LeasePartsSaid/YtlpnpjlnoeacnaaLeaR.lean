/- lease: where the entries are. -/
import Derived.Test.YtlpnpjlnoeacnaaLeaQ
import Derived.Test.YtlpnpjlnoeacnaaLeaP
import Derived.Test.YtlpnpjlnoeacnaaWk
set_option linter.unusedSimpArgs false
set_option linter.unusedVariables false
namespace Go.Proofs.Try
open Go Go.AM

abbrev sQ : ByteArray := ⟨#[113]⟩
abbrev numE (l : List En) : List Int := l.map (·.num)
abbrev numL (l : List Le) : List Int := l.map (·.e.num)
abbrev upTo (n : Nat) : List Int := (List.range n).map fun (k : Nat) => (k : Int) + 1
/-- Each of the n entries is in one place: ready, delivered, settled, or on its way back (out). -/
structure Pt (i : Nat) (q : Qu) (l out : List Le) (se : List Int) (n tag : Nat) : Prop where
  gq : GoodQ q
  oq : OkQ q
  nm : q.spec.name = sQ
  nx : q.next = (n : Int) + 1
  gl : GoodL l
  ol : OkL l
  ql : ∀ x ∈ l, x.queue = sQ
  tl : ∀ x ∈ l, x.tag ≤ tag
  go : ∀ x ∈ out, x.queue = sQ ∧ chk1 x = 0
  oo : OkL out
  aq : ∀ e ∈ q.ready, e.att ≤ i
  al : ∀ x ∈ l, x.e.att ≤ i
  ao : ∀ x ∈ out, x.e.att ≤ i
  pm : (numE q.ready ++ (numL l ++ (se ++ numL out))).Perm (upTo n)
  ni : n ≤ i
  ti : tag ≤ i
theorem upTo_mem {n : Nat} {x : Int} : x ∈ upTo n ↔ 1 ≤ x ∧ x ≤ n := by
  simp only [upTo, List.mem_map, List.mem_range]
  constructor
  · rintro ⟨k, hk, rfl⟩
    omega
  · intro h
    exact ⟨(x - 1).toNat, by omega, by omega⟩
theorem upTo_nodup (n : Nat) : (upTo n).Nodup := by
  unfold upTo List.Nodup
  rw [List.pairwise_map]
  exact List.Pairwise.imp (fun h e => h (by omega)) List.nodup_range
theorem upTo_succ (n : Nat) : upTo (n + 1) = upTo n ++ [(n : Int) + 1] := by
  simp [upTo, List.range_succ]
section
variable {i n tag : Nat} {q : Qu} {l out : List Le} {se : List Int}
theorem Pt.bnd (h : Pt i q l out se n tag) : ∀ x ∈ numE q.ready ++ (numL l ++ (se ++ numL out)), 1 ≤ x ∧ x ≤ n := fun x hx => upTo_mem.1 (h.pm.mem_iff.1 hx)
theorem Pt.nd (h : Pt i q l out se n tag) : (numE q.ready ++ (numL l ++ (se ++ numL out))).Nodup := h.pm.nodup_iff.2 (upTo_nodup n)
theorem Pt.len (h : Pt i q l out se n tag) : q.ready.length + (l.length + (se.length + out.length)) = n := by
  have := h.pm.length_eq
  simpa using this
theorem Pt.up (h : Pt i q l out se n tag) : Pt (i + 1) q l out se n tag :=
  { h with aq := fun e he => by have := h.aq e he; omega, al := fun e he => by have := h.al e he; omega, ao := fun e he => by have := h.ao e he; omega, ni := by have := h.ni; omega, ti := by have := h.ti; omega }
theorem ins_perm (q : Qu) (e : En) : (numE (insQ q e).ready).Perm (e.num :: numE q.ready) := by
  have h : numE q.ready = numE (q.ready.take (plS q.ready e)) ++ numE (q.ready.drop (plS q.ready e)) := by rw [← List.map_append, List.take_append_drop]
  rw [h]
  show (numE (q.ready.take (plS q.ready e) ++ [e] ++ q.ready.drop (plS q.ready e))).Perm _
  unfold numE
  rw [List.append_assoc, List.map_append, List.map_append]
  exact List.perm_middle
theorem Pt.back : ∀ {out : List Le} {q : Qu}, Pt i q l out se n tag → i ≤ 1000 → ∃ q', backL sQ q out = (q', 0) ∧ Pt i q' l [] se n tag
  | [], q, h, hi => ⟨q, rfl, h⟩
  | x :: r, q, h, hi => by
    obtain ⟨g1, g2⟩ := h.go x (by simp)
    obtain ⟨c1, c2, c3, c4, c5, c6, c7, c8⟩ := chk1_zero g2
    have hnx := h.nx
    have hb := h.bnd x.e.num (by simp)
    have hnd := h.nd
    have hl := h.len
    have hni := h.ni
    have hent : entryS x.e q.next = 0 := by
      simp only [inS, Bool.and_eq_true, decide_eq_true_eq] at c5 c6 c7
      rw [entryS_in ⟨⟨by omega, by omega⟩, by omega, by omega, by omega⟩]
      exact c8
    have hnm : x.e.num ∉ q.ready.map (·.num) := fun hm => by
      rw [List.nodup_append] at hnd
      exact hnd.2.2 _ hm x.e.num (by simp) rfl
    have hret : retS q x.e = (insQ q x.e, 0) := by
      unfold retS
      rw [if_pos hent, if_neg hnm, if_neg (by omega)]
    rw [backL, if_pos g1, hret]
    simp only [if_true]
    refine Pt.back (out := r) (q := insQ q x.e) ?_ hi
    have hgood := ret_good (e := x.e) h.gq (by rw [hret])
    rw [hret] at hgood
    exact { gq := hgood, oq := ins_ok h.oq (h.oo x (by simp)), nm := h.nm, nx := h.nx, gl := h.gl, ol := h.ol, ql := h.ql, tl := h.tl, go := fun y hy => h.go y (by simp [hy]), oo := fun y hy => h.oo y (by simp [hy]), aq := fun e he => by
              rcases mem_ins.1 he with rfl | he
              · exact h.ao x (by simp)
              · exact h.aq e he, al := h.al, ao := fun y hy => h.ao y (by simp [hy]), pm := by
              refine List.Perm.trans ?_ h.pm
              refine ((ins_perm q x.e).append_right _).trans ?_
              have e1 : x.e.num :: numE q.ready ++ (numL l ++ (se ++ numL r)) = x.e.num :: ((numE q.ready ++ (numL l ++ se)) ++ numL r) := by simp
              have e2 : numE q.ready ++ (numL l ++ (se ++ numL (x :: r))) = (numE q.ready ++ (numL l ++ se)) ++ x.e.num :: numL r := by simp [numL]
              rw [e1, e2]
              exact List.perm_middle.symm, ni := h.ni, ti := h.ti }
theorem Pt.split (h : Pt i q l [] se n tag) (p : Le → Bool) : Pt i q (l.filter fun x => !p x) (l.filter p) se n tag :=
  { gq := h.gq, oq := h.oq, nm := h.nm, nx := h.nx, gl := h.gl.sub List.filter_sublist, ol := fun x hx => h.ol x (List.mem_filter.1 hx).1, ql := fun x hx => h.ql x (List.mem_filter.1 hx).1, tl := fun x hx => h.tl x (List.mem_filter.1 hx).1,
    go := fun x hx => ⟨h.ql x (List.mem_filter.1 hx).1, h.gl.one x (List.mem_filter.1 hx).1⟩, oo := fun x hx => h.ol x (List.mem_filter.1 hx).1, aq := h.aq, al := fun x hx => h.al x (List.mem_filter.1 hx).1, ao := fun x hx => h.al x (List.mem_filter.1 hx).1,
    pm := by
      refine List.Perm.trans ?_ h.pm
      refine List.Perm.append_left _ ?_
      have h1 : (numL (l.filter p) ++ numL (l.filter fun x => !p x)).Perm (numL l) := by
        rw [← List.map_append]
        exact (List.filter_append_perm p l).map _
      simp only [List.map_nil, List.append_nil]
      refine List.Perm.trans ?_ ((List.perm_append_comm.trans h1).append_right se)
      rw [List.append_assoc]
      exact List.Perm.append_left _ List.perm_append_comm
    ni := h.ni, ti := h.ti }
theorem Pt.settled (h : Pt i q l out se n tag) : Pt i q l [] (se ++ numL out) n tag :=
  { h with go := fun x hx => (by simp at hx), oo := fun x hx => (by simp at hx), ao := fun x hx => (by simp at hx), pm := by simpa using h.pm }
theorem settle_ok {l : List Le} {y : Le} (hy : y ∈ l) (all : Bool) : ∃ p : Le → Bool, settleS l y.own y.tag all = (l.filter (fun x => !p x), l.filter p, 0) ∧ l.filter p ≠ [] := by
  rcases settle_cases l y.own y.tag all with ⟨p, h1, _, ⟨z, h3, h4, _⟩, _⟩ | h
  · refine ⟨p, h1, fun e => ?_⟩
    have : z ∈ l.filter p := List.mem_filter.2 ⟨h3, h4⟩
    rw [e] at this
    simp at this
  · exfalso
    apply h
    unfold settleS
    rw [if_neg]
    · split <;> rfl
    · intro e
      have : y ∈ l.filter (isOne y.own y.tag) := List.mem_filter.2 ⟨hy, by simp [isOne]⟩
      rw [e] at this
      simp at this
theorem Pt.push (h : Pt i q l [] se n tag) {m : Ms} (hm : OkM m) (h0 : (pushS q m 0).2 = 0) : Pt (i + 1) (pushS q m 0).1 l [] se (n + 1) tag := by
  have hg := push_good h.gq h0
  rcases push_cases q m 0 with ⟨_, _, _, _, _, e⟩ | ⟨h1, _⟩
  · rw [e] at hg ⊢
    have hnx := h.nx
    exact { gq := hg, oq := ins_ok h.oq hm, nm := h.nm, nx := by show q.next + 1 = _; omega, gl := h.gl, ol := h.ol, ql := h.ql, tl := h.tl, go := h.go, oo := h.oo, aq := fun x hx => by
              rcases mem_ins.1 hx with rfl | hx
              · show (0 : Int) ≤ _; omega
              · have := h.aq x hx; omega, al := fun x hx => by have := h.al x hx; omega, ao := fun x hx => by simp at hx, pm := by
              rw [upTo_succ]
              refine ((ins_perm q ⟨q.next, 0, 0, m⟩).append_right _).trans ?_
              refine List.Perm.trans ?_ (h.pm.append_right _)
              rw [List.cons_append, ← hnx]
              exact List.perm_append_comm (l₁ := [q.next]), ni := by have := h.ni; omega, ti := by have := h.ti; omega }
  · exact absurd h0 h1
theorem Pt.give (h : Pt i q l [] se n tag) (hi : i ≤ 1000) (hl : 0 < q.ready.length) {own : Int} (ho : 0 ≤ own ∧ own ≤ 1099511627776) :
    giveS l ((tag : Int) + 1) own sQ q.ready[0] = (l ++ [giveL ((tag : Int) + 1) own sQ q.ready[0]], giveL ((tag : Int) + 1) own sQ q.ready[0], 0) ∧ Pt (i + 1) ⟨q.spec, q.next, q.ready.drop 1⟩ (l ++ [giveL ((tag : Int) + 1) own sQ q.ready[0]]) [] se n (tag + 1) := by
  obtain ⟨sp, nx, rd⟩ := q
  cases rd with
  | nil => simp at hl
  | cons e r =>
    simp only [List.getElem_cons_zero, List.drop_one, List.tail_cons]
    have hb := h.bnd e.num (by simp)
    have hnd := h.nd
    have hlen := h.len
    have hni := h.ni
    have hti := h.ti
    have hnx := h.nx
    have hea := h.aq e (by simp)
    have heo := h.oq e (by simp)
    simp only at hnx hlen
    simp only [List.length_cons] at hlen
    obtain ⟨e1, e2, e3, e4⟩ := entry_ok (h.gq.ent e (by simp))
    have hent : ent27 sQ e 0 1099511627775 = 0 := by
      unfold ent27
      rw [if_pos (by decide +kernel), if_pos (by simp [inS]; omega)]
      exact e4
    have hord : ordS l ((tag : Int) + 1) = false := (ordS_iff h.gl.ord _).2 fun y hy => by have := h.tl y hy; omega
    have hnum : ∀ y ∈ l, y.e.num ≠ e.num := fun y hy hc => by
      simp only [List.map_cons, List.cons_append, List.nodup_cons] at hnd
      exact hnd.1 (by simp only [List.mem_append, List.mem_map]; exact .inr (.inl ⟨y, hy, hc⟩))
    have hhas : hasS l sQ e.num = false := (hasS_iff (x := giveL ((tag : Int) + 1) own sQ e)).2 fun y hy hc => hnum y hy hc.2
    have hg : giveS l ((tag : Int) + 1) own sQ e = (l ++ [giveL ((tag : Int) + 1) own sQ e], giveL ((tag : Int) + 1) own sQ e, 0) := by
      unfold giveS
      rw [if_pos (by simp [inS]; omega), if_pos hent, if_neg (by rw [hord]; decide), if_neg (by rw [hhas]; decide), if_neg (by omega)]
    refine ⟨hg, ?_⟩
    obtain ⟨_, hgl⟩ := give_good h.gl (by rw [hg])
    have mem : ∀ x ∈ l ++ [giveL ((tag : Int) + 1) own sQ e], x ∈ l ∨ x = giveL ((tag : Int) + 1) own sQ e := fun x hx => by simpa using hx
    exact { gq := sub_good h.gq (List.sublist_cons_self _ _), oq := fun x hx => h.oq x (by simp [hx]), nm := h.nm, nx := h.nx, gl := hgl,
            ol := fun x hx => by rcases mem x hx with hx | rfl; exact h.ol x hx; exact heo,
            ql := fun x hx => by rcases mem x hx with hx | rfl; exact h.ql x hx; rfl,
            tl := fun x hx => by
              rcases mem x hx with hx | rfl
              · have := h.tl x hx; omega
              · show (tag : Int) + 1 ≤ _; omega,
            go := h.go, oo := h.oo, aq := fun x hx => by have := h.aq x (by simp [hx]); omega,
            al := fun x hx => by
              rcases mem x hx with hx | rfl
              · have := h.al x hx; omega
              · show e.att + 1 ≤ _; omega,
            ao := fun x hx => by simp at hx,
            pm := by
              refine List.Perm.trans ?_ h.pm
              simp only [List.map_append, List.map_cons, List.map_nil, List.append_assoc, List.cons_append, List.nil_append, List.append_nil]
              show (numE r ++ (numL l ++ (e.num :: se))).Perm (e.num :: (numE r ++ (numL l ++ se)))
              rw [← List.append_assoc, ← List.append_assoc]
              exact List.perm_middle,
            ni := by omega, ti := by omega }
theorem Pt.places (h : Pt i q l [] se n tag) (hi : i ≤ 1000) : ACallP Try.prog 30 [aggQ q, rowL l, rowI se, i64 n] (bo true) := by
  have hb := h.bnd
  have hpm := h.pm
  have hl := h.len
  have hni := h.ni
  simp only [List.map_nil, List.append_nil] at hb hpm
  rw [← List.append_assoc] at hb hpm
  refine places_t q l se n (by omega) (by simp at hl ⊢; omega) hb fun k k1 k2 => ?_
  rw [hpm.count_eq]
  have hnd := upTo_nodup n
  have hmem : (k : Int) ∈ upTo n := upTo_mem.2 ⟨by omega, by omega⟩
  have h1 := List.nodup_iff_count.1 hnd (k : Int)
  have h2 := List.count_pos_iff.2 hmem
  omega
end
end Go.Proofs.Try
