/- queue: the law QueueOrder, as plain law: what is in the queue and what has been popped. -/
import Derived.Test.YtfahajleoabojaaQueH
set_option linter.unusedSimpArgs false
set_option linter.unusedVariables false
namespace Go.Proofs.Try
open Go Go.AM

structure InvO (q : Qu) (out : List En) (n : Int) : Prop where
  good : GoodQ q
  ok : OkQ q
  nx : q.next = n + 1
  ent : ∀ e ∈ out, entryS e q.next = 0
  okm : OkE out
  nd : ((q.ready ++ out).map (·.num)).Nodup
  len : (q.ready.length : Int) + out.length = n

theorem erase_perm {α : Type} : ∀ (l : List α) (k : Nat) (h : k < l.length), List.Perm (l[k] :: l.eraseIdx k) l
  | x :: l, 0, _ => List.Perm.refl _
  | x :: l, k + 1, h => by
    have := erase_perm l k (by simpa using h)
    exact (List.Perm.swap _ _ _).trans (this.cons x)
theorem ins_perm (q : Qu) (e : En) : List.Perm (insQ q e).ready (e :: q.ready) := by
  unfold insQ
  simp only [List.append_assoc, List.singleton_append]
  refine (List.perm_middle).trans ?_
  rw [List.take_append_drop]
theorem inv_push {q : Qu} {out : List En} {n now : Int} {m : Ms} (h : InvO q out n) (hm : OkM m) (h0 : (pushS q m now).2 = 0) : InvO (pushS q m now).1 out (n + 1) := by
  have hg := push_good h.good h0
  have ho := push_ok (now := now) h.ok hm
  rcases push_cases q m now with ⟨_, _, _, _, _, e⟩ | ⟨h1, _⟩
  rotate_left
  · exact absurd h0 h1
  rw [e] at hg ho ⊢
  refine ⟨hg, ho, by simp only; have := h.nx; omega, fun x hx => entry_up (h.ent x hx) (by simp only; omega), h.okm, ?_, ?_⟩
  · have hp : List.Perm (((insQ q ⟨q.next, now, 0, m⟩).ready ++ out).map (·.num)) (q.next :: (q.ready ++ out).map (·.num)) := by
      refine ((ins_perm q _).append_right out).map _ |>.trans ?_
      simp
    refine hp.nodup_iff.2 (List.nodup_cons.2 ⟨fun hx => ?_, h.nd⟩)
    obtain ⟨x, hx, hx2⟩ := List.mem_map.1 hx
    have : entryS x q.next = 0 := by
      rcases List.mem_append.1 hx with hx | hx
      · exact h.good.ent x hx
      · exact h.ent x hx
    have := (entry_ok this).1
    omega
  · have := ins_len q ⟨q.next, now, 0, m⟩
    have := h.len
    simp only
    omega
theorem inv_pop {q : Qu} {out : List En} {n : Int} (h : InvO q out n) (hl : 0 < q.ready.length) : InvO ⟨q.spec, q.next, q.ready.drop 1⟩ (out ++ [q.ready[0]]) n := by
  have hg := pop_good h.good
  have ho := pop_ok h.ok
  rw [pop_cons hl] at hg ho
  obtain ⟨s, nx, l⟩ := q
  cases l with
  | nil => simp at hl
  | cons x r =>
    refine ⟨hg rfl, ho.1, h.nx, fun e he => ?_, fun e he => ?_, ?_, ?_⟩
    · rcases List.mem_append.1 he with he | he
      · exact h.ent e he
      · rw [List.mem_singleton.1 he]
        exact h.good.ent x (by simp)
    · rcases List.mem_append.1 he with he | he
      · exact h.okm e he
      · rw [List.mem_singleton.1 he]
        exact ho.2
    · refine (List.Perm.nodup_iff (List.Perm.map _ ?_)).2 h.nd
      show List.Perm (r ++ (out ++ [x])) (x :: r ++ out)
      rw [← List.append_assoc]
      exact List.perm_append_comm.trans (by simp)
    · have := h.len
      simp only [List.length_cons, List.length_append, List.length_drop, List.length_nil] at this ⊢
      omega
theorem inv_ret {q : Qu} {out : List En} {n : Int} {k : Nat} (h : InvO q out n) (hk : k < out.length) (hn : n ≤ 4000) : retS q out[k] = (insQ q out[k], 0) ∧ InvO (insQ q out[k]) (out.eraseIdx k) n := by
  have he := h.ent out[k] (List.getElem_mem hk)
  have hnd := h.nd
  rw [List.map_append, List.nodup_append] at hnd
  have hni : out[k].num ∉ q.ready.map (·.num) := fun hx => hnd.2.2 _ hx _ (List.mem_map.2 ⟨_, List.getElem_mem hk, rfl⟩) rfl
  have hl := h.len
  have hr : retS q out[k] = (insQ q out[k], 0) := by
    unfold retS
    rw [if_pos he, if_neg hni, if_neg (by omega)]
  have hg := ret_good (e := out[k]) h.good
  have ho := ret_ok (e := out[k]) h.ok (h.okm _ (List.getElem_mem hk))
  rw [hr] at hg ho
  refine ⟨hr, hg rfl, ho, h.nx, fun e he => h.ent e (List.mem_of_mem_eraseIdx he), fun e he => h.okm e (List.mem_of_mem_eraseIdx he), ?_, ?_⟩
  · refine (List.Perm.nodup_iff (List.Perm.map _ ?_)).2 h.nd
    refine ((ins_perm q out[k]).append_right _).trans ?_
    refine (List.perm_middle (a := out[k]) (l₁ := q.ready)).symm.trans ?_
    exact List.Perm.append_left _ (erase_perm out k hk)
  · have h1 := ins_len q out[k]
    have h2 := (erase_perm out k hk).length_eq
    rw [List.length_cons] at h2
    omega
/-- The queue after k pops. -/
theorem pop_at {q : Qu} {out : List En} {n : Int} (h : InvO q out n) {k : Nat} (hk : k < q.ready.length) : popS ⟨q.spec, q.next, q.ready.drop k⟩ = (q.ready[k], ⟨q.spec, q.next, q.ready.drop (k + 1)⟩, true) ∧ 1 ≤ q.ready[k].num ∧ q.ready[k].num ≤ n := by
  have hl : 0 < (q.ready.drop k).length := by rw [List.length_drop]; omega
  have := pop_cons (q := ⟨q.spec, q.next, q.ready.drop k⟩) hl
  have he := (entry_ok (h.good.ent _ (List.getElem_mem hk))).1
  have := h.nx
  refine ⟨?_, by omega, by omega⟩
  rw [pop_cons (q := ⟨q.spec, q.next, q.ready.drop k⟩) hl]
  simp [List.drop_drop, Nat.add_comm]
theorem pop_prec {q : Qu} (h : GoodQ q) {k : Nat} (hk : k + 1 < q.ready.length) : precS q.ready[k] q.ready[k + 1] = true :=
  List.pairwise_iff_getElem.1 h.srt k (k + 1) (by omega) hk (by omega)
theorem inv_new {s : Sp} (h : checkSp s = 0) : InvO ⟨s, 1, []⟩ [] 0 :=
  ⟨⟨h, by simp, by simp, by simp, fun e he => by simp at he, by simp, by simp [Srt]⟩, fun e he => by simp at he, by simp, fun e he => by simp at he, fun e he => by simp at he, by simp, by simp⟩
theorem newQ_good {s : Sp} (h : (newQ s).2 = 0) : newQ s = (⟨s, 1, []⟩, 0) ∧ checkSp s = 0 := by
  unfold newQ at h ⊢
  split
  · rename_i h1; exact ⟨rfl, h1⟩
  · rename_i h1
    rw [if_neg h1] at h
    exact absurd h h1
theorem newQ_bad {s : Sp} (h : (newQ s).2 ≠ 0) : (newQ s).1 = zeroQ := by
  unfold newQ at h ⊢
  split
  · rename_i h1; rw [if_pos h1] at h; exact absurd rfl h
  · rfl
end Go.Proofs.Try
