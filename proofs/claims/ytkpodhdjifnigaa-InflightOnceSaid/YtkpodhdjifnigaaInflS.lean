/- inflight: other operations; what is sent again of one flight. -/
import Derived.Test.YtkpodhdjifnigaaInflQ
import Derived.Test.YtkpodhdjifnigaaAM49
set_option linter.unusedSimpArgs false
set_option linter.unusedVariables false
namespace Go.Proofs.Try
open Go Go.AM

def stepO (q : Int) (w : Wi) (o : OpI) : Wi :=
  if o.kind = 0 then (if (startS w o.msg).2.2 = 0 then (startS w o.msg).1 else w) else
  if pktId w o = q then w else if (handleS w o.kind (pktId w o)).2.2 = 0 then (handleS w o.kind (pktId w o)).1 else w
def othersS (w : Wi) (q : Int) (ops : List OpI) (n : Nat) : Wi := (ops.take n).foldl (stepO q) w
theorem others_succ {w : Wi} {q : Int} {ops : List OpI} {i : Nat} (h : i < ops.length) : othersS w q ops (i + 1) = stepO q (othersS w q ops i) ops[i] := by
  unfold othersS
  rw [← List.take_append_getElem h, List.foldl_append]
  rfl
/-- A valid window whose texts have room. -/
def JW (w : Wi) : Prop := GoodW w ∧ OkW w
theorem step_j {q : Int} {w : Wi} {o : OpI} (h : JW w) (hm : OkM o.msg) : JW (stepO q w o) := by
  unfold stepO
  split
  · split
    · rename_i h0
      exact ⟨start_good h.1 h0, start_ok h.2 hm⟩
    · exact h
  · split
    · exact h
    · split
      · rename_i h0
        exact ⟨handle_good h.1 h0, handle_ok h.1 h.2⟩
      · exact h
theorem others_j {q : Int} {w : Wi} {ops : List OpI} (h : JW w) (hm : ∀ o ∈ ops, OkM o.msg) : ∀ n : Nat, JW (othersS w q ops n)
  | 0 => by unfold othersS; exact h
  | n + 1 => by
    by_cases hn : n < ops.length
    · rw [others_succ hn]
      exact step_j (others_j h hm n) (hm _ (List.getElem_mem hn))
    · have e : othersS w q ops (n + 1) = othersS w q ops n := by
        unfold othersS
        rw [List.take_of_length_le (by omega), List.take_of_length_le (by omega)]
      rw [e]
      exact others_j h hm n
theorem mem_erase {l : List Fl} {f : Fl} {i : Nat} (hi : i < l.length) (hf : f ∈ l) (h : f.id ≠ l[i].id) : f ∈ l.eraseIdx i := by
  obtain ⟨j, hj, rfl⟩ := List.getElem_of_mem hf
  refine List.mem_eraseIdx_iff_getElem.2 ⟨j, hj, ?_, rfl⟩
  intro e
  subst e
  exact h rfl
theorem mem_set {l : List Fl} {f a : Fl} {i : Nat} (hi : i < l.length) (hf : f ∈ l) (h : f.id ≠ l[i].id) : f ∈ l.set i a := by
  obtain ⟨j, hj, rfl⟩ := List.getElem_of_mem hf
  have hji : i ≠ j := fun e => by subst e; exact h rfl
  have hg : (l.set i a)[j]'(by simpa using hj) = l[j] := by rw [List.getElem_set_ne hji]
  rw [← hg]
  exact List.getElem_mem _
theorem step_mem {q : Int} {w : Wi} {o : OpI} {f : Fl} (hw : JW w) (hq : f.id = q) (hf : f ∈ w.items) : f ∈ (stepO q w o).items := by
  unfold stepO
  split
  · split
    · rename_i h0
      unfold startS at h0 ⊢
      split at h0
      · exact absurd h0 (by decide)
      rename_i h1
      split at h0
      · exact absurd h0 (by decide)
      rename_i h2
      split at h0
      · rename_i h3
        rw [if_neg h1, if_neg h2, if_pos h3]
        exact List.mem_append_left _ hf
      · rename_i h3; exact absurd h0 h3
    · exact hf
  · split
    · exact hf
    · rename_i hne
      split
      · rename_i h0
        rcases handle_three hw.1 h0 with ⟨_, e⟩ | ⟨i, hi, _, hid, _, e⟩ | ⟨i, hi, _, hid, _, hv, e⟩
        · rw [e]; exact hf
        · rw [e]
          exact mem_erase hi hf (by rw [hid, hq]; exact fun e => hne e.symm)
        · rw [e]
          show f ∈ (releaseS w i w.items[i]).items
          rw [release_items hi]
          exact mem_set hi hf (by rw [hid, hq]; exact fun e => hne e.symm)
      · exact hf
theorem others_mem {q : Int} {w : Wi} {ops : List OpI} {f : Fl} (hw : JW w) (hm : ∀ o ∈ ops, OkM o.msg) (hq : f.id = q) (hf : f ∈ w.items) : ∀ n : Nat, f ∈ (othersS w q ops n).items
  | 0 => by unfold othersS; exact hf
  | n + 1 => by
    by_cases hn : n < ops.length
    · rw [others_succ hn]
      exact step_mem (others_j hw hm n) hq (others_mem hw hm hq hf n)
    · have e : othersS w q ops (n + 1) = othersS w q ops n := by
        unfold othersS
        rw [List.take_of_length_le (by omega), List.take_of_length_le (by omega)]
      rw [e]
      exact others_mem hw hm hq hf n
theorem resK_id (f : Fl) : (resK f).id = f.id := by
  unfold resK
  split <;> rfl
theorem cnt_none {l : List Fl} {k q : Int} (h : ∀ f ∈ l, ¬ f.id = q) : (l.map resK).countP (isK k q) = 0 := by
  rw [List.countP_eq_zero]
  intro p hp
  obtain ⟨f, hf, rfl⟩ := List.mem_map.1 hp
  have := h f hf
  simp [isK, resK_id, this]
theorem cnt_at {l : List Fl} {k q : Int} (hn : (l.map (·.id)).Nodup) {i : Nat} (hi : i < l.length) (hid : l[i].id = q) : (l.map resK).countP (isK k q) = if (resK l[i]).kind = k then 1 else 0 := by
  have e : l = l.take i ++ l[i] :: l.drop (i + 1) := by rw [← List.drop_eq_getElem_cons hi, List.take_append_drop]
  have hother : ∀ j (hj : j < l.length), j ≠ i → ¬ l[j].id = q := by
    intro j hj hji he
    have hn := List.pairwise_iff_getElem.1 hn
    rcases Nat.lt_or_gt_of_ne hji with h3 | h3
    · have := hn j i (by simp; omega) (by simp; omega) h3
      simp only [List.getElem_map] at this
      exact this (by rw [he, hid])
    · have := hn i j (by simp; omega) (by simp; omega) h3
      simp only [List.getElem_map] at this
      exact this (by rw [he, hid])
  have h1 : (l.map resK).countP (isK k q) = ((l.take i).map resK).countP (isK k q) + ((if (resK l[i]).kind = k then 1 else 0) + ((l.drop (i + 1)).map resK).countP (isK k q)) := by
    conv => lhs; rw [e]
    rw [List.map_append, List.map_cons, List.countP_append, List.countP_cons]
    have : isK k q (resK l[i]) = decide ((resK l[i]).kind = k) := by simp [isK, resK_id, hid]
    rw [this]
    simp only [decide_eq_true_eq]
    omega
  rw [h1, cnt_none, cnt_none]
  · simp
  · intro f hf
    obtain ⟨j, hj, rfl⟩ := List.getElem_of_mem hf
    rw [List.getElem_drop]
    rw [List.length_drop] at hj
    exact hother _ (by omega) (by omega)
  · intro f hf
    obtain ⟨j, hj, rfl⟩ := List.getElem_of_mem hf
    rw [List.getElem_take]
    rw [List.length_take] at hj
    exact hother _ (by omega) (by omega)
/-- Where a flight lies. -/
theorem at_mem {w : Wi} (hw : GoodW w) {f : Fl} (hf : f ∈ w.items) : ∃ i, ∃ hi : i < w.items.length, atS w.items f.id = (i : Nat) ∧ w.items[i] = f := by
  rcases at_cases w.items f.id with h | ⟨i, hi, h1, h2⟩
  · exact absurd rfl (at_neg.1 (by omega : atS w.items f.id < 0) f hf)
  · refine ⟨i, hi, h1, ?_⟩
    apply Decidable.byContradiction
    intro hne
    obtain ⟨j, hj, hjf⟩ := List.getElem_of_mem hf
    have hji : j ≠ i := fun e => by subst e; exact hne hjf
    have hm : f ∈ w.items.eraseIdx i := List.mem_eraseIdx_iff_getElem.2 ⟨j, hj, hji, hjf⟩
    exact erase_ids hw.nodup hi hm h2.symm
set_option maxHeartbeats 64000000 in
set_option maxRecDepth 10000 in
theorem others_calls (w : Wi) (q : Int) (ops : List OpI) (hw : JW w) (hops : ∀ o ∈ ops, OkM o.msg ∧ -9223372036854775808 ≤ o.id) : ACallP Try.prog 26 [aggW w, i64 q, rowO ops] (aggW (othersS w q ops 30)) := by
  have hlm : (ops.map encO).length = ops.length := List.length_map ..
  have hm : ∀ o ∈ ops, OkM o.msg := fun o ho => (hops o ho).1
  have hJ := others_j (q := q) hw hm
  have hS : ∀ i (h : i < ops.length), othersS w q ops (i + 1) = stepO q (othersS w q ops i) ops[i] := fun i h => others_succ h
  have hE : ∀ i : Nat, i ≤ ops.length → i ≤ 30 → ¬ (i < ops.length ∧ i < 30) → othersS w q ops i = othersS w q ops 30 := by
    intro i h1 h2 h3
    unfold othersS
    by_cases h : i = 30
    · rw [h]
    · rw [List.take_of_length_le (by omega), List.take_of_length_le (by omega)]
  have h00 : othersS w q ops 0 = w := rfl
  generalize othersS w q ops = W at *
  refine h00 ▸ ?_
  refine ACalls.body tok Try.func26 rfl (by kernel_rfl) (by rw [Try.ntmps26]; simp) ?_
  simp only [Try.ntmps26, Try.results26, argT]
  repeat (first|refine AL.do tok rfl rfl ?_|refine AL.nil ?_|refine AW.seq fun K hK => ?_|refine AW.region ?_|refine AL.no rfl rfl ?_|(refine hK _ ?_; clear hK)|(clear hK; refine hK _ ?_; clear hK)|(clear hK; clear hK; refine hK _ ?_; clear hK)|refine qa7 qv1 ?_|refine qa7 qv2 ?_|refine qa7 qv3 ?_|refine qa7 (qv4 tok) ?_|refine qa7 (qv5 tok) ?_|refine qa7 qv6 ?_|refine qa7 qv7 ?_|refine qa7 (qv8 tok) ?_|refine qa7 (qv9 tok) ?_|refine qa7 (qv10 tok) ?_|refine qa7 (qv11 tok) ?_|refine qa7 (qv12 tok) ?_|refine qa7 (qv13 tok) ?_|refine qa7 (qv14 tok) ?_|refine qa7 (qv15 tok) ?_|refine qa7 (qv16 tok) ?_|refine qa7 qv17 ?_|refine qa7 (qv18 tok) ?_|refine qa7 qv19 ?_|refine qa7 (qv20 tok) ?_|refine qa7 (qv21 tok) ?_|refine qa7 (qv22 tok) ?_|refine qa7 (qv23 tok) ?_|refine qa7 (qv24 tok) ?_|refine qa7 qv26 ?_|refine qa7 qv27 ?_|refine qa7 (qv28 tok) ?_|refine qa1 tok ?_|refine qa2 tok ?_|refine qa3 tok ?_|refine AL.loadR tok rfl rfl rfl rfl rfl rfl ?_|refine qa4 tok ?_|refine qa5 tok ?_|refine AW.block ?_|refine AW.exit ?_|refine AW.skip ?_)
  refine AW.loop (ι := Nat) (fun i => ⟨59, [(7, i64 i), (3, .ptr (.loc 0) 0), (6, .ptr (.loc 1) 0), (1, i64 q), (2, rowO ops)], [(0, some (.box 27 [i64 (W i).limit, rowF (W i).items, rowI (W i).pool.used, i64 (W i).pool.last])), (1, some (.box 27 [i64 0, .nilrow, .nilrow, i64 0]))], [], 2⟩)
    (fun i => i ≤ ops.length ∧ i ≤ 30) (fun i => 30 - i) 0 ⟨Nat.zero_le _, Nat.zero_le _⟩ ?_ ?_
  · (refine Imp.weak id (fun _ _ _ _ h => h) (by first|assumption|(intro b hb; cases hb)) ?_ ?_ <;> (repeat' (first|exact trivial|exact Nat.lt_of_lt_of_le (Nat.lt_succ_self _) (Nat.le_of_ble_eq_true rfl)|exact rfl|exact Or.inl ⟨rfl, rfl⟩|exact Or.inr ⟨rfl, LF.fn _ _ ‹_›⟩|refine ⟨?_, ?_⟩)))
  rintro i ⟨hi, hi30⟩ K1 hK1
  obtain ⟨hG, hO⟩ := hJ i
  have hlen := hG.len
  by_cases hlt : i < ops.length ∧ i < 30
  · have hil := hlt.1
    obtain ⟨hom, hoi⟩ := hops ops[i] (List.getElem_mem _)
    have hs := hS i hil
    have hk2 := fun σ' => hK1 σ' (i + 1)
    clear hK1 hE hS hJ
    generalize W (i + 1) = w2 at *
    generalize W i = w1 at *
    by_cases hk : ops[i].kind = 0
    · have t1 := start_calls w1 ops[i].msg hG hO hom
      have hst : w2 = if (startS w1 ops[i].msg).2.2 = 0 then (startS w1 ops[i].msg).1 else w1 := by rw [hs, stepO, if_pos hk]
      generalize startS w1 ops[i].msg = r at *
      obtain ⟨v, p, e⟩ := r
      replace t1 : ACallP Try.prog 12 [aggW w1, aggM ops[i].msg] (.tup [aggW v, aggK p, i64 e]) := t1
      simp only at hst
      repeat' (first|refine AL.do tok rfl rfl ?_|refine AL.nil ?_|refine AW.seq fun K hK => ?_|refine AW.region ?_|refine AL.no rfl rfl ?_|(refine hK _ ?_; clear hK)|(clear hK; refine hK _ ?_; clear hK)|(clear hK; clear hK; refine hK _ ?_; clear hK)|refine qa7 qv1 ?_|refine qa7 qv2 ?_|refine qa7 qv3 ?_|refine qa7 (qv4 tok) ?_|refine qa7 (qv5 tok) ?_|refine qa7 qv6 ?_|refine qa7 qv7 ?_|refine qa7 (qv8 tok) ?_|refine qa7 (qv9 tok) ?_|refine qa7 (qv10 tok) ?_|refine qa7 (qv11 tok) ?_|refine qa7 (qv12 tok) ?_|refine qa7 (qv13 tok) ?_|refine qa7 (qv14 tok) ?_|refine qa7 (qv15 tok) ?_|refine qa7 (qv16 tok) ?_|refine qa7 qv17 ?_|refine qa7 (qv18 tok) ?_|refine qa7 qv19 ?_|refine qa7 (qv20 tok) ?_|refine qa7 (qv21 tok) ?_|refine qa7 (qv22 tok) ?_|refine qa7 (qv23 tok) ?_|refine qa7 (qv24 tok) ?_|refine qa7 qv26 ?_|refine qa7 qv27 ?_|refine qa7 (qv28 tok) ?_|refine qa1 tok ?_|refine qa2 tok ?_|refine qa3 tok ?_|refine AL.loadR tok rfl rfl rfl rfl rfl rfl ?_|refine qa4 tok ?_|refine qa5 tok ?_|refine AW.block ?_|refine AW.exit ?_|refine AW.skip ?_|((fail_if_success (refine AL.guard (b := true) rfl rfl ?_ ?_)); (fail_if_success (refine AL.guard (b := false) rfl rfl ?_ ?_)); refine AL.guard rfl rfl (fun hg => ?_) (fun hg => ?_) <;> ((try simp only [DX] at hg) <;> (try first|(exfalso; omega)|exact absurd trivial hg|exact False.elim hg|exact absurd rfl hg)))|refine AW.condT rfl ?_|refine AW.condF rfl ?_|(refine AW.cond rfl (fun hg => ?_) (fun hg => ?_) <;> ((try simp only [DX] at hg) <;> (try first|(exfalso; omega)|exact absurd trivial hg|exact False.elim hg|exact absurd rfl hg))))
      all_goals (try simp only [DX] at *)
      all_goals try (exfalso; omega)
      refine AW.anyN mix [[], [], [], [1, 2], [1, 2, 3], [1, 2, 3, 4], [0, 1, 2, 3, 4, 5], [0, 1, 2, 3, 4, 5, 6], [0, 1, 2, 3, 4, 5, 6, 7], [0, 1, 2, 3, 4, 5, 6, 7], [0, 1, 2, 3, 4, 5, 6, 7], [0, 1, 2, 3, 4, 5, 6, 7, 8], [0, 1, 2, 3, 4, 5, 6, 7, 8, 9, 10, 11]] [[29, 30, 31, 32, 33], [28, 30], [28, 29], [28], [28], [28], [], [], [36, 37], [35, 37], [35, 36], [36, 37], []] [[], [], [], [], [], [], [], [], [], [2], [2], [], []] [(11, 2)] 3 16 rfl (by rfl) (by decide +kernel) rfl (by first|assumption|(intro b hb; cases hb)) ?_ <;> repeat' (first|refine AR.step rfl rfl (by first|exact OSp.do tok rfl rfl rfl|exact OSp.no rfl rfl|exact OSp.noN rfl|exact OSp.v rfl rfl qv1|exact OSp.v rfl rfl qv2|exact OSp.v rfl rfl qv3|exact OSp.v rfl rfl (qv4 tok)|exact OSp.v rfl rfl (qv5 tok)|exact OSp.v rfl rfl qv6|exact OSp.v rfl rfl qv7|exact OSp.v rfl rfl (qv8 tok)|exact OSp.v rfl rfl (qv9 tok)|exact OSp.v rfl rfl (qv10 tok)|exact OSp.v rfl rfl (qv11 tok)|exact OSp.v rfl rfl (qv12 tok)|exact OSp.v rfl rfl (qv13 tok)|exact OSp.v rfl rfl (qv14 tok)|exact OSp.v rfl rfl (qv15 tok)|exact OSp.v rfl rfl (qv16 tok)|exact OSp.v rfl rfl qv17|exact OSp.v rfl rfl (qv18 tok)|exact OSp.v rfl rfl qv19|exact OSp.v rfl rfl (qv20 tok)|exact OSp.v rfl rfl (qv21 tok)|exact OSp.v rfl rfl (qv22 tok)|exact OSp.v rfl rfl (qv23 tok)|exact OSp.v rfl rfl (qv24 tok)|exact OSp.v rfl rfl qv26|exact OSp.v rfl rfl qv27|exact OSp.v rfl rfl (qv28 tok)|exact OSp.copy tok rfl rfl rfl rfl rfl rfl rfl (by (first | (intro x hx; obtain ⟨_, _, rfl⟩ := List.mem_map.1 hx; rfl) | (intro x hx; replace hx := List.mem_of_mem_take (List.mem_of_mem_drop hx); obtain ⟨_, _, rfl⟩ := List.mem_map.1 hx; rfl) | (simp; done))) rfl rfl rfl rfl|exact OSp.buildSlice tok rfl rfl rfl rfl rfl rfl rfl rfl|exact OSp.append tok rfl rfl rfl rfl rfl rfl rfl rfl rfl rfl rfl (by first|(intro x hx; obtain ⟨_, _, rfl⟩ := List.mem_map.1 hx; rfl)|(simp; done)) (by simp; omega) (by simp; omega)|exact OSp.alloc tok rfl rfl rfl rfl|exact OSp.box tok rfl rfl rfl rfl rfl|exact OSp.boxC tok rfl rfl rfl rfl rfl|exact OSp.store tok rfl rfl rfl rfl rfl rfl rfl rfl|exact OSp.appIn tok rfl rfl rfl rfl rfl (by first|assumption|(intro e; have := congrArg List.length e; simp at this; omega)) rfl rfl (by (first | (intro x hx; obtain ⟨_, _, rfl⟩ := List.mem_map.1 hx; rfl) | (intro x hx; replace hx := List.mem_of_mem_take (List.mem_of_mem_drop hx); obtain ⟨_, _, rfl⟩ := List.mem_map.1 hx; rfl) | (simp; done))) rfl rfl rfl rfl (by first|omega|(simp; omega))|exact OSp.copyX tok rfl rfl rfl rfl rfl rfl rfl rfl (by first|omega|(simp; omega)) (by first|omega|(simp; omega)) (by first|omega|(simp; omega)) (by first|omega|(simp; omega)) (by first|omega|(simp; omega))|exact OSp.callS rfl rfl rfl rfl rfl rfl (t1 ..) rfl|exact OSp.callP rfl rfl rfl rfl rfl (t1 ..)|exact OSp.callO rfl rfl rfl rfl rfl (t1 ..)|exact OSp.callO rfl rfl rfl rfl rfl t1) (by rfl) (by rfl) ?_|refine AR.done rfl rfl ?_|(refine AR.guard rfl rfl rfl rfl (fun hg => ?_) (fun hg => ?_) <;> ((try simp only [DX] at hg) <;> (try first|(exfalso; omega)|exact absurd trivial hg|exact False.elim hg|exact absurd rfl hg))))
      repeat' (first|refine AL.do tok rfl rfl ?_|refine AL.nil ?_|refine AW.seq fun K hK => ?_|refine AW.region ?_|refine AL.no rfl rfl ?_|(refine hK _ ?_; clear hK)|(clear hK; refine hK _ ?_; clear hK)|(clear hK; clear hK; refine hK _ ?_; clear hK)|refine qa7 qv1 ?_|refine qa7 qv2 ?_|refine qa7 qv3 ?_|refine qa7 (qv4 tok) ?_|refine qa7 (qv5 tok) ?_|refine qa7 qv6 ?_|refine qa7 qv7 ?_|refine qa7 (qv8 tok) ?_|refine qa7 (qv9 tok) ?_|refine qa7 (qv10 tok) ?_|refine qa7 (qv11 tok) ?_|refine qa7 (qv12 tok) ?_|refine qa7 (qv13 tok) ?_|refine qa7 (qv14 tok) ?_|refine qa7 (qv15 tok) ?_|refine qa7 (qv16 tok) ?_|refine qa7 qv17 ?_|refine qa7 (qv18 tok) ?_|refine qa7 qv19 ?_|refine qa7 (qv20 tok) ?_|refine qa7 (qv21 tok) ?_|refine qa7 (qv22 tok) ?_|refine qa7 (qv23 tok) ?_|refine qa7 (qv24 tok) ?_|refine qa7 qv26 ?_|refine qa7 qv27 ?_|refine qa7 (qv28 tok) ?_|refine qa1 tok ?_|refine qa2 tok ?_|refine qa3 tok ?_|refine AL.loadR tok rfl rfl rfl rfl rfl rfl ?_|refine qa4 tok ?_|refine qa5 tok ?_|refine AW.block ?_|refine AW.exit ?_|refine AW.skip ?_|((fail_if_success (refine AL.guard (b := true) rfl rfl ?_ ?_)); (fail_if_success (refine AL.guard (b := false) rfl rfl ?_ ?_)); refine AL.guard rfl rfl (fun hg => ?_) (fun hg => ?_) <;> ((try simp only [DX] at hg) <;> (try first|(exfalso; omega)|exact absurd trivial hg|exact False.elim hg|exact absurd rfl hg)))|refine AW.condT rfl ?_|refine AW.condF rfl ?_|(refine AW.cond rfl (fun hg => ?_) (fun hg => ?_) <;> ((try simp only [DX] at hg) <;> (try first|(exfalso; omega)|exact absurd trivial hg|exact False.elim hg|exact absurd rfl hg))))
      all_goals (try simp only [DX] at *)
      · rw [if_pos hg] at hst
        subst hst
        refine hk2 _ ⟨by omega, by omega⟩ (by omega) ?_
        (refine Imp.weak id (fun _ _ _ _ h => h) (by first|assumption|(intro b hb; cases hb)) ?_ ?_ <;> (repeat' (first|exact trivial|exact Nat.lt_of_lt_of_le (Nat.lt_succ_self _) (Nat.le_of_ble_eq_true rfl)|exact rfl|exact Or.inl ⟨rfl, rfl⟩|exact Or.inr ⟨rfl, LF.fn _ _ ‹_›⟩|refine ⟨?_, ?_⟩)))
      · rw [if_neg hg] at hst
        subst hst
        refine hk2 _ ⟨by omega, by omega⟩ (by omega) ?_
        (refine Imp.weak id (fun _ _ _ _ h => h) (by first|assumption|(intro b hb; cases hb)) ?_ ?_ <;> (repeat' (first|exact trivial|exact Nat.lt_of_lt_of_le (Nat.lt_succ_self _) (Nat.le_of_ble_eq_true rfl)|exact rfl|exact Or.inl ⟨rfl, rfl⟩|exact Or.inr ⟨rfl, LF.fn _ _ ‹_›⟩|refine ⟨?_, ?_⟩)))
    · have hio := packet_calls w1 ops[i] (by omega) hoi
      have t1 := handleK_calls w1 ⟨ops[i].kind, pktId w1 ops[i], false, zeroM⟩ hG hO
      have hst : w2 = if pktId w1 ops[i] = q then w1 else if (handleS w1 ops[i].kind (pktId w1 ops[i])).2.2 = 0 then (handleS w1 ops[i].kind (pktId w1 ops[i])).1 else w1 := by rw [hs, stepO, if_neg hk]
      simp only at t1
      generalize handleS w1 ops[i].kind (pktId w1 ops[i]) = r at *
      obtain ⟨v, p, e⟩ := r
      replace t1 : ACallP Try.prog 16 [aggW w1, aggK ⟨ops[i].kind, pktId w1 ops[i], false, zeroM⟩] (.tup [aggW v, rowK p, i64 e]) := t1
      generalize pktId w1 ops[i] = y at *
      simp only at hst
      repeat' (first|refine AL.do tok rfl rfl ?_|refine AL.nil ?_|refine AW.seq fun K hK => ?_|refine AW.region ?_|refine AL.no rfl rfl ?_|(refine hK _ ?_; clear hK)|(clear hK; refine hK _ ?_; clear hK)|(clear hK; clear hK; refine hK _ ?_; clear hK)|refine qa7 qv1 ?_|refine qa7 qv2 ?_|refine qa7 qv3 ?_|refine qa7 (qv4 tok) ?_|refine qa7 (qv5 tok) ?_|refine qa7 qv6 ?_|refine qa7 qv7 ?_|refine qa7 (qv8 tok) ?_|refine qa7 (qv9 tok) ?_|refine qa7 (qv10 tok) ?_|refine qa7 (qv11 tok) ?_|refine qa7 (qv12 tok) ?_|refine qa7 (qv13 tok) ?_|refine qa7 (qv14 tok) ?_|refine qa7 (qv15 tok) ?_|refine qa7 (qv16 tok) ?_|refine qa7 qv17 ?_|refine qa7 (qv18 tok) ?_|refine qa7 qv19 ?_|refine qa7 (qv20 tok) ?_|refine qa7 (qv21 tok) ?_|refine qa7 (qv22 tok) ?_|refine qa7 (qv23 tok) ?_|refine qa7 (qv24 tok) ?_|refine qa7 qv26 ?_|refine qa7 qv27 ?_|refine qa7 (qv28 tok) ?_|refine qa1 tok ?_|refine qa2 tok ?_|refine qa3 tok ?_|refine AL.loadR tok rfl rfl rfl rfl rfl rfl ?_|refine qa4 tok ?_|refine qa5 tok ?_|refine AW.block ?_|refine AW.exit ?_|refine AW.skip ?_|((fail_if_success (refine AL.guard (b := true) rfl rfl ?_ ?_)); (fail_if_success (refine AL.guard (b := false) rfl rfl ?_ ?_)); refine AL.guard rfl rfl (fun hg => ?_) (fun hg => ?_) <;> ((try simp only [DX] at hg) <;> (try first|(exfalso; omega)|exact absurd trivial hg|exact False.elim hg|exact absurd rfl hg)))|refine AW.condT rfl ?_|refine AW.condF rfl ?_|(refine AW.cond rfl (fun hg => ?_) (fun hg => ?_) <;> ((try simp only [DX] at hg) <;> (try first|(exfalso; omega)|exact absurd trivial hg|exact False.elim hg|exact absurd rfl hg))))
      all_goals (try simp only [DX] at *)
      all_goals try (exfalso; omega)
      refine AW.anyN mix [[], [], [], [1, 2], [1, 2, 3], [0, 1, 2, 3, 4], [], [0, 1, 2, 3, 4, 5, 6]] [[10, 39, 40, 41, 42], [10, 38, 40], [10, 38, 39], [10, 38], [10, 38], [10], [38, 39, 40, 41, 42, 43], []] [[], [], [], [], [], [], [], []] [(7, 9)] 3 11 rfl (by rfl) (by decide +kernel) rfl (by first|assumption|(intro b hb; cases hb)) ?_ <;> repeat' (first|refine AR.step rfl rfl (by first|exact OSp.do tok rfl rfl rfl|exact OSp.no rfl rfl|exact OSp.noN rfl|exact OSp.v rfl rfl qv1|exact OSp.v rfl rfl qv2|exact OSp.v rfl rfl qv3|exact OSp.v rfl rfl (qv4 tok)|exact OSp.v rfl rfl (qv5 tok)|exact OSp.v rfl rfl qv6|exact OSp.v rfl rfl qv7|exact OSp.v rfl rfl (qv8 tok)|exact OSp.v rfl rfl (qv9 tok)|exact OSp.v rfl rfl (qv10 tok)|exact OSp.v rfl rfl (qv11 tok)|exact OSp.v rfl rfl (qv12 tok)|exact OSp.v rfl rfl (qv13 tok)|exact OSp.v rfl rfl (qv14 tok)|exact OSp.v rfl rfl (qv15 tok)|exact OSp.v rfl rfl (qv16 tok)|exact OSp.v rfl rfl qv17|exact OSp.v rfl rfl (qv18 tok)|exact OSp.v rfl rfl qv19|exact OSp.v rfl rfl (qv20 tok)|exact OSp.v rfl rfl (qv21 tok)|exact OSp.v rfl rfl (qv22 tok)|exact OSp.v rfl rfl (qv23 tok)|exact OSp.v rfl rfl (qv24 tok)|exact OSp.v rfl rfl qv26|exact OSp.v rfl rfl qv27|exact OSp.v rfl rfl (qv28 tok)|exact OSp.copy tok rfl rfl rfl rfl rfl rfl rfl (by (first | (intro x hx; obtain ⟨_, _, rfl⟩ := List.mem_map.1 hx; rfl) | (intro x hx; replace hx := List.mem_of_mem_take (List.mem_of_mem_drop hx); obtain ⟨_, _, rfl⟩ := List.mem_map.1 hx; rfl) | (simp; done))) rfl rfl rfl rfl|exact OSp.buildSlice tok rfl rfl rfl rfl rfl rfl rfl rfl|exact OSp.append tok rfl rfl rfl rfl rfl rfl rfl rfl rfl rfl rfl (by first|(intro x hx; obtain ⟨_, _, rfl⟩ := List.mem_map.1 hx; rfl)|(simp; done)) (by simp; omega) (by simp; omega)|exact OSp.alloc tok rfl rfl rfl rfl|exact OSp.box tok rfl rfl rfl rfl rfl|exact OSp.boxC tok rfl rfl rfl rfl rfl|exact OSp.store tok rfl rfl rfl rfl rfl rfl rfl rfl|exact OSp.appIn tok rfl rfl rfl rfl rfl (by first|assumption|(intro e; have := congrArg List.length e; simp at this; omega)) rfl rfl (by (first | (intro x hx; obtain ⟨_, _, rfl⟩ := List.mem_map.1 hx; rfl) | (intro x hx; replace hx := List.mem_of_mem_take (List.mem_of_mem_drop hx); obtain ⟨_, _, rfl⟩ := List.mem_map.1 hx; rfl) | (simp; done))) rfl rfl rfl rfl (by first|omega|(simp; omega))|exact OSp.copyX tok rfl rfl rfl rfl rfl rfl rfl rfl (by first|omega|(simp; omega)) (by first|omega|(simp; omega)) (by first|omega|(simp; omega)) (by first|omega|(simp; omega)) (by first|omega|(simp; omega))|exact OSp.callS rfl rfl rfl rfl rfl rfl (hio ..) rfl|exact OSp.callP rfl rfl rfl rfl rfl (hio ..)|exact OSp.callO rfl rfl rfl rfl rfl (hio ..)|exact OSp.callO rfl rfl rfl rfl rfl hio) (by rfl) (by rfl) ?_|refine AR.done rfl rfl ?_|(refine AR.guard rfl rfl rfl rfl (fun hg => ?_) (fun hg => ?_) <;> ((try simp only [DX] at hg) <;> (try first|(exfalso; omega)|exact absurd trivial hg|exact False.elim hg|exact absurd rfl hg))))
      repeat' (first|refine AL.do tok rfl rfl ?_|refine AL.nil ?_|refine AW.seq fun K hK => ?_|refine AW.region ?_|refine AL.no rfl rfl ?_|(refine hK _ ?_; clear hK)|(clear hK; refine hK _ ?_; clear hK)|(clear hK; clear hK; refine hK _ ?_; clear hK)|refine qa7 qv1 ?_|refine qa7 qv2 ?_|refine qa7 qv3 ?_|refine qa7 (qv4 tok) ?_|refine qa7 (qv5 tok) ?_|refine qa7 qv6 ?_|refine qa7 qv7 ?_|refine qa7 (qv8 tok) ?_|refine qa7 (qv9 tok) ?_|refine qa7 (qv10 tok) ?_|refine qa7 (qv11 tok) ?_|refine qa7 (qv12 tok) ?_|refine qa7 (qv13 tok) ?_|refine qa7 (qv14 tok) ?_|refine qa7 (qv15 tok) ?_|refine qa7 (qv16 tok) ?_|refine qa7 qv17 ?_|refine qa7 (qv18 tok) ?_|refine qa7 qv19 ?_|refine qa7 (qv20 tok) ?_|refine qa7 (qv21 tok) ?_|refine qa7 (qv22 tok) ?_|refine qa7 (qv23 tok) ?_|refine qa7 (qv24 tok) ?_|refine qa7 qv26 ?_|refine qa7 qv27 ?_|refine qa7 (qv28 tok) ?_|refine qa1 tok ?_|refine qa2 tok ?_|refine qa3 tok ?_|refine AL.loadR tok rfl rfl rfl rfl rfl rfl ?_|refine qa4 tok ?_|refine qa5 tok ?_|refine AW.block ?_|refine AW.exit ?_|refine AW.skip ?_|refine qc1 (t1 ..) ?_|refine qc2 (t1 ..) ?_|((fail_if_success (refine AL.guard (b := true) rfl rfl ?_ ?_)); (fail_if_success (refine AL.guard (b := false) rfl rfl ?_ ?_)); refine AL.guard rfl rfl (fun hg => ?_) (fun hg => ?_) <;> ((try simp only [DX] at hg) <;> (try first|(exfalso; omega)|exact absurd trivial hg|exact False.elim hg|exact absurd rfl hg)))|refine AW.condT rfl ?_|refine AW.condF rfl ?_|(refine AW.cond rfl (fun hg => ?_) (fun hg => ?_) <;> ((try simp only [DX] at hg) <;> (try first|(exfalso; omega)|exact absurd trivial hg|exact False.elim hg|exact absurd rfl hg))))
      all_goals (try simp only [DX] at *)
      · rw [if_pos hg] at hst
        subst hst
        refine hk2 _ ⟨by omega, by omega⟩ (by omega) ?_
        (refine Imp.weak id (fun _ _ _ _ h => h) (by first|assumption|(intro b hb; cases hb)) ?_ ?_ <;> (repeat' (first|exact trivial|exact Nat.lt_of_lt_of_le (Nat.lt_succ_self _) (Nat.le_of_ble_eq_true rfl)|exact rfl|exact Or.inl ⟨rfl, rfl⟩|exact Or.inr ⟨rfl, LF.fn _ _ ‹_›⟩|refine ⟨?_, ?_⟩)))
      · rw [if_neg (by assumption), if_pos hg] at hst
        subst hst
        refine hk2 _ ⟨by omega, by omega⟩ (by omega) ?_
        (refine Imp.weak id (fun _ _ _ _ h => h) (by first|assumption|(intro b hb; cases hb)) ?_ ?_ <;> (repeat' (first|exact trivial|exact Nat.lt_of_lt_of_le (Nat.lt_succ_self _) (Nat.le_of_ble_eq_true rfl)|exact rfl|exact Or.inl ⟨rfl, rfl⟩|exact Or.inr ⟨rfl, LF.fn _ _ ‹_›⟩|refine ⟨?_, ?_⟩)))
      · rw [if_neg (by assumption), if_neg hg] at hst
        subst hst
        refine hk2 _ ⟨by omega, by omega⟩ (by omega) ?_
        (refine Imp.weak id (fun _ _ _ _ h => h) (by first|assumption|(intro b hb; cases hb)) ?_ ?_ <;> (repeat' (first|exact trivial|exact Nat.lt_of_lt_of_le (Nat.lt_succ_self _) (Nat.le_of_ble_eq_true rfl)|exact rfl|exact Or.inl ⟨rfl, rfl⟩|exact Or.inr ⟨rfl, LF.fn _ _ ‹_›⟩|refine ⟨?_, ?_⟩)))
  · repeat' (first|refine AL.do tok rfl rfl ?_|refine AL.nil ?_|refine AW.seq fun K hK => ?_|refine AW.region ?_|refine AL.no rfl rfl ?_|(refine hK _ ?_; clear hK)|(clear hK; refine hK _ ?_; clear hK)|(clear hK; clear hK; refine hK _ ?_; clear hK)|refine qa7 qv1 ?_|refine qa7 qv2 ?_|refine qa7 qv3 ?_|refine qa7 (qv4 tok) ?_|refine qa7 (qv5 tok) ?_|refine qa7 qv6 ?_|refine qa7 qv7 ?_|refine qa7 (qv8 tok) ?_|refine qa7 (qv9 tok) ?_|refine qa7 (qv10 tok) ?_|refine qa7 (qv11 tok) ?_|refine qa7 (qv12 tok) ?_|refine qa7 (qv13 tok) ?_|refine qa7 (qv14 tok) ?_|refine qa7 (qv15 tok) ?_|refine qa7 (qv16 tok) ?_|refine qa7 qv17 ?_|refine qa7 (qv18 tok) ?_|refine qa7 qv19 ?_|refine qa7 (qv20 tok) ?_|refine qa7 (qv21 tok) ?_|refine qa7 (qv22 tok) ?_|refine qa7 (qv23 tok) ?_|refine qa7 (qv24 tok) ?_|refine qa7 qv26 ?_|refine qa7 qv27 ?_|refine qa7 (qv28 tok) ?_|refine qa1 tok ?_|refine qa2 tok ?_|refine qa3 tok ?_|refine AL.loadR tok rfl rfl rfl rfl rfl rfl ?_|refine qa4 tok ?_|refine qa5 tok ?_|refine AW.block ?_|refine AW.exit ?_|refine AW.skip ?_|((fail_if_success (refine AL.guard (b := true) rfl rfl ?_ ?_)); (fail_if_success (refine AL.guard (b := false) rfl rfl ?_ ?_)); refine AL.guard rfl rfl (fun hg => ?_) (fun hg => ?_) <;> ((try simp only [DX] at hg) <;> (try first|(exfalso; omega)|exact absurd trivial hg|exact False.elim hg|exact absurd rfl hg)))|refine AW.condT rfl ?_|refine AW.condF rfl ?_|(refine AW.cond rfl (fun hg => ?_) (fun hg => ?_) <;> ((try simp only [DX] at hg) <;> (try first|(exfalso; omega)|exact absurd trivial hg|exact False.elim hg|exact absurd rfl hg))))
    all_goals (try simp only [DX] at *)
    all_goals try (exfalso; omega)
    all_goals
      refine AW.ret ?_
      refine ⟨_, _, _, _, rfl, Out.pure rfl ⟨?_, rfl⟩ rfl⟩
      rw [← hE i hi hi30 hlt]
end Go.Proofs.Try
