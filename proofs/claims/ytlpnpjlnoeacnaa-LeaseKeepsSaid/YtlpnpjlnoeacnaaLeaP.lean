/- lease: the law LeaseKeeps. -/
import Derived.Test.YtlpnpjlnoeacnaaLeaO
import Derived.Test.YtlpnpjlnoeacnaaAM65
import Derived.Test.YtlpnpjlnoeacnaaWk
set_option linter.unusedSimpArgs false
set_option linter.unusedVariables false
namespace Go.Proofs.Try
open Go Go.AM

/-- What a Settle that succeeds does. -/
theorem settle_cases (l : List Le) (a b : Int) (all : Bool) : (∃ p : Le → Bool, settleS l a b all = (l.filter (fun x => !p x), l.filter p, 0) ∧ (∀ x, p x = true → x.own = a ∧ x.tag ≤ b) ∧ (∃ y ∈ l, p y = true ∧ y.tag = b) ∧ (all = false → ∀ x, p x = true → x.tag = b) ∧ (all = true → ∀ x, x.own = a → x.tag ≤ b → p x = true)) ∨ (settleS l a b all).2.2 ≠ 0 := by
  unfold settleS
  split
  · exact .inr (by decide)
  · rename_i h
    obtain ⟨y, hy⟩ := List.exists_mem_of_ne_nil _ h
    obtain ⟨hy1, hy2⟩ := List.mem_filter.1 hy
    simp only [isOne, Bool.and_eq_true, decide_eq_true_eq] at hy2
    cases all with
    | true =>
      rw [if_pos rfl]
      refine .inl ⟨isUp a b, rfl, fun x hx => (by simpa [isUp] using hx), ⟨y, hy1, (by simp [isUp, hy2]), hy2.2⟩, fun h => (by cases h), fun _ x h1 h2 => (by simp [isUp, h1, h2])⟩
    | false =>
      rw [if_neg (by decide)]
      refine .inl ⟨isOne a b, rfl, fun x hx => ?_, ⟨y, hy1, (by simp [isOne, hy2]), hy2.2⟩, fun _ x hx => ?_, fun h => (by cases h)⟩
      · simp only [isOne, Bool.and_eq_true, decide_eq_true_eq] at hx
        exact ⟨hx.1, by omega⟩
      · simp only [isOne, Bool.and_eq_true, decide_eq_true_eq] at hx
        exact hx.2
theorem last_tag {l : List Le} (h : l.Pairwise fun a b => a.tag < b.tag) {b : Int} (h1 : ∀ x ∈ l, x.tag ≤ b) (h2 : ∃ y ∈ l, y.tag = b) (h0 : 0 < l.length) : (l[l.length - 1]'(by omega)).tag = b := by
  obtain ⟨y, hy, rfl⟩ := h2
  have h3 := h1 _ (List.getElem_mem (show l.length - 1 < l.length by omega))
  obtain ⟨i, hi, rfl⟩ := List.mem_iff_getElem.1 hy
  rcases Nat.lt_or_ge i (l.length - 1) with h4 | h4
  · have := List.pairwise_iff_getElem.1 h i (l.length - 1) hi (by omega) h4
    omega
  · have : i = l.length - 1 := by omega
    subst this
    rfl
theorem one_tag {l : List Le} (h : l.Pairwise fun a b => a.tag < b.tag) {b : Int} (h1 : ∀ x ∈ l, x.tag = b) (h0 : 0 < l.length) : l.length = 1 := by
  rcases Nat.lt_or_ge 1 l.length with h2 | h2
  · have h3 := List.pairwise_iff_getElem.1 h 0 1 (by omega) h2 (by omega)
    have h4 := h1 _ (List.getElem_mem (show 0 < l.length by omega))
    have h5 := h1 _ (List.getElem_mem h2)
    omega
  · omega
theorem count_app (l : List Le) (x : Le) (a : Int) (hx : x.own = a) : ((l ++ [x]).filter (isOwn a)).length = (l.filter (isOwn a)).length + 1 := by
  rw [List.filter_append, List.filter_cons_of_pos (by simp [hx]), List.length_append]
  rfl
theorem count_rest (l : List Le) (a : Int) : ((l.filter fun x => !isOwn a x).filter (isOwn a)).length = 0 := by
  rw [List.filter_filter, List.filter_eq_nil_iff.2]
  · rfl
  · intro x _
    cases isOwn a x <;> simp
set_option maxHeartbeats 64000000 in
set_option maxRecDepth 10000 in
theorem leaseKeeps_law (x0 x1 : AV) (h0 : AT ts 22 x0) (h1 : AT ts 45 x1) : ACallP Try.prog 6 [x0, x1] (bo true) := by
  obtain ⟨l, rfl, ho, ht, hl⟩ := at_Ls h0
  obtain ⟨o, rfl, hoo⟩ := at_OL1 h1
  have hlm : (l.map encL).length = l.length := List.length_map ..
  have ke := example_calls
  have kc := refCheckL_calls l ho
  by_cases hs : l.length ≤ 60 ∧ checkLs l = 0
  rotate_left
  · generalize checkLs l = cc at *
    refine ACalls.body tok Try.func6 rfl (by kernel_rfl) (by rw [Try.ntmps6]; simp) ?_
    simp only [Try.ntmps6, Try.results6, argT]
    repeat' (first|refine AL.do tok rfl rfl ?_|refine AL.nil ?_|refine AW.seq fun K hK => ?_|refine AW.region ?_|refine AL.no rfl rfl ?_|(refine hK _ ?_; clear hK)|(clear hK; refine hK _ ?_; clear hK)|(clear hK; clear hK; refine hK _ ?_; clear hK)|refine qaW ?_|refine qa1 tok ?_|refine qa2 tok ?_|refine qa3 tok ?_|refine AL.loadR tok rfl rfl rfl rfl rfl rfl ?_|refine qa4 tok ?_|refine qa5 tok ?_|refine AW.block ?_|refine AW.exit ?_|refine AW.skip ?_|refine qc1 (kc ..) ?_|refine qc2 (kc ..) ?_|refine qc1 (ke ..) ?_|refine qc2 (ke ..) ?_|((fail_if_success (refine AL.guard (b := true) rfl rfl ?_ ?_)); (fail_if_success (refine AL.guard (b := false) rfl rfl ?_ ?_)); refine AL.guard rfl rfl (fun hg => ?_) (fun hg => ?_) <;> ((try simp only [DX] at hg) <;> (try first|(exfalso; omega)|exact absurd trivial hg|exact False.elim hg|exact absurd rfl hg)))|refine AW.condT rfl ?_|refine AW.condF rfl ?_|(refine AW.cond rfl (fun hg => ?_) (fun hg => ?_) <;> ((try simp only [DX] at hg) <;> (try first|(exfalso; omega)|exact absurd trivial hg|exact False.elim hg|exact absurd rfl hg))))
    all_goals (try simp only [DX] at *)
    all_goals try (exfalso; first | exact hg | exact hg rfl | omega)
    all_goals
      refine AW.ret ?_
      refine ⟨_, _, _, _, rfl, Out.pure rfl ⟨?_, rfl⟩ rfl⟩
      rfl
  obtain ⟨hs1, hs2⟩ := hs
  have hgd := goodL_iff.1 hs2
  rw [hs2] at kc
  clear hs2
  have g1 := give_calls l o.tag o.own o.queue o.e (by omega) ho hoo.1
  have s1 := settle_calls l o.own o.tag o.all (by omega) ho
  have r1 := recall_calls l o.own (by omega) ho
  have n1 := count_calls l o.own (by omega)
  refine ACalls.body tok Try.func6 rfl (by kernel_rfl) (by rw [Try.ntmps6]; simp) ?_
  simp only [Try.ntmps6, Try.results6, argT]
  refine AW.seq fun K0 hK0 => ?_
  repeat (first|refine AL.do tok rfl rfl ?_|refine AL.nil ?_|refine AW.seq fun K hK => ?_|refine AW.region ?_|refine AL.no rfl rfl ?_|(refine hK _ ?_; clear hK)|(clear hK; refine hK _ ?_; clear hK)|(clear hK; clear hK; refine hK _ ?_; clear hK)|refine qaW ?_|refine qa1 tok ?_|refine qa2 tok ?_|refine qa3 tok ?_|refine AL.loadR tok rfl rfl rfl rfl rfl rfl ?_|refine qa4 tok ?_|refine qa5 tok ?_|refine AW.block ?_|refine AW.exit ?_|refine AW.skip ?_)
  refine hK0 _ ?_
  clear hK0
  refine AW.seq fun K0 hK0 => ?_
  repeat' (first|refine AL.do tok rfl rfl ?_|refine AL.nil ?_|refine AW.seq fun K hK => ?_|refine AW.region ?_|refine AL.no rfl rfl ?_|(refine hK _ ?_; clear hK)|(clear hK; refine hK _ ?_; clear hK)|(clear hK; clear hK; refine hK _ ?_; clear hK)|refine qaW ?_|refine qa1 tok ?_|refine qa2 tok ?_|refine qa3 tok ?_|refine AL.loadR tok rfl rfl rfl rfl rfl rfl ?_|refine qa4 tok ?_|refine qa5 tok ?_|refine AW.block ?_|refine AW.exit ?_|refine AW.skip ?_|refine qc1 (kc ..) ?_|refine qc2 (kc ..) ?_|((fail_if_success (refine AL.guard (b := true) rfl rfl ?_ ?_)); (fail_if_success (refine AL.guard (b := false) rfl rfl ?_ ?_)); refine AL.guard rfl rfl (fun hg => ?_) (fun hg => ?_) <;> ((try simp only [DX] at hg) <;> (try first|(exfalso; omega)|exact absurd trivial hg|exact False.elim hg|exact absurd rfl hg)))|refine AW.condT rfl ?_|refine AW.condF rfl ?_|(refine AW.cond rfl (fun hg => ?_) (fun hg => ?_) <;> ((try simp only [DX] at hg) <;> (try first|(exfalso; omega)|exact absurd trivial hg|exact False.elim hg|exact absurd rfl hg))))
  all_goals (try simp only [DX] at *)
  all_goals try (exfalso; first | exact hg | exact hg rfl | omega)
  refine hK0 _ ?_
  clear hK0
  -- Give
  refine AW.seqS ⟨217, [(3, .ptr (.loc 0) 0), (0, rowL l)], [(0, some (.box 45 (cellsOL o)))], [], 1⟩ ?_ (fun K0 hK0 => ?_)
  rotate_left
  · by_cases he : (giveS l o.tag o.own o.queue o.e).2.2 = 0
    · obtain ⟨e1, hga⟩ := give_good hgd he
      rw [e1] at g1
      have hok : OkL (l ++ [giveL o.tag o.own o.queue o.e]) := fun x hx => by
        rcases List.mem_append.1 hx with hx | hx
        · exact ho x hx
        · rw [List.mem_singleton.1 hx]; exact hoo.1
      have k2 := refCheckL_calls _ hok
      rw [goodL_iff.2 hga] at k2
      have k3 := merged_calls l [giveL o.tag o.own o.queue o.e] (l ++ [giveL o.tag o.own o.queue o.e])
      rw [merged_app] at k3
      have k4 := count_calls (l ++ [giveL o.tag o.own o.queue o.e]) o.own (by simp; omega)
      rw [count_app l (giveL o.tag o.own o.queue o.e) o.own rfl] at k4
      have hat : -1 ≤ o.e.att ∧ o.e.att ≤ 1099511627775 := by
        rcases give_cases l o.tag o.own o.queue o.e with ⟨_, _, _, h3, _⟩ | ⟨h3, _⟩
        · have := ent_att h3; omega
        · exact absurd he h3
      have hfl : (l.filter (isOwn o.own)).length ≤ 60 := Nat.le_trans (List.length_filter_le _ _) hs1
      generalize (l.filter (isOwn o.own)).length = nn at *
      repeat' (first|refine AL.do tok rfl rfl ?_|refine AL.nil ?_|refine AW.seq fun K hK => ?_|refine AW.region ?_|refine AL.no rfl rfl ?_|(refine hK _ ?_; clear hK)|(clear hK; refine hK _ ?_; clear hK)|(clear hK; clear hK; refine hK _ ?_; clear hK)|refine qaW ?_|refine qa1 tok ?_|refine qa2 tok ?_|refine qa3 tok ?_|refine AL.loadR tok rfl rfl rfl rfl rfl rfl ?_|refine qa4 tok ?_|refine qa5 tok ?_|refine AW.block ?_|refine AW.exit ?_|refine AW.skip ?_|refine qc1 (g1 ..) ?_|refine qc2 (g1 ..) ?_|((fail_if_success (refine AL.guard (b := true) rfl rfl ?_ ?_)); (fail_if_success (refine AL.guard (b := false) rfl rfl ?_ ?_)); refine AL.guard rfl rfl (fun hg => ?_) (fun hg => ?_) <;> ((try simp only [DX] at hg) <;> (try first|(exfalso; omega)|exact absurd trivial hg|exact False.elim hg|exact absurd rfl hg)))|refine AW.condT rfl ?_|refine AW.condF rfl ?_|(refine AW.cond rfl (fun hg => ?_) (fun hg => ?_) <;> ((try simp only [DX] at hg) <;> (try first|(exfalso; omega)|exact absurd trivial hg|exact False.elim hg|exact absurd rfl hg))))
      all_goals (try simp only [DX] at *)
      all_goals try (exfalso; first | exact hg | exact hg rfl | omega)
      refine AW.anyN mix [[], [0], [0, 1], [0, 1, 2], [0, 1, 2, 3], [0, 1, 2, 3], [0, 1, 2, 3, 5], [0, 1, 2, 3], [0, 1, 2, 3, 4, 5, 6, 7], [0, 1, 2, 3, 4, 5, 6, 7, 8], [0, 1, 2, 3, 4, 5, 6, 7, 8, 9], [0, 1, 2, 3, 4, 5, 6, 7, 8, 9, 10], [0, 1, 2, 3, 4, 5, 6, 7, 8, 9, 10, 11], [0, 1, 2, 3, 4, 5, 6, 7, 8, 9, 10, 11, 12], [0, 1, 2, 3, 4, 5, 6, 7, 8, 9, 10, 11], [0, 1, 2, 3, 4, 5, 6, 7, 8, 9, 10, 11, 14], [0, 1, 2, 3, 4, 5, 6, 7, 8, 9, 10, 11, 12, 13, 14, 15], [0, 1, 2, 3, 4, 5, 6, 7, 8, 9, 10, 11, 12, 13, 14, 15, 16], [0, 1, 2, 3, 4, 5, 6, 7, 8, 9, 10, 11, 12, 13, 14, 15, 16, 17], [0, 1, 2, 3, 4, 5, 6, 7, 8, 9, 10, 11, 12, 13, 14, 15, 16, 17, 18], [0, 1, 2, 3, 4, 5, 6, 7, 8, 9, 10, 11, 12, 13, 14, 15, 16, 17, 18, 19], [0, 1, 2, 3, 4, 5, 6, 7, 8, 9, 10, 11, 12, 13, 14, 15, 16, 17, 18], [0, 1, 2, 3, 4, 5, 6, 7, 8, 9, 10, 11, 12, 13, 14, 15, 16, 17, 18, 21], [0, 1, 2, 3, 4, 5, 6, 7, 8, 9, 10, 11, 12, 13, 14, 15, 16, 17, 18, 19, 20, 21, 22], [0, 1, 2, 3, 4, 5, 6, 7, 8, 9, 10, 11, 12, 13, 14, 15, 16, 17, 18, 19, 20, 21, 22, 23], [0, 1, 2, 3, 4, 5, 6, 7, 8, 9, 10, 11, 12, 13, 14, 15, 16, 17, 18, 19, 20, 21, 22, 23, 24], [0, 1, 2, 3, 4, 5, 6, 7, 8, 9, 10, 11, 12, 13, 14, 15, 16, 17, 18, 19, 20, 21, 22, 23, 24, 25], [0, 1, 2, 3, 4, 5, 6, 7, 8, 9, 10, 11, 12, 13, 14, 15, 16, 17, 18, 19, 20, 21, 22, 23, 24, 25, 26], [0, 1, 2, 3, 4, 5, 6, 7, 8, 9, 10, 11, 12, 13, 14, 15, 16, 17, 18, 19, 20, 21, 22, 23, 24, 25, 26, 27], [0, 1, 2, 3, 4, 5, 6, 7, 8, 9, 10, 11, 12, 13, 14, 15, 16, 17, 18, 19, 20, 21, 22, 23, 24, 25], [0, 1, 2, 3, 4, 5, 6, 7, 8, 9, 10, 11, 12, 13, 14, 15, 16, 17, 18, 19, 20, 21, 22, 23, 24, 25, 29], [0, 1, 2, 3, 4, 5, 6, 7, 8, 9, 10, 11, 12, 13, 14, 15, 16, 17, 18, 19, 20, 21, 22, 23, 24, 25, 29, 30], [0, 1, 2, 3, 4, 5, 6, 7, 8, 9, 10, 11, 12, 13, 14, 15, 16, 17, 18, 19, 20, 21, 22, 23, 24, 25, 29, 30, 31], [0, 1, 2, 3, 4, 5, 6, 7, 8, 9, 10, 11, 12, 13, 14, 15, 16, 17, 18, 19, 20, 21, 22, 23, 24, 25, 26, 27, 28, 29, 30, 31, 32], [0, 1, 2, 3, 4, 5, 6, 7, 8, 9, 10, 11, 12, 13, 14, 15, 16, 17, 18, 19, 20, 21, 22, 23, 24, 25, 26, 27, 28, 29, 30, 31, 32, 33], [0, 1, 2, 3, 4, 5, 6, 7, 8, 9, 10, 11, 12, 13, 14, 15, 16, 17, 18, 19, 20, 21, 22, 23, 24, 25, 26, 27, 28, 29, 30, 31, 32, 33, 34], [0, 1, 2, 3, 4, 5, 6, 7, 8, 9, 10, 11, 12, 13, 14, 15, 16, 17, 18, 19, 20, 21, 22, 23, 24, 25, 26, 27, 28, 29, 30, 31, 32, 33, 34, 35], [0, 1, 2, 3, 4, 5, 6, 7, 8, 9, 10, 11, 12, 13, 14, 15, 16, 17, 18, 19, 20, 21, 22, 23, 24, 25, 26, 27, 28, 29, 30, 31, 32, 33, 34, 35], [0, 1, 2, 3, 4, 5, 6, 7, 8, 9, 10, 11, 12, 13, 14, 15, 16, 17, 18, 19, 20, 21, 22, 23, 24, 25, 26, 27, 28, 29, 30, 31, 32, 33, 34, 35, 37], [0, 1, 2, 3, 4, 5, 6, 7, 8, 9, 10, 11, 12, 13, 14, 15, 16, 17, 18, 19, 20, 21, 22, 23, 24, 25, 26, 27, 28, 29, 30, 31, 32, 33, 34, 35, 36, 37, 38], [0, 1, 2, 3, 4, 5, 6, 7, 8, 9, 10, 11, 12, 13, 14, 15, 16, 17, 18, 19, 20, 21, 22, 23, 24, 25, 26, 27, 28, 29, 30, 31, 32, 33, 34, 35], [0, 1, 2, 3, 4, 5, 6, 7, 8, 9, 10, 11, 12, 13, 14, 15, 16, 17, 18, 19, 20, 21, 22, 23, 24, 25, 26, 27, 28, 29, 30, 31, 32, 33, 34, 35], [0, 1, 2, 3, 4, 5, 6, 7, 8, 9, 10, 11, 12, 13, 14, 15, 16, 17, 18, 19, 20, 21, 22, 23, 24, 25, 26, 27, 28, 29, 30, 31, 32, 33, 34, 35, 41], [0, 1, 2, 3, 4, 5, 6, 7, 8, 9, 10, 11, 12, 13, 14, 15, 16, 17, 18, 19, 20, 21, 22, 23, 24, 25, 26, 27, 28, 29, 30, 31, 32, 33, 34, 35, 36, 37, 38, 39, 40, 41, 42], [0, 1, 2, 3, 4, 5, 6, 7, 8, 9, 10, 11, 12, 13, 14, 15, 16, 17, 18, 19, 20, 21, 22, 23, 24, 25, 26, 27, 28, 29, 30, 31, 32, 33, 34, 35, 36, 37, 38, 39, 40, 41, 42, 43], [0, 1, 2, 3, 4, 5, 6, 7, 8, 9, 10, 11, 12, 13, 14, 15, 16, 17, 18, 19, 20, 21, 22, 23, 24, 25, 26, 27, 28, 29, 30, 31, 32, 33, 34, 35, 36, 37, 38, 39, 40, 41, 42, 43, 44], [0, 1, 2, 3, 4, 5, 6, 7, 8, 9, 10, 11, 12, 13, 14, 15, 16, 17, 18, 19, 20, 21, 22, 23, 24, 25, 26, 27, 28, 29, 30, 31, 32, 33, 34, 35, 36, 37, 38, 39, 40, 41, 42, 43, 44, 45]] [[], [], [], [], [47, 48, 49], [46, 49], [46, 49], [46, 47, 48], [], [], [], [], [56, 57], [56, 57], [54, 55], [54, 55], [], [], [], [63, 64], [63, 64], [61, 62], [61, 62], [], [], [], [71, 72, 73, 74], [71, 72, 73, 74], [71, 72, 73, 74], [68, 69, 70], [68, 69, 70], [68, 69, 70], [68, 69, 70], [], [], [], [79, 80, 82, 83, 84], [78, 82, 83, 84], [78, 82, 83, 84], [82, 83, 84], [78, 79, 80, 81, 83, 84], [78, 79, 80, 81, 82], [78, 79, 80, 81, 82], [], [], [], []] [[], [], [], [], [], [], [], [], [], [], [], [], [], [], [], [], [], [], [], [], [], [], [], [], [], [], [], [], [], [], [], [], [], [], [], [], [], [], [], [], [], [], [], [], [], [], []] [] 2 49 rfl (by rfl) (by decide +kernel) rfl (by first|assumption|(intro b hb; cases hb)) ?_ <;> repeat' (first|refine AR.step rfl rfl (by first|exact OSp.do tok rfl rfl rfl|exact OSp.no rfl rfl|exact OSp.noN rfl|exact qoW|exact OSp.copy tok rfl rfl rfl rfl rfl rfl rfl (by (first | (intro x hx; obtain ⟨_, _, rfl⟩ := List.mem_map.1 hx; rfl) | (intro x hx; replace hx := List.mem_of_mem_take (List.mem_of_mem_drop hx); obtain ⟨_, _, rfl⟩ := List.mem_map.1 hx; rfl) | (simp; done))) rfl rfl rfl rfl|exact OSp.buildSlice tok rfl rfl rfl rfl rfl rfl rfl rfl|exact OSp.append tok rfl rfl rfl rfl rfl rfl rfl rfl rfl rfl rfl (by first|(intro x hx; obtain ⟨_, _, rfl⟩ := List.mem_map.1 hx; rfl)|(simp; done)) (by simp; omega) (by simp; omega)|exact OSp.alloc tok rfl rfl rfl rfl|exact OSp.box tok rfl rfl rfl rfl rfl|exact OSp.boxC tok rfl rfl rfl rfl rfl|exact OSp.store tok rfl rfl rfl rfl rfl rfl rfl rfl|exact OSp.appIn tok rfl rfl rfl rfl rfl (by first|assumption|(intro e; have := congrArg List.length e; simp at this; omega)) rfl rfl (by (first | (intro x hx; obtain ⟨_, _, rfl⟩ := List.mem_map.1 hx; rfl) | (intro x hx; replace hx := List.mem_of_mem_take (List.mem_of_mem_drop hx); obtain ⟨_, _, rfl⟩ := List.mem_map.1 hx; rfl) | (simp; done))) rfl rfl rfl rfl (by first|omega|(simp; omega))|exact OSp.copyX tok rfl rfl rfl rfl rfl rfl rfl rfl (by first|omega|(simp; omega)) (by first|omega|(simp; omega)) (by first|omega|(simp; omega)) (by first|omega|(simp; omega)) (by first|omega|(simp; omega))|exact OSp.callS rfl rfl rfl rfl rfl rfl (k2 ..) rfl|exact OSp.callP rfl rfl rfl rfl rfl (k2 ..)|exact OSp.callO rfl rfl rfl rfl rfl (k2 ..)|exact OSp.callO rfl rfl rfl rfl rfl k2|exact OSp.callS rfl rfl rfl rfl rfl rfl (k3 ..) rfl|exact OSp.callP rfl rfl rfl rfl rfl (k3 ..)|exact OSp.callO rfl rfl rfl rfl rfl (k3 ..)|exact OSp.callO rfl rfl rfl rfl rfl k3|exact OSp.callS rfl rfl rfl rfl rfl rfl (k4 ..) rfl|exact OSp.callP rfl rfl rfl rfl rfl (k4 ..)|exact OSp.callO rfl rfl rfl rfl rfl (k4 ..)|exact OSp.callO rfl rfl rfl rfl rfl k4|exact OSp.callS rfl rfl rfl rfl rfl rfl (n1 ..) rfl|exact OSp.callP rfl rfl rfl rfl rfl (n1 ..)|exact OSp.callO rfl rfl rfl rfl rfl (n1 ..)|exact OSp.callO rfl rfl rfl rfl rfl n1) (by rfl) (by rfl) ?_|refine AR.done rfl rfl ?_|(refine AR.guard rfl rfl rfl rfl (fun hg => ?_) (fun hg => ?_) <;> ((try simp only [DX] at hg) <;> (try first|(exfalso; omega)|exact absurd trivial hg|exact False.elim hg|exact absurd rfl hg))))
      repeat (first|refine AL.do tok rfl rfl ?_|refine AL.nil ?_|refine AW.seq fun K hK => ?_|refine AW.region ?_|refine AL.no rfl rfl ?_|(refine hK _ ?_; clear hK)|(clear hK; refine hK _ ?_; clear hK)|(clear hK; clear hK; refine hK _ ?_; clear hK)|refine qaW ?_|refine qa1 tok ?_|refine qa2 tok ?_|refine qa3 tok ?_|refine AL.loadR tok rfl rfl rfl rfl rfl rfl ?_|refine qa4 tok ?_|refine qa5 tok ?_|refine AW.block ?_|refine AW.exit ?_|refine AW.skip ?_)
      refine AW.cond rfl (fun hg => by simp at hg) (fun hg => ?_)
      repeat (first|refine AL.do tok rfl rfl ?_|refine AL.nil ?_|refine AW.seq fun K hK => ?_|refine AW.region ?_|refine AL.no rfl rfl ?_|(refine hK _ ?_; clear hK)|(clear hK; refine hK _ ?_; clear hK)|(clear hK; clear hK; refine hK _ ?_; clear hK)|refine qaW ?_|refine qa1 tok ?_|refine qa2 tok ?_|refine qa3 tok ?_|refine AL.loadR tok rfl rfl rfl rfl rfl rfl ?_|refine qa4 tok ?_|refine qa5 tok ?_|refine AW.block ?_|refine AW.exit ?_|refine AW.skip ?_)
      refine hK0 _ ?_
      (refine Imp.weak id (fun _ _ _ _ h => h) (by first|assumption|(intro b hb; cases hb)) ?_ ?_ <;> (repeat' (first|exact trivial|exact Nat.lt_of_lt_of_le (Nat.lt_succ_self _) (Nat.le_of_ble_eq_true rfl)|exact rfl|exact Or.inl ⟨rfl, rfl⟩|exact Or.inr ⟨rfl, LF.fn _ _ ‹_›⟩|refine ⟨?_, ?_⟩)))
    · generalize giveS l o.tag o.own o.queue o.e = gg at *
      repeat' (first|refine AL.do tok rfl rfl ?_|refine AL.nil ?_|refine AW.seq fun K hK => ?_|refine AW.region ?_|refine AL.no rfl rfl ?_|(refine hK _ ?_; clear hK)|(clear hK; refine hK _ ?_; clear hK)|(clear hK; clear hK; refine hK _ ?_; clear hK)|refine qaW ?_|refine qa1 tok ?_|refine qa2 tok ?_|refine qa3 tok ?_|refine AL.loadR tok rfl rfl rfl rfl rfl rfl ?_|refine qa4 tok ?_|refine qa5 tok ?_|refine AW.block ?_|refine AW.exit ?_|refine AW.skip ?_|refine qc1 (g1 ..) ?_|refine qc2 (g1 ..) ?_|((fail_if_success (refine AL.guard (b := true) rfl rfl ?_ ?_)); (fail_if_success (refine AL.guard (b := false) rfl rfl ?_ ?_)); refine AL.guard rfl rfl (fun hg => ?_) (fun hg => ?_) <;> ((try simp only [DX] at hg) <;> (try first|(exfalso; omega)|exact absurd trivial hg|exact False.elim hg|exact absurd rfl hg)))|refine AW.condT rfl ?_|refine AW.condF rfl ?_|(refine AW.cond rfl (fun hg => ?_) (fun hg => ?_) <;> ((try simp only [DX] at hg) <;> (try first|(exfalso; omega)|exact absurd trivial hg|exact False.elim hg|exact absurd rfl hg))))
      all_goals (try simp only [DX] at *)
      all_goals try (exfalso; first | exact hg | exact hg rfl | omega | contradiction)
      refine hK0 _ ?_
      (refine Imp.weak id (fun _ _ _ _ h => h) (by first|assumption|(intro b hb; cases hb)) ?_ ?_ <;> (repeat' (first|exact trivial|exact Nat.lt_of_lt_of_le (Nat.lt_succ_self _) (Nat.le_of_ble_eq_true rfl)|exact rfl|exact Or.inl ⟨rfl, rfl⟩|exact Or.inr ⟨rfl, LF.fn _ _ ‹_›⟩|refine ⟨?_, ?_⟩)))
  -- Settle
  refine AW.seqS ⟨217, [(3, .ptr (.loc 0) 0), (0, rowL l)], [(0, some (.box 45 (cellsOL o)))], [], 1⟩ ?_ (fun K0 hK0 => ?_)
  rotate_left
  · rcases settle_cases l o.own o.tag o.all with ⟨p, e1, p1, p2, p3, p4⟩ | he
    · rw [e1] at s1
      have hsub := hgd.sub (List.filter_sublist (p := fun x => !p x) (l := l))
      have hok : OkL (l.filter fun x => !p x) := fun x hx => ho x (List.mem_filter.1 hx).1
      have k2 := refCheckL_calls _ hok
      rw [goodL_iff.2 hsub] at k2
      have k3 := merged_calls (l.filter fun x => !p x) (l.filter p) l
      rw [merged_filter] at k3
      have hout := hgd.sub (List.filter_sublist (p := p) (l := l))
      have q1 : ∀ x ∈ l.filter p, x.own = o.own ∧ x.tag ≤ o.tag := fun x hx => p1 x (List.mem_filter.1 hx).2
      have q2 : ∃ y ∈ l.filter p, y.tag = o.tag := by
        obtain ⟨y, y1, y2, y3⟩ := p2
        exact ⟨y, List.mem_filter.2 ⟨y1, y2⟩, y3⟩
      have q3 : o.all = false → ∀ x ∈ l.filter p, x.tag = o.tag := fun h x hx => p3 h x (List.mem_filter.1 hx).2
      have q4 : o.all = true → ∀ x ∈ l.filter (fun x => !p x), ¬ (x.own = o.own ∧ x.tag ≤ o.tag) := fun h x hx hc => by
        have h1 := p4 h x hc.1 hc.2
        have h2 := (List.mem_filter.1 hx).2
        rw [h1] at h2
        cases h2
      have f1 : (l.filter p).length ≤ 60 := Nat.le_trans (List.length_filter_le _ _) hs1
      have f2 : (l.filter fun x => !p x).length ≤ 60 := Nat.le_trans (List.length_filter_le _ _) hs1
      generalize l.filter p = out at *
      generalize (l.filter fun x => !p x) = rest at *
      have ham : (out.map encL).length = out.length := List.length_map ..
      have hrm : (rest.map encL).length = rest.length := List.length_map ..
      have hpos : 0 < out.length := by
        obtain ⟨y, hy, _⟩ := q2
        exact List.length_pos_of_mem hy
      have hlast := last_tag hout.ord (fun x hx => (q1 x hx).2) q2 hpos
      have hone : o.all = false → out.length = 1 := fun h => one_tag hout.ord (q3 h) hpos
      have hix : (((out.map encL).length : Int) - 1).toNat = out.length - 1 := by omega
      have hlt2 : ∀ m : Nat, m = out.length - 1 → ∀ h : m < out.length, out[m].tag = o.tag := fun m h1 h2 => by subst h1; exact hlast
      clear e1 p1 p2 p3 p4
      repeat' (first|refine AL.do tok rfl rfl ?_|refine AL.nil ?_|refine AW.seq fun K hK => ?_|refine AW.region ?_|refine AL.no rfl rfl ?_|(refine hK _ ?_; clear hK)|(clear hK; refine hK _ ?_; clear hK)|(clear hK; clear hK; refine hK _ ?_; clear hK)|refine qaW ?_|refine qa1 tok ?_|refine qa2 tok ?_|refine qa3 tok ?_|refine AL.loadR tok rfl rfl rfl rfl rfl rfl ?_|refine qa4 tok ?_|refine qa5 tok ?_|refine AW.block ?_|refine AW.exit ?_|refine AW.skip ?_|refine qc1 (s1 ..) ?_|refine qc2 (s1 ..) ?_|((fail_if_success (refine AL.guard (b := true) rfl rfl ?_ ?_)); (fail_if_success (refine AL.guard (b := false) rfl rfl ?_ ?_)); refine AL.guard rfl rfl (fun hg => ?_) (fun hg => ?_) <;> ((try simp only [DX] at hg) <;> (try first|(exfalso; omega)|exact absurd trivial hg|exact False.elim hg|exact absurd rfl hg)))|refine AW.condT rfl ?_|refine AW.condF rfl ?_|(refine AW.cond rfl (fun hg => ?_) (fun hg => ?_) <;> ((try simp only [DX] at hg) <;> (try first|(exfalso; omega)|exact absurd trivial hg|exact False.elim hg|exact absurd rfl hg))))
      all_goals (try simp only [DX] at *)
      all_goals try (exfalso; first | exact hg | exact hg rfl | omega)
      refine AW.drawn mix (by kernel_rfl) ?_
      repeat' (first|refine AQ.do tok rfl rfl rfl ?_|refine AQ.no rfl rfl ?_|refine qqW ?_|refine AQ.nil ?_|refine AQ.callB rfl rfl rfl rfl rfl rfl (k2 ..) rfl ?_|refine AQ.callB rfl rfl rfl rfl rfl rfl (k3 ..) rfl ?_|(refine AQ.guard rfl rfl (fun hg => ?_) (fun hg => ?_) <;> ((try simp only [DX] at hg) <;> (try first|(exfalso; omega)|exact absurd trivial hg|exact False.elim hg|exact absurd rfl hg))))
      all_goals (try simp only [DX] at *)
      all_goals try (exfalso; first | omega | (have := hlt2 _ hix (by omega); omega) | (have := hone (by simpa using ‹_›); omega))
      all_goals
        repeat (first|refine AL.do tok rfl rfl ?_|refine AL.nil ?_|refine AW.seq fun K hK => ?_|refine AW.region ?_|refine AL.no rfl rfl ?_|(refine hK _ ?_; clear hK)|(clear hK; refine hK _ ?_; clear hK)|(clear hK; clear hK; refine hK _ ?_; clear hK)|refine qaW ?_|refine qa1 tok ?_|refine qa2 tok ?_|refine qa3 tok ?_|refine AL.loadR tok rfl rfl rfl rfl rfl rfl ?_|refine qa4 tok ?_|refine qa5 tok ?_|refine AW.block ?_|refine AW.exit ?_|refine AW.skip ?_)
        refine AW.cond rfl (fun hg => ?_) (fun hg => ?_)
        · exfalso
          simp at hg
          try (have := hone (by assumption); omega)
        repeat (first|refine AL.do tok rfl rfl ?_|refine AL.nil ?_|refine AW.seq fun K hK => ?_|refine AW.region ?_|refine AL.no rfl rfl ?_|(refine hK _ ?_; clear hK)|(clear hK; refine hK _ ?_; clear hK)|(clear hK; clear hK; refine hK _ ?_; clear hK)|refine qaW ?_|refine qa1 tok ?_|refine qa2 tok ?_|refine qa3 tok ?_|refine AL.loadR tok rfl rfl rfl rfl rfl rfl ?_|refine qa4 tok ?_|refine qa5 tok ?_|refine AW.block ?_|refine AW.exit ?_|refine AW.skip ?_)
        (try simp only [ham])
        refine AW.loop (ι := Nat) (fun i => ⟨217, [(142, i64 i), (141, i64 out.length), (140, rowL out), (8, rowL rest), (3, .ptr (.loc 0) 0), (0, rowL l)], [(0, some (.box 45 (cellsOL o)))], [], 1⟩)
          (fun i => i ≤ out.length) (fun i => out.length - i) 0 (Nat.zero_le _) ?_ ?_
        · (refine Imp.weak id (fun _ _ _ _ h => h) (by first|assumption|(intro b hb; cases hb)) ?_ ?_ <;> (repeat' (first|exact trivial|exact Nat.lt_of_lt_of_le (Nat.lt_succ_self _) (Nat.le_of_ble_eq_true rfl)|exact rfl|exact Or.inl ⟨rfl, rfl⟩|exact Or.inr ⟨rfl, LF.fn _ _ ‹_›⟩|refine ⟨?_, ?_⟩)))
        rintro i hi K1 hK1
        by_cases hlt : i < out.length
        · have qx := q1 out[i] (List.getElem_mem hlt)
          repeat' (first|refine AL.do tok rfl rfl ?_|refine AL.nil ?_|refine AW.seq fun K hK => ?_|refine AW.region ?_|refine AL.no rfl rfl ?_|(refine hK _ ?_; clear hK)|(clear hK; refine hK _ ?_; clear hK)|(clear hK; clear hK; refine hK _ ?_; clear hK)|refine qaW ?_|refine qa1 tok ?_|refine qa2 tok ?_|refine qa3 tok ?_|refine AL.loadR tok rfl rfl rfl rfl rfl rfl ?_|refine qa4 tok ?_|refine qa5 tok ?_|refine AW.block ?_|refine AW.exit ?_|refine AW.skip ?_|((fail_if_success (refine AL.guard (b := true) rfl rfl ?_ ?_)); (fail_if_success (refine AL.guard (b := false) rfl rfl ?_ ?_)); refine AL.guard rfl rfl (fun hg => ?_) (fun hg => ?_) <;> ((try simp only [DX] at hg) <;> (try first|(exfalso; omega)|exact absurd trivial hg|exact False.elim hg|exact absurd rfl hg)))|refine AW.condT rfl ?_|refine AW.condF rfl ?_|(refine AW.cond rfl (fun hg => ?_) (fun hg => ?_) <;> ((try simp only [DX] at hg) <;> (try first|(exfalso; omega)|exact absurd trivial hg|exact False.elim hg|exact absurd rfl hg))))
          all_goals (try simp only [DX] at *)
          all_goals try (exfalso; omega)
          refine hK1 _ (i + 1) (by omega) (by omega) ?_
          (refine Imp.weak id (fun _ _ _ _ h => h) (by first|assumption|(intro b hb; cases hb)) ?_ ?_ <;> (repeat' (first|exact trivial|exact Nat.lt_of_lt_of_le (Nat.lt_succ_self _) (Nat.le_of_ble_eq_true rfl)|exact rfl|exact Or.inl ⟨rfl, rfl⟩|exact Or.inr ⟨rfl, LF.fn _ _ ‹_›⟩|refine ⟨?_, ?_⟩)))
        · obtain rfl : i = out.length := by omega
          repeat (first|refine AL.do tok rfl rfl ?_|refine AL.nil ?_|refine AW.seq fun K hK => ?_|refine AW.region ?_|refine AL.no rfl rfl ?_|(refine hK _ ?_; clear hK)|(clear hK; refine hK _ ?_; clear hK)|(clear hK; clear hK; refine hK _ ?_; clear hK)|refine qaW ?_|refine qa1 tok ?_|refine qa2 tok ?_|refine qa3 tok ?_|refine AL.loadR tok rfl rfl rfl rfl rfl rfl ?_|refine qa4 tok ?_|refine qa5 tok ?_|refine AW.block ?_|refine AW.exit ?_|refine AW.skip ?_)
          refine AW.cond rfl (fun hg => by simp at hg) (fun hg => ?_)
          repeat (first|refine AL.do tok rfl rfl ?_|refine AL.nil ?_|refine AW.seq fun K hK => ?_|refine AW.region ?_|refine AL.no rfl rfl ?_|(refine hK _ ?_; clear hK)|(clear hK; refine hK _ ?_; clear hK)|(clear hK; clear hK; refine hK _ ?_; clear hK)|refine qaW ?_|refine qa1 tok ?_|refine qa2 tok ?_|refine qa3 tok ?_|refine AL.loadR tok rfl rfl rfl rfl rfl rfl ?_|refine qa4 tok ?_|refine qa5 tok ?_|refine AW.block ?_|refine AW.exit ?_|refine AW.skip ?_)
          (try simp only [hrm])
          refine AW.loop (ι := Nat) (fun i => ⟨217, [(161, i64 i), (160, i64 rest.length), (159, rowL rest), (3, .ptr (.loc 0) 0), (0, rowL l)], [(0, some (.box 45 (cellsOL o)))], [], 1⟩)
            (fun i => i ≤ rest.length) (fun i => rest.length - i) 0 (Nat.zero_le _) ?_ ?_
          · (refine Imp.weak id (fun _ _ _ _ h => h) (by first|assumption|(intro b hb; cases hb)) ?_ ?_ <;> (repeat' (first|exact trivial|exact Nat.lt_of_lt_of_le (Nat.lt_succ_self _) (Nat.le_of_ble_eq_true rfl)|exact rfl|exact Or.inl ⟨rfl, rfl⟩|exact Or.inr ⟨rfl, LF.fn _ _ ‹_›⟩|refine ⟨?_, ?_⟩)))
          rintro i hi K1 hK1
          by_cases hlt : i < rest.length
          · have qx : o.all = true → ¬ (rest[i].own = o.own ∧ rest[i].tag ≤ o.tag) := fun h => q4 h rest[i] (List.getElem_mem hlt)
            repeat' (first|refine AL.do tok rfl rfl ?_|refine AL.nil ?_|refine AW.seq fun K hK => ?_|refine AW.region ?_|refine AL.no rfl rfl ?_|(refine hK _ ?_; clear hK)|(clear hK; refine hK _ ?_; clear hK)|(clear hK; clear hK; refine hK _ ?_; clear hK)|refine qaW ?_|refine qa1 tok ?_|refine qa2 tok ?_|refine qa3 tok ?_|refine AL.loadR tok rfl rfl rfl rfl rfl rfl ?_|refine qa4 tok ?_|refine qa5 tok ?_|refine AW.block ?_|refine AW.exit ?_|refine AW.skip ?_|((fail_if_success (refine AL.guard (b := true) rfl rfl ?_ ?_)); (fail_if_success (refine AL.guard (b := false) rfl rfl ?_ ?_)); refine AL.guard rfl rfl (fun hg => ?_) (fun hg => ?_) <;> ((try simp only [DX] at hg) <;> (try first|(exfalso; omega)|exact absurd trivial hg|exact False.elim hg|exact absurd rfl hg)))|refine AW.condT rfl ?_|refine AW.condF rfl ?_|(refine AW.cond rfl (fun hg => ?_) (fun hg => ?_) <;> ((try simp only [DX] at hg) <;> (try first|(exfalso; omega)|exact absurd trivial hg|exact False.elim hg|exact absurd rfl hg))))
            all_goals (try simp only [DX] at *)
            all_goals try (exfalso; first | omega | exact qx (by assumption) ⟨by assumption, by omega⟩)
            all_goals
              refine hK1 _ (i + 1) (by omega) (by omega) ?_
              (refine Imp.weak id (fun _ _ _ _ h => h) (by first|assumption|(intro b hb; cases hb)) ?_ ?_ <;> (repeat' (first|exact trivial|exact Nat.lt_of_lt_of_le (Nat.lt_succ_self _) (Nat.le_of_ble_eq_true rfl)|exact rfl|exact Or.inl ⟨rfl, rfl⟩|exact Or.inr ⟨rfl, LF.fn _ _ ‹_›⟩|refine ⟨?_, ?_⟩)))
          · obtain rfl : i = rest.length := by omega
            repeat (first|refine AL.do tok rfl rfl ?_|refine AL.nil ?_|refine AW.seq fun K hK => ?_|refine AW.region ?_|refine AL.no rfl rfl ?_|(refine hK _ ?_; clear hK)|(clear hK; refine hK _ ?_; clear hK)|(clear hK; clear hK; refine hK _ ?_; clear hK)|refine qaW ?_|refine qa1 tok ?_|refine qa2 tok ?_|refine qa3 tok ?_|refine AL.loadR tok rfl rfl rfl rfl rfl rfl ?_|refine qa4 tok ?_|refine qa5 tok ?_|refine AW.block ?_|refine AW.exit ?_|refine AW.skip ?_)
            refine AW.cond rfl (fun hg => by simp at hg) (fun hg => ?_)
            repeat (first|refine AL.do tok rfl rfl ?_|refine AL.nil ?_|refine AW.seq fun K hK => ?_|refine AW.region ?_|refine AL.no rfl rfl ?_|(refine hK _ ?_; clear hK)|(clear hK; refine hK _ ?_; clear hK)|(clear hK; clear hK; refine hK _ ?_; clear hK)|refine qaW ?_|refine qa1 tok ?_|refine qa2 tok ?_|refine qa3 tok ?_|refine AL.loadR tok rfl rfl rfl rfl rfl rfl ?_|refine qa4 tok ?_|refine qa5 tok ?_|refine AW.block ?_|refine AW.exit ?_|refine AW.skip ?_)
            refine hK0 _ ?_
            (refine Imp.weak id (fun _ _ _ _ h => h) (by first|assumption|(intro b hb; cases hb)) ?_ ?_ <;> (repeat' (first|exact trivial|exact Nat.lt_of_lt_of_le (Nat.lt_succ_self _) (Nat.le_of_ble_eq_true rfl)|exact rfl|exact Or.inl ⟨rfl, rfl⟩|exact Or.inr ⟨rfl, LF.fn _ _ ‹_›⟩|refine ⟨?_, ?_⟩)))
    · generalize settleS l o.own o.tag o.all = gg at *
      repeat' (first|refine AL.do tok rfl rfl ?_|refine AL.nil ?_|refine AW.seq fun K hK => ?_|refine AW.region ?_|refine AL.no rfl rfl ?_|(refine hK _ ?_; clear hK)|(clear hK; refine hK _ ?_; clear hK)|(clear hK; clear hK; refine hK _ ?_; clear hK)|refine qaW ?_|refine qa1 tok ?_|refine qa2 tok ?_|refine qa3 tok ?_|refine AL.loadR tok rfl rfl rfl rfl rfl rfl ?_|refine qa4 tok ?_|refine qa5 tok ?_|refine AW.block ?_|refine AW.exit ?_|refine AW.skip ?_|refine qc1 (s1 ..) ?_|refine qc2 (s1 ..) ?_|((fail_if_success (refine AL.guard (b := true) rfl rfl ?_ ?_)); (fail_if_success (refine AL.guard (b := false) rfl rfl ?_ ?_)); refine AL.guard rfl rfl (fun hg => ?_) (fun hg => ?_) <;> ((try simp only [DX] at hg) <;> (try first|(exfalso; omega)|exact absurd trivial hg|exact False.elim hg|exact absurd rfl hg)))|refine AW.condT rfl ?_|refine AW.condF rfl ?_|(refine AW.cond rfl (fun hg => ?_) (fun hg => ?_) <;> ((try simp only [DX] at hg) <;> (try first|(exfalso; omega)|exact absurd trivial hg|exact False.elim hg|exact absurd rfl hg))))
      all_goals (try simp only [DX] at *)
      all_goals try (exfalso; first | exact hg | exact hg rfl | omega | contradiction)
      refine hK0 _ ?_
      (refine Imp.weak id (fun _ _ _ _ h => h) (by first|assumption|(intro b hb; cases hb)) ?_ ?_ <;> (repeat' (first|exact trivial|exact Nat.lt_of_lt_of_le (Nat.lt_succ_self _) (Nat.le_of_ble_eq_true rfl)|exact rfl|exact Or.inl ⟨rfl, rfl⟩|exact Or.inr ⟨rfl, LF.fn _ _ ‹_›⟩|refine ⟨?_, ?_⟩)))
  -- Recall
  have k2 := refCheckL_calls (recallS l o.own).1 (fun x hx => ho x (List.mem_filter.1 hx).1)
  rw [show checkLs (recallS l o.own).1 = 0 from goodL_iff.2 (hgd.sub List.filter_sublist)] at k2
  have k3 := merged_calls (recallS l o.own).1 (recallS l o.own).2 l
  rw [show mergedS (recallS l o.own).1 (recallS l o.own).2 l = true from merged_filter _ l] at k3
  have k4 := count_calls (recallS l o.own).1 o.own (by have := List.length_filter_le (fun x => !isOwn o.own x) l; show (l.filter fun x => !isOwn o.own x).length ≤ _; omega)
  rw [show ((recallS l o.own).1.filter (isOwn o.own)).length = 0 from count_rest l o.own] at k4
  have hrm : ((recallS l o.own).2.map encL).length = (l.filter (isOwn o.own)).length := List.length_map ..
  generalize recallS l o.own = rr at *
  generalize (l.filter (isOwn o.own)).length = nn at *
  obtain ⟨ra, rb⟩ := rr
  simp only at *
  repeat' (first|refine AL.do tok rfl rfl ?_|refine AL.nil ?_|refine AW.seq fun K hK => ?_|refine AW.region ?_|refine AL.no rfl rfl ?_|(refine hK _ ?_; clear hK)|(clear hK; refine hK _ ?_; clear hK)|(clear hK; clear hK; refine hK _ ?_; clear hK)|refine qaW ?_|refine qa1 tok ?_|refine qa2 tok ?_|refine qa3 tok ?_|refine AL.loadR tok rfl rfl rfl rfl rfl rfl ?_|refine qa4 tok ?_|refine qa5 tok ?_|refine AW.block ?_|refine AW.exit ?_|refine AW.skip ?_|refine qc1 (r1 ..) ?_|refine qc2 (r1 ..) ?_|refine qc1 (k2 ..) ?_|refine qc2 (k2 ..) ?_|refine qc1 (k3 ..) ?_|refine qc2 (k3 ..) ?_|refine qc1 (k4 ..) ?_|refine qc2 (k4 ..) ?_|refine qc1 (n1 ..) ?_|refine qc2 (n1 ..) ?_|refine qc1 (ke ..) ?_|refine qc2 (ke ..) ?_|((fail_if_success (refine AL.guard (b := true) rfl rfl ?_ ?_)); (fail_if_success (refine AL.guard (b := false) rfl rfl ?_ ?_)); refine AL.guard rfl rfl (fun hg => ?_) (fun hg => ?_) <;> ((try simp only [DX] at hg) <;> (try first|(exfalso; omega)|exact absurd trivial hg|exact False.elim hg|exact absurd rfl hg)))|refine AW.condT rfl ?_|refine AW.condF rfl ?_|(refine AW.cond rfl (fun hg => ?_) (fun hg => ?_) <;> ((try simp only [DX] at hg) <;> (try first|(exfalso; omega)|exact absurd trivial hg|exact False.elim hg|exact absurd rfl hg))))
  all_goals (try simp only [DX] at *)
  all_goals try (exfalso; first | exact hg | exact hg rfl | omega)
  all_goals
    refine AW.ret ?_
    refine ⟨_, _, _, _, rfl, Out.pure rfl ⟨?_, rfl⟩ rfl⟩
    (try simp [*])
end Go.Proofs.Try
