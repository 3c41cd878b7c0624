/- lease: places. -/
import Derived.Test.YtlpnpjlnoeacnaaLeaM
import Derived.Test.YtlpnpjlnoeacnaaWk
set_option linter.unusedSimpArgs false
set_option linter.unusedVariables false
namespace Go.Proofs.Try
open Go Go.AM

def encI (v : Int) : List D := [.one (.int .i64 v)]
abbrev rowI (l : List Int) : AV := .d (.row (l.map encI))
/-- How often each of the numbers 0 .. n is among xs. -/
def csI (n : Nat) (xs : List Int) : List Int := (List.range (n + 1)).map fun (k : Nat) => ((xs.count (k : Int) : Nat) : Int)
theorem csI_len (n : Nat) (xs : List Int) : (csI n xs).length = n + 1 := by simp [csI]
theorem csI_get (n : Nat) (xs : List Int) (m : Nat) (h : m < (csI n xs).length) : (csI n xs)[m] = (xs.count (m : Int) : Int) := by
  simp [csI]
theorem csI_set (n : Nat) (xs : List Int) (m : Nat) : (csI n xs).set m ((xs.count (m : Int) : Int) + 1) = csI n (xs ++ [(m : Int)]) := by
  refine List.ext_getElem (by simp [csI_len]) fun k h1 h2 => ?_
  rw [csI_get, List.getElem_set]
  split
  · rename_i h
    subst h
    rw [List.count_append]
    simp
  · rename_i h
    rw [csI_get, List.count_append, List.count_singleton]
    have : ¬ (m : Int) = (k : Int) := by omega
    simp [this]
theorem csI_nil (n : Nat) : (csI n []).map encI = List.replicate (n + 1) [.one (.int .i64 0)] := by
  refine List.ext_getElem (by simp [csI_len]) fun k h1 h2 => ?_
  simp [csI, encI]
set_option maxHeartbeats 32000000 in
set_option maxRecDepth 10000 in
theorem places_t (q : Qu) (l : List Le) (se : List Int) (n : Nat) (hn : n ≤ 1000) (hlen : (q.ready.map (·.num) ++ l.map (·.e.num) ++ se).length ≤ 5000) (h1 : ∀ x ∈ q.ready.map (·.num) ++ l.map (·.e.num) ++ se, 1 ≤ x ∧ x ≤ (n : Int))
    (h2 : ∀ k : Nat, 1 ≤ k → k ≤ n → (q.ready.map (·.num) ++ l.map (·.e.num) ++ se).count (k : Int) = 1) : ACallP Try.prog 30 [aggQ q, rowL l, rowI se, i64 n] (bo true) := by
  have hqm : (q.ready.map encE).length = q.ready.length := List.length_map ..
  have hlm : (l.map encL).length = l.length := List.length_map ..
  have hsm : (se.map encI).length = se.length := List.length_map ..
  have hle : q.ready.length + l.length + se.length ≤ 5000 := by simp only [List.length_append, List.length_map] at hlen; exact hlen
  generalize hP : q.ready.map (·.num) = P at *
  generalize hL : l.map (·.e.num) = Ln at *
  have hPl : P.length = q.ready.length := by rw [← hP, List.length_map]
  have hLl : Ln.length = l.length := by rw [← hL, List.length_map]
  have hPg : ∀ (i : Nat) (hi : i < q.ready.length), P[i]? = some q.ready[i].num := fun i hi => by rw [← hP]; simp [hi]
  have hLg : ∀ (i : Nat) (hi : i < l.length), Ln[i]? = some l[i].e.num := fun i hi => by rw [← hL]; simp [hi]
  refine ACalls.body tok Try.func30 rfl (by kernel_rfl) (by rw [Try.ntmps30]; simp) ?_
  simp only [Try.ntmps30, Try.results30, argT]
  repeat (first|refine AL.do tok rfl rfl ?_|refine AL.nil ?_|refine AW.seq fun K hK => ?_|refine AW.region ?_|refine AL.no rfl rfl ?_|(refine hK _ ?_; clear hK)|(clear hK; refine hK _ ?_; clear hK)|(clear hK; clear hK; refine hK _ ?_; clear hK)|refine qaW ?_|refine qa1 tok ?_|refine qa2 tok ?_|refine qa3 tok ?_|refine AL.loadR tok rfl rfl rfl rfl rfl rfl ?_|refine qa4 tok ?_|refine qa5 tok ?_|refine AW.block ?_|refine AW.exit ?_|refine AW.skip ?_)
  (try simp only [hqm])
  refine AW.rowE 1 rfl (csI_nil n).symm ?_
  -- the queue
  refine AW.loop (ι := Nat) (fun i => ⟨100, [(23, i64 i), (22, i64 q.ready.length), (21, rowE q.ready), (9, .own (.loc 1)), (1, rowL l), (2, rowI se), (3, i64 n)], [(1, some (.row 3 1 ((csI n (P.take i)).map encI)))], [], 2⟩)
    (fun i => i ≤ q.ready.length) (fun i => q.ready.length - i) 0 (Nat.zero_le _) ?_ ?_
  · (refine Imp.weak id (fun _ _ _ _ h => h) (by first|assumption|(intro b hb; cases hb)) ?_ ?_ <;> (repeat' (first|exact trivial|exact Nat.lt_of_lt_of_le (Nat.lt_succ_self _) (Nat.le_of_ble_eq_true rfl)|exact rfl|exact Or.inl ⟨rfl, rfl⟩|exact Or.inr ⟨rfl, LF.fn _ _ ‹_›⟩|refine ⟨?_, ?_⟩)))
  · rintro i hi K1 hK1
    by_cases hlt : i < q.ready.length
    · have hpg := hPg i hlt
      have hm := h1 q.ready[i].num (by simp [List.mem_of_getElem? hpg])
      generalize hv : q.ready[i].num = v at *
      obtain ⟨m, rfl⟩ := Int.eq_ofNat_of_zero_le (show 0 ≤ v by omega)
      have hcl := csI_len n (P.take i)
      have hcc : (P.take i).count (m : Int) ≤ 5000 := Nat.le_trans List.count_le_length (by rw [List.length_take]; omega)
      have hst := csI_set n (P.take i) m
      have htk : P.take (i + 1) = P.take i ++ [(m : Int)] := by
        rw [List.take_add_one, hpg]
        rfl
      repeat' (first|refine AL.do tok rfl rfl ?_|refine AL.nil ?_|refine AW.seq fun K hK => ?_|refine AW.region ?_|refine AL.no rfl rfl ?_|(refine hK _ ?_; clear hK)|(clear hK; refine hK _ ?_; clear hK)|(clear hK; clear hK; refine hK _ ?_; clear hK)|refine qaW ?_|refine qa1 tok ?_|refine qa2 tok ?_|refine qa3 tok ?_|refine AL.loadR tok rfl rfl rfl rfl rfl rfl ?_|refine qa4 tok ?_|refine qa5 tok ?_|refine AW.block ?_|refine AW.exit ?_|refine AW.skip ?_|((fail_if_success (refine AL.guard (b := true) rfl rfl ?_ ?_)); (fail_if_success (refine AL.guard (b := false) rfl rfl ?_ ?_)); refine AL.guard rfl rfl (fun hg => ?_) (fun hg => ?_) <;> ((try simp only [DX] at hg) <;> (try first|(exfalso; omega)|exact absurd trivial hg|exact False.elim hg|exact absurd rfl hg)))|refine AW.condT rfl ?_|refine AW.condF rfl ?_|(refine AW.cond rfl (fun hg => ?_) (fun hg => ?_) <;> ((try simp only [DX] at hg) <;> (try first|(exfalso; omega)|exact absurd trivial hg|exact False.elim hg|exact absurd rfl hg))))
      all_goals (try simp only [DX] at *)
      all_goals try (exfalso; omega)
      rw [hv]
      repeat (first|refine AL.do tok rfl rfl ?_|refine AL.nil ?_|refine AW.seq fun K hK => ?_|refine AW.region ?_|refine AL.no rfl rfl ?_|(refine hK _ ?_; clear hK)|(clear hK; refine hK _ ?_; clear hK)|(clear hK; clear hK; refine hK _ ?_; clear hK)|refine qaW ?_|refine qa1 tok ?_|refine qa2 tok ?_|refine qa3 tok ?_|refine AL.loadR tok rfl rfl rfl rfl rfl rfl ?_|refine qa4 tok ?_|refine qa5 tok ?_|refine AW.block ?_|refine AW.exit ?_|refine AW.skip ?_)
      rw [csI_get]
      repeat (first|refine AL.do tok rfl rfl ?_|refine AL.nil ?_|refine AW.seq fun K hK => ?_|refine AW.region ?_|refine AL.no rfl rfl ?_|(refine hK _ ?_; clear hK)|(clear hK; refine hK _ ?_; clear hK)|(clear hK; clear hK; refine hK _ ?_; clear hK)|refine qaW ?_|refine qa1 tok ?_|refine qa2 tok ?_|refine qa3 tok ?_|refine AL.loadR tok rfl rfl rfl rfl rfl rfl ?_|refine qa4 tok ?_|refine qa5 tok ?_|refine AW.block ?_|refine AW.exit ?_|refine AW.skip ?_)
      refine AL.storeRM tok ((((P.take i).count (m : Int) : Int) + 1)) rfl rfl rfl (by first | omega | (simp; omega) | decide) rfl rfl rfl rfl (Nat.le_of_ble_eq_true rfl) rfl ?_
      rw [hst, ← htk]
      repeat (first|refine AL.do tok rfl rfl ?_|refine AL.nil ?_|refine AW.seq fun K hK => ?_|refine AW.region ?_|refine AL.no rfl rfl ?_|(refine hK _ ?_; clear hK)|(clear hK; refine hK _ ?_; clear hK)|(clear hK; clear hK; refine hK _ ?_; clear hK)|refine qaW ?_|refine qa1 tok ?_|refine qa2 tok ?_|refine qa3 tok ?_|refine AL.loadR tok rfl rfl rfl rfl rfl rfl ?_|refine qa4 tok ?_|refine qa5 tok ?_|refine AW.block ?_|refine AW.exit ?_|refine AW.skip ?_)
      refine hK1 _ (i + 1) (by omega) (by omega) ?_
      (refine Imp.weak id (fun _ _ _ _ h => h) (by first|assumption|(intro b hb; cases hb)) ?_ ?_ <;> (repeat' (first|exact trivial|exact Nat.lt_of_lt_of_le (Nat.lt_succ_self _) (Nat.le_of_ble_eq_true rfl)|exact rfl|exact Or.inl ⟨rfl, rfl⟩|exact Or.inr ⟨rfl, LF.fn _ _ ‹_›⟩|refine ⟨?_, ?_⟩)))
    · obtain rfl : i = q.ready.length := by omega
      rw [show P.take q.ready.length = P from by rw [← hPl, List.take_length]]
      repeat (first|refine AL.do tok rfl rfl ?_|refine AL.nil ?_|refine AW.seq fun K hK => ?_|refine AW.region ?_|refine AL.no rfl rfl ?_|(refine hK _ ?_; clear hK)|(clear hK; refine hK _ ?_; clear hK)|(clear hK; clear hK; refine hK _ ?_; clear hK)|refine qaW ?_|refine qa1 tok ?_|refine qa2 tok ?_|refine qa3 tok ?_|refine AL.loadR tok rfl rfl rfl rfl rfl rfl ?_|refine qa4 tok ?_|refine qa5 tok ?_|refine AW.block ?_|refine AW.exit ?_|refine AW.skip ?_)
      refine AW.cond rfl (fun hg => by simp at hg) (fun hg => ?_)
      repeat (first|refine AL.do tok rfl rfl ?_|refine AL.nil ?_|refine AW.seq fun K hK => ?_|refine AW.region ?_|refine AL.no rfl rfl ?_|(refine hK _ ?_; clear hK)|(clear hK; refine hK _ ?_; clear hK)|(clear hK; clear hK; refine hK _ ?_; clear hK)|refine qaW ?_|refine qa1 tok ?_|refine qa2 tok ?_|refine qa3 tok ?_|refine AL.loadR tok rfl rfl rfl rfl rfl rfl ?_|refine qa4 tok ?_|refine qa5 tok ?_|refine AW.block ?_|refine AW.exit ?_|refine AW.skip ?_)
      (try simp only [hlm])
      -- the deliveries
      refine AW.loop (ι := Nat) (fun i => ⟨100, [(46, i64 i), (45, i64 l.length), (44, rowL l), (9, .own (.loc 1)), (2, rowI se), (3, i64 n)], [(1, some (.row 3 1 ((csI n (P ++ Ln.take i)).map encI)))], [], 2⟩)
        (fun i => i ≤ l.length) (fun i => l.length - i) 0 (Nat.zero_le _) ?_ ?_
      · rw [List.take_zero, List.append_nil]
        (refine Imp.weak id (fun _ _ _ _ h => h) (by first|assumption|(intro b hb; cases hb)) ?_ ?_ <;> (repeat' (first|exact trivial|exact Nat.lt_of_lt_of_le (Nat.lt_succ_self _) (Nat.le_of_ble_eq_true rfl)|exact rfl|exact Or.inl ⟨rfl, rfl⟩|exact Or.inr ⟨rfl, LF.fn _ _ ‹_›⟩|refine ⟨?_, ?_⟩)))
      rintro i hi K1 hK1
      by_cases hlt : i < l.length
      · have hpg := hLg i hlt
        have hm := h1 l[i].e.num (by simp [List.mem_of_getElem? hpg])
        generalize hv : l[i].e.num = v at *
        obtain ⟨m, rfl⟩ := Int.eq_ofNat_of_zero_le (show 0 ≤ v by omega)
        have hcl := csI_len n (P ++ Ln.take i)
        have hcc : (P ++ Ln.take i).count (m : Int) ≤ 5000 := Nat.le_trans List.count_le_length (by rw [List.length_append, List.length_take]; omega)
        have hst := csI_set n (P ++ Ln.take i) m
        have htk : P ++ Ln.take (i + 1) = P ++ Ln.take i ++ [(m : Int)] := by
          rw [List.take_add_one, hpg, List.append_assoc]
          rfl
        repeat' (first|refine AL.do tok rfl rfl ?_|refine AL.nil ?_|refine AW.seq fun K hK => ?_|refine AW.region ?_|refine AL.no rfl rfl ?_|(refine hK _ ?_; clear hK)|(clear hK; refine hK _ ?_; clear hK)|(clear hK; clear hK; refine hK _ ?_; clear hK)|refine qaW ?_|refine qa1 tok ?_|refine qa2 tok ?_|refine qa3 tok ?_|refine AL.loadR tok rfl rfl rfl rfl rfl rfl ?_|refine qa4 tok ?_|refine qa5 tok ?_|refine AW.block ?_|refine AW.exit ?_|refine AW.skip ?_|((fail_if_success (refine AL.guard (b := true) rfl rfl ?_ ?_)); (fail_if_success (refine AL.guard (b := false) rfl rfl ?_ ?_)); refine AL.guard rfl rfl (fun hg => ?_) (fun hg => ?_) <;> ((try simp only [DX] at hg) <;> (try first|(exfalso; omega)|exact absurd trivial hg|exact False.elim hg|exact absurd rfl hg)))|refine AW.condT rfl ?_|refine AW.condF rfl ?_|(refine AW.cond rfl (fun hg => ?_) (fun hg => ?_) <;> ((try simp only [DX] at hg) <;> (try first|(exfalso; omega)|exact absurd trivial hg|exact False.elim hg|exact absurd rfl hg))))
        all_goals (try simp only [DX] at *)
        all_goals try (exfalso; omega)
        rw [hv]
        repeat (first|refine AL.do tok rfl rfl ?_|refine AL.nil ?_|refine AW.seq fun K hK => ?_|refine AW.region ?_|refine AL.no rfl rfl ?_|(refine hK _ ?_; clear hK)|(clear hK; refine hK _ ?_; clear hK)|(clear hK; clear hK; refine hK _ ?_; clear hK)|refine qaW ?_|refine qa1 tok ?_|refine qa2 tok ?_|refine qa3 tok ?_|refine AL.loadR tok rfl rfl rfl rfl rfl rfl ?_|refine qa4 tok ?_|refine qa5 tok ?_|refine AW.block ?_|refine AW.exit ?_|refine AW.skip ?_)
        rw [csI_get]
        repeat (first|refine AL.do tok rfl rfl ?_|refine AL.nil ?_|refine AW.seq fun K hK => ?_|refine AW.region ?_|refine AL.no rfl rfl ?_|(refine hK _ ?_; clear hK)|(clear hK; refine hK _ ?_; clear hK)|(clear hK; clear hK; refine hK _ ?_; clear hK)|refine qaW ?_|refine qa1 tok ?_|refine qa2 tok ?_|refine qa3 tok ?_|refine AL.loadR tok rfl rfl rfl rfl rfl rfl ?_|refine qa4 tok ?_|refine qa5 tok ?_|refine AW.block ?_|refine AW.exit ?_|refine AW.skip ?_)
        refine AL.storeRM tok ((((P ++ Ln.take i).count (m : Int) : Int) + 1)) rfl rfl rfl (by first | omega | (simp; omega) | decide) rfl rfl rfl rfl (Nat.le_of_ble_eq_true rfl) rfl ?_
        rw [hst, ← htk]
        repeat (first|refine AL.do tok rfl rfl ?_|refine AL.nil ?_|refine AW.seq fun K hK => ?_|refine AW.region ?_|refine AL.no rfl rfl ?_|(refine hK _ ?_; clear hK)|(clear hK; refine hK _ ?_; clear hK)|(clear hK; clear hK; refine hK _ ?_; clear hK)|refine qaW ?_|refine qa1 tok ?_|refine qa2 tok ?_|refine qa3 tok ?_|refine AL.loadR tok rfl rfl rfl rfl rfl rfl ?_|refine qa4 tok ?_|refine qa5 tok ?_|refine AW.block ?_|refine AW.exit ?_|refine AW.skip ?_)
        refine hK1 _ (i + 1) (by omega) (by omega) ?_
        (refine Imp.weak id (fun _ _ _ _ h => h) (by first|assumption|(intro b hb; cases hb)) ?_ ?_ <;> (repeat' (first|exact trivial|exact Nat.lt_of_lt_of_le (Nat.lt_succ_self _) (Nat.le_of_ble_eq_true rfl)|exact rfl|exact Or.inl ⟨rfl, rfl⟩|exact Or.inr ⟨rfl, LF.fn _ _ ‹_›⟩|refine ⟨?_, ?_⟩)))
      · obtain rfl : i = l.length := by omega
        rw [show Ln.take l.length = Ln from by rw [← hLl, List.take_length]]
        repeat (first|refine AL.do tok rfl rfl ?_|refine AL.nil ?_|refine AW.seq fun K hK => ?_|refine AW.region ?_|refine AL.no rfl rfl ?_|(refine hK _ ?_; clear hK)|(clear hK; refine hK _ ?_; clear hK)|(clear hK; clear hK; refine hK _ ?_; clear hK)|refine qaW ?_|refine qa1 tok ?_|refine qa2 tok ?_|refine qa3 tok ?_|refine AL.loadR tok rfl rfl rfl rfl rfl rfl ?_|refine qa4 tok ?_|refine qa5 tok ?_|refine AW.block ?_|refine AW.exit ?_|refine AW.skip ?_)
        refine AW.cond rfl (fun hg => by simp at hg) (fun hg => ?_)
        repeat (first|refine AL.do tok rfl rfl ?_|refine AL.nil ?_|refine AW.seq fun K hK => ?_|refine AW.region ?_|refine AL.no rfl rfl ?_|(refine hK _ ?_; clear hK)|(clear hK; refine hK _ ?_; clear hK)|(clear hK; clear hK; refine hK _ ?_; clear hK)|refine qaW ?_|refine qa1 tok ?_|refine qa2 tok ?_|refine qa3 tok ?_|refine AL.loadR tok rfl rfl rfl rfl rfl rfl ?_|refine qa4 tok ?_|refine qa5 tok ?_|refine AW.block ?_|refine AW.exit ?_|refine AW.skip ?_)
        (try simp only [hsm])
        -- the settled ones
        refine AW.loop (ι := Nat) (fun i => ⟨100, [(72, i64 i), (71, i64 se.length), (70, rowI se), (9, .own (.loc 1)), (3, i64 n)], [(1, some (.row 3 1 ((csI n (P ++ Ln ++ se.take i)).map encI)))], [], 2⟩)
          (fun i => i ≤ se.length) (fun i => se.length - i) 0 (Nat.zero_le _) ?_ ?_
        · rw [List.take_zero, List.append_nil]
          (refine Imp.weak id (fun _ _ _ _ h => h) (by first|assumption|(intro b hb; cases hb)) ?_ ?_ <;> (repeat' (first|exact trivial|exact Nat.lt_of_lt_of_le (Nat.lt_succ_self _) (Nat.le_of_ble_eq_true rfl)|exact rfl|exact Or.inl ⟨rfl, rfl⟩|exact Or.inr ⟨rfl, LF.fn _ _ ‹_›⟩|refine ⟨?_, ?_⟩)))
        rintro i hi K1 hK1
        by_cases hlt : i < se.length
        · have hpg : se[i]? = some se[i] := List.getElem?_eq_getElem hlt
          have hm := h1 se[i] (by simp)
          generalize hv : se[i] = v at *
          obtain ⟨m, rfl⟩ := Int.eq_ofNat_of_zero_le (show 0 ≤ v by omega)
          have hcl := csI_len n (P ++ Ln ++ se.take i)
          have hcl2 := csI_len n (P ++ (Ln ++ se.take i))
          have hcc : (P ++ Ln ++ se.take i).count (m : Int) ≤ 5000 := Nat.le_trans List.count_le_length (by rw [List.length_append, List.length_append, List.length_take]; omega)
          have hst := csI_set n (P ++ Ln ++ se.take i) m
          have htk : P ++ Ln ++ se.take (i + 1) = P ++ Ln ++ se.take i ++ [(m : Int)] := by
            rw [List.take_add_one, hpg, ← List.append_assoc]
            rfl
          repeat' (first|refine AL.do tok rfl rfl ?_|refine AL.nil ?_|refine AW.seq fun K hK => ?_|refine AW.region ?_|refine AL.no rfl rfl ?_|(refine hK _ ?_; clear hK)|(clear hK; refine hK _ ?_; clear hK)|(clear hK; clear hK; refine hK _ ?_; clear hK)|refine qaW ?_|refine qa1 tok ?_|refine qa2 tok ?_|refine qa3 tok ?_|refine AL.loadR tok rfl rfl rfl rfl rfl rfl ?_|refine qa4 tok ?_|refine qa5 tok ?_|refine AW.block ?_|refine AW.exit ?_|refine AW.skip ?_|((fail_if_success (refine AL.guard (b := true) rfl rfl ?_ ?_)); (fail_if_success (refine AL.guard (b := false) rfl rfl ?_ ?_)); refine AL.guard rfl rfl (fun hg => ?_) (fun hg => ?_) <;> ((try simp only [DX] at hg) <;> (try first|(exfalso; omega)|exact absurd trivial hg|exact False.elim hg|exact absurd rfl hg)))|refine AW.condT rfl ?_|refine AW.condF rfl ?_|(refine AW.cond rfl (fun hg => ?_) (fun hg => ?_) <;> ((try simp only [DX] at hg) <;> (try first|(exfalso; omega)|exact absurd trivial hg|exact False.elim hg|exact absurd rfl hg))))
          all_goals (try simp only [DX] at *)
          all_goals try (exfalso; omega)
          rw [hv]
          repeat (first|refine AL.do tok rfl rfl ?_|refine AL.nil ?_|refine AW.seq fun K hK => ?_|refine AW.region ?_|refine AL.no rfl rfl ?_|(refine hK _ ?_; clear hK)|(clear hK; refine hK _ ?_; clear hK)|(clear hK; clear hK; refine hK _ ?_; clear hK)|refine qaW ?_|refine qa1 tok ?_|refine qa2 tok ?_|refine qa3 tok ?_|refine AL.loadR tok rfl rfl rfl rfl rfl rfl ?_|refine qa4 tok ?_|refine qa5 tok ?_|refine AW.block ?_|refine AW.exit ?_|refine AW.skip ?_)
          rw [csI_get]
          repeat (first|refine AL.do tok rfl rfl ?_|refine AL.nil ?_|refine AW.seq fun K hK => ?_|refine AW.region ?_|refine AL.no rfl rfl ?_|(refine hK _ ?_; clear hK)|(clear hK; refine hK _ ?_; clear hK)|(clear hK; clear hK; refine hK _ ?_; clear hK)|refine qaW ?_|refine qa1 tok ?_|refine qa2 tok ?_|refine qa3 tok ?_|refine AL.loadR tok rfl rfl rfl rfl rfl rfl ?_|refine qa4 tok ?_|refine qa5 tok ?_|refine AW.block ?_|refine AW.exit ?_|refine AW.skip ?_)
          refine AL.storeRM tok ((((P ++ Ln ++ se.take i).count (m : Int) : Int) + 1)) rfl rfl rfl (by first | omega | (simp; omega) | decide) rfl rfl rfl rfl (Nat.le_of_ble_eq_true rfl) rfl ?_
          rw [hst, ← htk]
          repeat (first|refine AL.do tok rfl rfl ?_|refine AL.nil ?_|refine AW.seq fun K hK => ?_|refine AW.region ?_|refine AL.no rfl rfl ?_|(refine hK _ ?_; clear hK)|(clear hK; refine hK _ ?_; clear hK)|(clear hK; clear hK; refine hK _ ?_; clear hK)|refine qaW ?_|refine qa1 tok ?_|refine qa2 tok ?_|refine qa3 tok ?_|refine AL.loadR tok rfl rfl rfl rfl rfl rfl ?_|refine qa4 tok ?_|refine qa5 tok ?_|refine AW.block ?_|refine AW.exit ?_|refine AW.skip ?_)
          refine hK1 _ (i + 1) (by omega) (by omega) ?_
          (refine Imp.weak id (fun _ _ _ _ h => h) (by first|assumption|(intro b hb; cases hb)) ?_ ?_ <;> (repeat' (first|exact trivial|exact Nat.lt_of_lt_of_le (Nat.lt_succ_self _) (Nat.le_of_ble_eq_true rfl)|exact rfl|exact Or.inl ⟨rfl, rfl⟩|exact Or.inr ⟨rfl, LF.fn _ _ ‹_›⟩|refine ⟨?_, ?_⟩)))
        · obtain rfl : i = se.length := by omega
          rw [List.take_length]
          repeat (first|refine AL.do tok rfl rfl ?_|refine AL.nil ?_|refine AW.seq fun K hK => ?_|refine AW.region ?_|refine AL.no rfl rfl ?_|(refine hK _ ?_; clear hK)|(clear hK; refine hK _ ?_; clear hK)|(clear hK; clear hK; refine hK _ ?_; clear hK)|refine qaW ?_|refine qa1 tok ?_|refine qa2 tok ?_|refine qa3 tok ?_|refine AL.loadR tok rfl rfl rfl rfl rfl rfl ?_|refine qa4 tok ?_|refine qa5 tok ?_|refine AW.block ?_|refine AW.exit ?_|refine AW.skip ?_)
          refine AW.cond rfl (fun hg => by simp at hg) (fun hg => ?_)
          repeat (first|refine AL.do tok rfl rfl ?_|refine AL.nil ?_|refine AW.seq fun K hK => ?_|refine AW.region ?_|refine AL.no rfl rfl ?_|(refine hK _ ?_; clear hK)|(clear hK; refine hK _ ?_; clear hK)|(clear hK; clear hK; refine hK _ ?_; clear hK)|refine qaW ?_|refine qa1 tok ?_|refine qa2 tok ?_|refine qa3 tok ?_|refine AL.loadR tok rfl rfl rfl rfl rfl rfl ?_|refine qa4 tok ?_|refine qa5 tok ?_|refine AW.block ?_|refine AW.exit ?_|refine AW.skip ?_)
          -- each number
          refine AW.loop (ι := Nat) (fun k => ⟨100, [(16, i64 ((k : Int) + 1)), (9, .own (.loc 1)), (3, i64 n)], [(1, some (.row 3 1 ((csI n (P ++ Ln ++ se)).map encI)))], [], 2⟩)
            (fun k => k ≤ n) (fun k => n - k) 0 (Nat.zero_le _) ?_ ?_
          · (refine Imp.weak id (fun _ _ _ _ h => h) (by first|assumption|(intro b hb; cases hb)) ?_ ?_ <;> (repeat' (first|exact trivial|exact Nat.lt_of_lt_of_le (Nat.lt_succ_self _) (Nat.le_of_ble_eq_true rfl)|exact rfl|exact Or.inl ⟨rfl, rfl⟩|exact Or.inr ⟨rfl, LF.fn _ _ ‹_›⟩|refine ⟨?_, ?_⟩)))
          rintro k hk K1 hK1
          by_cases hlt : k < n
          · have h2k := h2 (k + 1) (by omega) (by omega)
            have hcl := csI_len n (P ++ Ln ++ se)
            have hcl2 := csI_len n (P ++ (Ln ++ se))
            rw [show ((k : Int) + 1) = ((k + 1 : Nat) : Int) from rfl]
            repeat' (first|refine AL.do tok rfl rfl ?_|refine AL.nil ?_|refine AW.seq fun K hK => ?_|refine AW.region ?_|refine AL.no rfl rfl ?_|(refine hK _ ?_; clear hK)|(clear hK; refine hK _ ?_; clear hK)|(clear hK; clear hK; refine hK _ ?_; clear hK)|refine qaW ?_|refine qa1 tok ?_|refine qa2 tok ?_|refine qa3 tok ?_|refine AL.loadR tok rfl rfl rfl rfl rfl rfl ?_|refine qa4 tok ?_|refine qa5 tok ?_|refine AW.block ?_|refine AW.exit ?_|refine AW.skip ?_|((fail_if_success (refine AL.guard (b := true) rfl rfl ?_ ?_)); (fail_if_success (refine AL.guard (b := false) rfl rfl ?_ ?_)); refine AL.guard rfl rfl (fun hg => ?_) (fun hg => ?_) <;> ((try simp only [DX] at hg) <;> (try first|(exfalso; omega)|exact absurd trivial hg|exact False.elim hg|exact absurd rfl hg)))|refine AW.condT rfl ?_|refine AW.condF rfl ?_|(refine AW.cond rfl (fun hg => ?_) (fun hg => ?_) <;> ((try simp only [DX] at hg) <;> (try first|(exfalso; omega)|exact absurd trivial hg|exact False.elim hg|exact absurd rfl hg))))
            all_goals (try simp only [DX] at *)
            all_goals try (exfalso; omega)
            · exfalso
              have hc := csI_get n (P ++ Ln ++ se) (k + 1) (by omega)
              rw [h2k] at hc
              exact absurd hc (by assumption)
            · refine hK1 _ (k + 1) (by omega) (by omega) ?_
              (refine Imp.weak id (fun _ _ _ _ h => h) (by first|assumption|(intro b hb; cases hb)) ?_ ?_ <;> (repeat' (first|exact trivial|exact Nat.lt_of_lt_of_le (Nat.lt_succ_self _) (Nat.le_of_ble_eq_true rfl)|exact rfl|exact Or.inl ⟨rfl, rfl⟩|exact Or.inr ⟨rfl, LF.fn _ _ ‹_›⟩|refine ⟨?_, ?_⟩)))
          · obtain rfl : k = n := by omega
            repeat' (first|refine AL.do tok rfl rfl ?_|refine AL.nil ?_|refine AW.seq fun K hK => ?_|refine AW.region ?_|refine AL.no rfl rfl ?_|(refine hK _ ?_; clear hK)|(clear hK; refine hK _ ?_; clear hK)|(clear hK; clear hK; refine hK _ ?_; clear hK)|refine qaW ?_|refine qa1 tok ?_|refine qa2 tok ?_|refine qa3 tok ?_|refine AL.loadR tok rfl rfl rfl rfl rfl rfl ?_|refine qa4 tok ?_|refine qa5 tok ?_|refine AW.block ?_|refine AW.exit ?_|refine AW.skip ?_|((fail_if_success (refine AL.guard (b := true) rfl rfl ?_ ?_)); (fail_if_success (refine AL.guard (b := false) rfl rfl ?_ ?_)); refine AL.guard rfl rfl (fun hg => ?_) (fun hg => ?_) <;> ((try simp only [DX] at hg) <;> (try first|(exfalso; omega)|exact absurd trivial hg|exact False.elim hg|exact absurd rfl hg)))|refine AW.condT rfl ?_|refine AW.condF rfl ?_|(refine AW.cond rfl (fun hg => ?_) (fun hg => ?_) <;> ((try simp only [DX] at hg) <;> (try first|(exfalso; omega)|exact absurd trivial hg|exact False.elim hg|exact absurd rfl hg))))
            all_goals (try simp only [DX] at *)
            all_goals try (exfalso; omega)
            all_goals
              refine AW.ret ?_
              refine ⟨_, _, _, _, rfl, Out.pure rfl ⟨?_, rfl⟩ rfl⟩
              rfl
end Go.Proofs.Try
