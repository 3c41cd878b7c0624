/- links: what arrives is counted. -/
import Derived.Test.YtefhpcaopchhgaaLnkL
import Derived.Test.YtefhpcaopchhgaaWk
set_option linter.unusedSimpArgs false
set_option linter.unusedVariables false
namespace Go.Proofs.Try
open Go Go.AM

structure Sn where
  d : Dg
  left : Int
def encSn (s : Sn) : List D := [.one (.int .i64 s.d.src), .one (.int .i64 s.d.dst), .row (s.d.bytes.map encU), .one (.int .i64 s.left)]
abbrev lessS (s : Sn) : Sn := { s with left := s.left - 1 }
abbrev rowS (l : List Sn) : Blk := .row 49 4 (l.map encSn)
def keyB (a b : Dg) : Bool := decide (a.src = b.src) && (decide (a.dst = b.dst) && decide (strN a.bytes = strN b.bytes))
def hitB (d : Dg) (s : Sn) : Bool := decide (0 < s.left) && keyB s.d d
def dec1 (d : Dg) : List Sn → Option (List Sn)
  | [] => none
  | s :: r => if hitB d s then some (lessS s :: r) else (dec1 d r).map (s :: ·)
def decL : List Dg → List Sn → Option (List Sn)
  | [], a => some a
  | d :: r, a => match dec1 d a with
    | some a' => decL r a'
    | none => none
theorem dec1_spec {d : Dg} : ∀ {a a' : List Sn}, dec1 d a = some a' → ∃ j, ∃ h : j < a.length, hitB d a[j] = true ∧ (∀ i, ∀ hi : i < j, hitB d (a[i]'(by omega)) = false) ∧ a' = a.set j (lessS a[j])
  | [], a', h => by cases h
  | s :: r, a', h => by
    rw [dec1] at h
    split at h
    · rename_i hs
      cases h
      exact ⟨0, by simp, hs, fun i hi => by omega, rfl⟩
    · rename_i hs
      rw [Option.map_eq_some_iff] at h
      obtain ⟨r', hr, rfl⟩ := h
      obtain ⟨j, hj, h1, h2, rfl⟩ := dec1_spec hr
      refine ⟨j + 1, by simpa using hj, h1, fun i hi => ?_, rfl⟩
      cases i with
      | zero => simpa using hs
      | succ i => exact h2 i (by omega)
abbrev hpA (n : Nt) (k : Nat) (l : List Sn) : List Blk := [netB n (.own (.loc k)), rowS l]
/-- A step passes, and what arrives is counted. -/
def ACallArr (n : Nt) (l : List Sn) (n' : Nt) (l' : List Sn) : Prop := ACallsX Try.prog 16 [.ptr (.par 0) 0, .own (.par 1)] (hpA n 0 l) [wayR n] fun r' Hp' Hr => r' = bo true ∧ Hp' = hpA n' 0 l' ∧ Hr = [wayR n']
theorem hpA_hp {n : Nt} {k c : Nat} {l : List Sn} (h : k < c) : ∀ b ∈ hpA n k l, LFB b ∨ idB (fun j => Nat.blt j c) b = true := by
  intro b hb
  rcases List.mem_cons.1 hb with rfl | hb
  · exact .inr (net_idB _ n k (by simpa using h))
  · rw [List.mem_singleton.1 hb]; exact .inr rfl
theorem decL_step {l : List Dg} {i : Nat} (h : i < l.length) {a a' : List Sn} (hd : decL (l.drop i) a = some a') : ∃ a1, dec1 l[i] a = some a1 ∧ decL (l.drop (i + 1)) a1 = some a' := by
  rw [List.drop_eq_getElem_cons h, decL] at hd
  split at hd
  · rename_i a1 h1
    exact ⟨a1, h1, hd⟩
  · cases hd
set_option maxHeartbeats 32000000 in
set_option maxRecDepth 10000 in
theorem arrived_calls (n : Nt) (l l' : List Sn) (hc : n.cut.length = 49) (hw : OkWay n.way) (hd : decL (arrS n.way) l = some l') (hl : l.length ≤ 100000) (hb : ∀ s ∈ l, s.left ≤ 1000000) : ACallArr n l (stepS n) l' := by
  have k1 := step_calls n hc hw
  have hAl : (arrS n.way).length ≤ 100000 := Nat.le_trans (arrS_len _) hw.1
  generalize arrS n.way = A at *
  have hA : (A.map encDg).length = A.length := List.length_map ..
  generalize stepS n = n' at *
  unfold ACallArr
  refine ACallsX.body tok Try.func16 rfl (by kernel_rfl) (by rw [Try.ntmps16]; simp) ?_
  simp only [Try.ntmps16, Try.results16, argT, rowsH, Rw.blk, List.length_cons, List.length_nil]
  repeat (first|refine AL.do tok rfl rfl ?_|refine AL.nil ?_|refine AW.seq fun K hK => ?_|refine AW.region ?_|refine AL.no rfl rfl ?_|(refine hK _ ?_; clear hK)|(clear hK; refine hK _ ?_; clear hK)|(clear hK; clear hK; refine hK _ ?_; clear hK)|refine qaW ?_|refine qa1 tok ?_|refine qa2 tok ?_|refine qa3 tok ?_|refine AL.loadR tok rfl rfl rfl rfl rfl rfl ?_|refine qa4 tok ?_|refine qa5 tok ?_|refine AW.block ?_|refine AW.exit ?_|refine AW.skip ?_)
  refine AL.callNet (.par 0) 0 (k1) rfl rfl rfl rfl rfl (by decide) rfl rfl rfl rfl rfl rfl ?_
  repeat (first|refine AL.do tok rfl rfl ?_|refine AL.nil ?_|refine AW.seq fun K hK => ?_|refine AW.region ?_|refine AL.no rfl rfl ?_|(refine hK _ ?_; clear hK)|(clear hK; refine hK _ ?_; clear hK)|(clear hK; clear hK; refine hK _ ?_; clear hK)|refine qaW ?_|refine qa1 tok ?_|refine qa2 tok ?_|refine qa3 tok ?_|refine AL.loadR tok rfl rfl rfl rfl rfl rfl ?_|refine qa4 tok ?_|refine qa5 tok ?_|refine AW.block ?_|refine AW.exit ?_|refine AW.skip ?_)
  simp only [hA]
  refine AW.loop (ι := Nat × List Sn) (fun s => ⟨66, [(13, i64 s.1), (12, i64 A.length), (11, rowDg A), (1, .own (.par 1))], [(1, some (wayR n').blk)], hpA n' 1 s.2, 2⟩)
    (fun s => s.1 ≤ A.length ∧ s.2.length = l.length ∧ (∀ x ∈ s.2, x.left ≤ 1000000) ∧ decL (A.drop s.1) s.2 = some l') (fun s => A.length - s.1) (0, l) ⟨Nat.zero_le _, rfl, hb, hd⟩ ?_ ?_
  · (refine Imp.weakP id (fun _ _ _ _ h => h) (by simp only [List.map_cons, List.map_nil, net_rn]; rfl) (by first|(simp only [List.all_cons, List.all_nil, Bool.and_true]; exact net_lt _ _ _ (by decide))|(rw [List.all_cons, net_lt _ _ _ (by decide)]; rfl)) ?_ ?_ <;> (repeat' (first|exact trivial|exact Nat.lt_of_lt_of_le (Nat.lt_succ_self _) (Nat.le_of_ble_eq_true rfl)|exact rfl|exact Or.inl ⟨rfl, rfl⟩|exact Or.inr ⟨rfl, LF.fn _ _ ‹_›⟩|refine ⟨?_, ?_⟩)))
  rintro ⟨i, a⟩ ⟨hi, hal, hab, hda⟩ K1 hK1
  dsimp only at hi hal hab hda ⊢
  have ham : (a.map encSn).length = a.length := List.length_map ..
  by_cases hlt : i < A.length
  · obtain ⟨a1, h1, h2⟩ := decL_step hlt hda
    obtain ⟨j, hj, hhit, hno, rfl⟩ := dec1_spec h1
    repeat (first|refine AL.do tok rfl rfl ?_|refine AL.nil ?_|refine AW.seq fun K hK => ?_|refine AW.region ?_|refine AL.no rfl rfl ?_|(refine hK _ ?_; clear hK)|(clear hK; refine hK _ ?_; clear hK)|(clear hK; clear hK; refine hK _ ?_; clear hK)|refine qaW ?_|refine qa1 tok ?_|refine qa2 tok ?_|refine qa3 tok ?_|refine AL.loadR tok rfl rfl rfl rfl rfl rfl ?_|refine qa4 tok ?_|refine qa5 tok ?_|refine AW.block ?_|refine AW.exit ?_|refine AW.skip ?_)
    refine AW.cond rfl (fun hg => ?_) (fun hg => by simp at hg; omega)
    repeat (first|refine AL.do tok rfl rfl ?_|refine AL.nil ?_|refine AW.seq fun K hK => ?_|refine AW.region ?_|refine AL.no rfl rfl ?_|(refine hK _ ?_; clear hK)|(clear hK; refine hK _ ?_; clear hK)|(clear hK; clear hK; refine hK _ ?_; clear hK)|refine qaW ?_|refine qa1 tok ?_|refine qa2 tok ?_|refine qa3 tok ?_|refine AL.loadR tok rfl rfl rfl rfl rfl rfl ?_|refine qa4 tok ?_|refine qa5 tok ?_|refine AW.block ?_|refine AW.exit ?_|refine AW.skip ?_)
    simp only [ham]
    refine AW.loop (ι := Nat) (fun k => ⟨66, [(19, i64 k), (18, i64 a.length), (17, .own (.par 1)), (7, i64 (-1)), (6, .ptr (.loc 2) 0), (13, i64 i), (12, i64 A.length), (11, rowDg A), (1, .own (.par 1))], [(2, some (.box 31 [i64 A[i].src, i64 A[i].dst, rowU A[i].bytes])), (1, some (wayR n').blk)], hpA n' 1 a, 3⟩)
      (fun k => k ≤ j) (fun k => j - k) 0 (Nat.zero_le _) ?_ ?_
    · (refine Imp.weakP id (fun _ _ _ _ h => h) (by simp only [List.map_cons, List.map_nil, net_rn]; rfl) (by first|(simp only [List.all_cons, List.all_nil, Bool.and_true]; exact net_lt _ _ _ (by decide))|(rw [List.all_cons, net_lt _ _ _ (by decide)]; rfl)) ?_ ?_ <;> (repeat' (first|exact trivial|exact Nat.lt_of_lt_of_le (Nat.lt_succ_self _) (Nat.le_of_ble_eq_true rfl)|exact rfl|exact Or.inl ⟨rfl, rfl⟩|exact Or.inr ⟨rfl, LF.fn _ _ ‹_›⟩|refine ⟨?_, ?_⟩)))
    rintro k hk K2 hK2
    by_cases hkj : k < j
    · have hnk : ¬ (0 < a[k].left ∧ a[k].d.src = A[i].src ∧ a[k].d.dst = A[i].dst ∧ strN a[k].d.bytes = strN A[i].bytes) := fun ⟨q1, q2, q3, q4⟩ => by
        have := hno k hkj
        unfold hitB keyB at this
        rw [decide_eq_true q1, decide_eq_true q2, decide_eq_true q3, decide_eq_true q4] at this
        cases this
      have hka : k < a.length := by omega
      repeat' (first|refine AL.do tok rfl rfl ?_|refine AL.nil ?_|refine AW.seq fun K hK => ?_|refine AW.region ?_|refine AL.no rfl rfl ?_|(refine hK _ ?_; clear hK)|(clear hK; refine hK _ ?_; clear hK)|(clear hK; clear hK; refine hK _ ?_; clear hK)|refine qaW ?_|refine qa1 tok ?_|refine qa2 tok ?_|refine qa3 tok ?_|refine AL.loadR tok rfl rfl rfl rfl rfl rfl ?_|refine qa4 tok ?_|refine qa5 tok ?_|refine AW.block ?_|refine AW.exit ?_|refine AW.skip ?_|((fail_if_success (refine AL.guard (b := true) rfl rfl ?_ ?_)); (fail_if_success (refine AL.guard (b := false) rfl rfl ?_ ?_)); refine AL.guard rfl rfl (fun hg => ?_) (fun hg => ?_) <;> ((try simp only [DX] at hg) <;> (try first|(exfalso; omega)|exact absurd trivial hg|exact False.elim hg|exact absurd rfl hg)))|refine AW.condT rfl ?_|refine AW.condF rfl ?_|(refine AW.cond rfl (fun hg => ?_) (fun hg => ?_) <;> ((try simp only [DX] at hg) <;> (try first|(exfalso; omega)|exact absurd trivial hg|exact False.elim hg|exact absurd rfl hg))))
      all_goals try
        refine qa7 (vB a[k].d.bytes) ?_
        repeat (first|refine AL.do tok rfl rfl ?_|refine AL.nil ?_|refine AW.seq fun K hK => ?_|refine AW.region ?_|refine AL.no rfl rfl ?_|(refine hK _ ?_; clear hK)|(clear hK; refine hK _ ?_; clear hK)|(clear hK; clear hK; refine hK _ ?_; clear hK)|refine qaW ?_|refine qa1 tok ?_|refine qa2 tok ?_|refine qa3 tok ?_|refine AL.loadR tok rfl rfl rfl rfl rfl rfl ?_|refine qa4 tok ?_|refine qa5 tok ?_|refine AW.block ?_|refine AW.exit ?_|refine AW.skip ?_)
        refine qa7 (vB A[i].bytes) ?_
        repeat' (first|refine AL.do tok rfl rfl ?_|refine AL.nil ?_|refine AW.seq fun K hK => ?_|refine AW.region ?_|refine AL.no rfl rfl ?_|(refine hK _ ?_; clear hK)|(clear hK; refine hK _ ?_; clear hK)|(clear hK; clear hK; refine hK _ ?_; clear hK)|refine qaW ?_|refine qa1 tok ?_|refine qa2 tok ?_|refine qa3 tok ?_|refine AL.loadR tok rfl rfl rfl rfl rfl rfl ?_|refine qa4 tok ?_|refine qa5 tok ?_|refine AW.block ?_|refine AW.exit ?_|refine AW.skip ?_|((fail_if_success (refine AL.guard (b := true) rfl rfl ?_ ?_)); (fail_if_success (refine AL.guard (b := false) rfl rfl ?_ ?_)); refine AL.guard rfl rfl (fun hg => ?_) (fun hg => ?_) <;> ((try simp only [DX] at hg) <;> (try first|(exfalso; omega)|exact absurd trivial hg|exact False.elim hg|exact absurd rfl hg)))|refine AW.condT rfl ?_|refine AW.condF rfl ?_|(refine AW.cond rfl (fun hg => ?_) (fun hg => ?_) <;> ((try simp only [DX] at hg) <;> (try first|(exfalso; omega)|exact absurd trivial hg|exact False.elim hg|exact absurd rfl hg))))
      all_goals try exact (hnk ⟨by assumption, by assumption, by assumption, by assumption⟩).elim
      all_goals
        refine hK2 _ (k + 1) (by omega) (by omega) ?_
        (refine Imp.weakP id (fun _ _ _ _ h => h) (by simp only [List.map_cons, List.map_nil, net_rn]; rfl) (by first|(simp only [List.all_cons, List.all_nil, Bool.and_true]; exact net_lt _ _ _ (by decide))|(rw [List.all_cons, net_lt _ _ _ (by decide)]; rfl)) ?_ ?_ <;> (repeat' (first|exact trivial|exact Nat.lt_of_lt_of_le (Nat.lt_succ_self _) (Nat.le_of_ble_eq_true rfl)|exact rfl|exact Or.inl ⟨rfl, rfl⟩|exact Or.inr ⟨rfl, LF.fn _ _ ‹_›⟩|refine ⟨?_, ?_⟩)))
    · obtain rfl : k = j := by omega
      unfold hitB keyB at hhit
      simp only [Bool.and_eq_true, decide_eq_true_eq] at hhit
      obtain ⟨p1, p2, p3, p4⟩ := hhit
      have hja := hab a[k] (List.getElem_mem hj)
      repeat' (first|refine AL.do tok rfl rfl ?_|refine AL.nil ?_|refine AW.seq fun K hK => ?_|refine AW.region ?_|refine AL.no rfl rfl ?_|(refine hK _ ?_; clear hK)|(clear hK; refine hK _ ?_; clear hK)|(clear hK; clear hK; refine hK _ ?_; clear hK)|refine qaW ?_|refine qa1 tok ?_|refine qa2 tok ?_|refine qa3 tok ?_|refine AL.loadR tok rfl rfl rfl rfl rfl rfl ?_|refine qa4 tok ?_|refine qa5 tok ?_|refine AW.block ?_|refine AW.exit ?_|refine AW.skip ?_|((fail_if_success (refine AL.guard (b := true) rfl rfl ?_ ?_)); (fail_if_success (refine AL.guard (b := false) rfl rfl ?_ ?_)); refine AL.guard rfl rfl (fun hg => ?_) (fun hg => ?_) <;> ((try simp only [DX] at hg) <;> (try first|(exfalso; omega)|exact absurd trivial hg|exact False.elim hg|exact absurd rfl hg)))|refine AW.condT rfl ?_|refine AW.condF rfl ?_|(refine AW.cond rfl (fun hg => ?_) (fun hg => ?_) <;> ((try simp only [DX] at hg) <;> (try first|(exfalso; omega)|exact absurd trivial hg|exact False.elim hg|exact absurd rfl hg))))
      refine qa7 (vB a[k].d.bytes) ?_
      repeat (first|refine AL.do tok rfl rfl ?_|refine AL.nil ?_|refine AW.seq fun K hK => ?_|refine AW.region ?_|refine AL.no rfl rfl ?_|(refine hK _ ?_; clear hK)|(clear hK; refine hK _ ?_; clear hK)|(clear hK; clear hK; refine hK _ ?_; clear hK)|refine qaW ?_|refine qa1 tok ?_|refine qa2 tok ?_|refine qa3 tok ?_|refine AL.loadR tok rfl rfl rfl rfl rfl rfl ?_|refine qa4 tok ?_|refine qa5 tok ?_|refine AW.block ?_|refine AW.exit ?_|refine AW.skip ?_)
      refine qa7 (vB A[i].bytes) ?_
      repeat' (first|refine AL.do tok rfl rfl ?_|refine AL.nil ?_|refine AW.seq fun K hK => ?_|refine AW.region ?_|refine AL.no rfl rfl ?_|(refine hK _ ?_; clear hK)|(clear hK; refine hK _ ?_; clear hK)|(clear hK; clear hK; refine hK _ ?_; clear hK)|refine qaW ?_|refine qa1 tok ?_|refine qa2 tok ?_|refine qa3 tok ?_|refine AL.loadR tok rfl rfl rfl rfl rfl rfl ?_|refine qa4 tok ?_|refine qa5 tok ?_|refine AW.block ?_|refine AW.exit ?_|refine AW.skip ?_|((fail_if_success (refine AL.guard (b := true) rfl rfl ?_ ?_)); (fail_if_success (refine AL.guard (b := false) rfl rfl ?_ ?_)); refine AL.guard rfl rfl (fun hg => ?_) (fun hg => ?_) <;> ((try simp only [DX] at hg) <;> (try first|(exfalso; omega)|exact absurd trivial hg|exact False.elim hg|exact absurd rfl hg)))|refine AW.condT rfl ?_|refine AW.condF rfl ?_|(refine AW.cond rfl (fun hg => ?_) (fun hg => ?_) <;> ((try simp only [DX] at hg) <;> (try first|(exfalso; omega)|exact absurd trivial hg|exact False.elim hg|exact absurd rfl hg))))
      · refine AL.storeRPM tok (lessS a[k]) rfl rfl rfl hj rfl rfl rfl rfl (Nat.le_of_ble_eq_true rfl) rfl rfl ?_
        repeat (first|refine AL.do tok rfl rfl ?_|refine AL.nil ?_|refine AW.seq fun K hK => ?_|refine AW.region ?_|refine AL.no rfl rfl ?_|(refine hK _ ?_; clear hK)|(clear hK; refine hK _ ?_; clear hK)|(clear hK; clear hK; refine hK _ ?_; clear hK)|refine qaW ?_|refine qa1 tok ?_|refine qa2 tok ?_|refine qa3 tok ?_|refine AL.loadR tok rfl rfl rfl rfl rfl rfl ?_|refine qa4 tok ?_|refine qa5 tok ?_|refine AW.block ?_|refine AW.exit ?_|refine AW.skip ?_)
        refine hK1 _ (i + 1, a.set k (lessS a[k])) ⟨by show i + 1 ≤ A.length; omega, by simpa using hal, fun x hx => ?_, h2⟩ (by show A.length - (i + 1) < A.length - i; omega) ?_
        · rcases List.mem_or_eq_of_mem_set hx with h | rfl
          · exact hab x h
          · show a[k].left - 1 ≤ 1000000
            omega
        · (refine Imp.weakP id (fun _ _ _ _ h => h) (by simp only [List.map_cons, List.map_nil, net_rn]; rfl) (by first|(simp only [List.all_cons, List.all_nil, Bool.and_true]; exact net_lt _ _ _ (by decide))|(rw [List.all_cons, net_lt _ _ _ (by decide)]; rfl)) ?_ ?_ <;> (repeat' (first|exact trivial|exact Nat.lt_of_lt_of_le (Nat.lt_succ_self _) (Nat.le_of_ble_eq_true rfl)|exact rfl|exact Or.inl ⟨rfl, rfl⟩|exact Or.inr ⟨rfl, LF.fn _ _ ‹_›⟩|refine ⟨?_, ?_⟩)))
      · exact absurd p4 hg
  · obtain rfl : i = A.length := by omega
    rw [List.drop_length, decL] at hda
    cases hda
    repeat (first|refine AL.do tok rfl rfl ?_|refine AL.nil ?_|refine AW.seq fun K hK => ?_|refine AW.region ?_|refine AL.no rfl rfl ?_|(refine hK _ ?_; clear hK)|(clear hK; refine hK _ ?_; clear hK)|(clear hK; clear hK; refine hK _ ?_; clear hK)|refine qaW ?_|refine qa1 tok ?_|refine qa2 tok ?_|refine qa3 tok ?_|refine AL.loadR tok rfl rfl rfl rfl rfl rfl ?_|refine qa4 tok ?_|refine qa5 tok ?_|refine AW.block ?_|refine AW.exit ?_|refine AW.skip ?_)
    refine AW.cond rfl (fun hg => by simp at hg) (fun hg => ?_)
    repeat (first|refine AL.do tok rfl rfl ?_|refine AL.nil ?_|refine AW.seq fun K hK => ?_|refine AW.region ?_|refine AL.no rfl rfl ?_|(refine hK _ ?_; clear hK)|(clear hK; refine hK _ ?_; clear hK)|(clear hK; clear hK; refine hK _ ?_; clear hK)|refine qaW ?_|refine qa1 tok ?_|refine qa2 tok ?_|refine qa3 tok ?_|refine AL.loadR tok rfl rfl rfl rfl rfl rfl ?_|refine qa4 tok ?_|refine qa5 tok ?_|refine AW.block ?_|refine AW.exit ?_|refine AW.skip ?_)
    refine AW.ret ?_
    refine ⟨_, bo true, hpA n' 0 l', [wayR n'], [1], rfl, rfl, rfl, ⟨⟨rfl, rfl, rfl⟩, rfl, by simp, fun k j rw h1 h2 => ?_, by simp only [List.map_cons, List.map_nil, net_map]; rfl, by rw [List.all_cons, net_ok _ _ _ (by simp)]; rfl⟩⟩
    cases k with
    | zero => simp at h1 h2; subst h1; subst h2; rfl
    | succ k => simp at h1
end Go.Proofs.Try
