/- lease: Check. -/
import Derived.Test.YtlpnpjlnoeacnaaLeaF
import Derived.Test.YtlpnpjlnoeacnaaAM64
import Derived.Test.YtlpnpjlnoeacnaaWk
set_option linter.unusedSimpArgs false
set_option linter.unusedVariables false
namespace Go.Proofs.Try
open Go Go.AM

def chk1 (x : Le) : Int :=
  if inS x.tag 1 1099511627776 && (inS x.own 0 1099511627776 && inS x.til 0 1099511627776) then ent27 x.queue x.e 1 1099511627776 else 1
def chkL : List Le → List Le → Int
  | _, [] => 0
  | pre, x :: r => if chk1 x = 0 then (if ordS pre x.tag then 22 else if hasS pre x.queue x.e.num then 26 else chkL (pre ++ [x]) r) else chk1 x
def checkLs (l : List Le) : Int := if 4096 < l.length then 5 else chkL [] l
theorem chkL_step {l : List Le} {i : Nat} (h : i < l.length) : chkL (l.take i) (l.drop i) =
    if chk1 l[i] = 0 then (if ordS (l.take i) l[i].tag then 22 else if hasS (l.take i) l[i].queue l[i].e.num then 26 else chkL (l.take (i + 1)) (l.drop (i + 1))) else chk1 l[i] := by
  rw [List.drop_eq_getElem_cons h, chkL, List.take_append_getElem h]
theorem ordS_take {l : List Le} {i : Nat} (h : i < l.length) (tag : Int) : ordS (l.take i) tag = if h0 : 0 < i then decide (tag ≤ (l[i - 1]'(by omega)).tag) else false := by
  unfold ordS
  have hl : (l.take i).length = i := by rw [List.length_take]; omega
  by_cases h0 : 0 < i
  · rw [dif_pos (by omega), dif_pos h0]
    congr 2
    simp only [List.getElem_take, hl]
  · rw [dif_neg (by omega), dif_neg h0]
theorem chk1_zero {x : Le} (h : chk1 x = 0) : inS x.tag 1 1099511627776 = true ∧ inS x.own 0 1099511627776 = true ∧ inS x.til 0 1099511627776 = true ∧ nameS x.queue = true ∧ inS x.e.num 1 1099511627775 = true ∧ inS x.e.arr 0 1099511627776 = true ∧ inS x.e.att 1 1099511627776 = true ∧ checkM x.e.msg = 0 := by
  unfold chk1 ent27 at h
  generalize inS x.tag 1 1099511627776 = c1 at *
  generalize inS x.own 0 1099511627776 = c2 at *
  generalize inS x.til 0 1099511627776 = c3 at *
  generalize nameS x.queue = c4 at *
  generalize inS x.e.num 1 1099511627775 = c5 at *
  generalize inS x.e.arr 0 1099511627776 = c6 at *
  generalize inS x.e.att 1 1099511627776 = c7 at *
  cases c1 <;> cases c2 <;> cases c3 <;> cases c4 <;> cases c5 <;> cases c6 <;> cases c7 <;> first | (exfalso; simp at h; done) | exact ⟨rfl, rfl, rfl, rfl, rfl, rfl, rfl, by simpa using h⟩
abbrev RowsM := List (ByteArray × Nat × List Int)
def prM (r : ByteArray × Nat × List Int) : ByteArray × Nat := (r.1, r.2.1)
def findR : RowsM → ByteArray → Option (List Int)
  | [], _ => none
  | r :: rs, q => if q = r.1 then some r.2.2 else findR rs q
def seenS (rows : RowsM) (s : ByteArray) (n : Int) : Bool := match findR rows s with | some us => decide (n ∈ us) | none => false
theorem findR_none {q : ByteArray} : ∀ {rows : RowsM}, findR rows q = none → mmG (rows.map prM) q = none ∧ ∀ g us s, findR (rows ++ [(q, g, us)]) s = if s = q then some us else findR rows s
  | [], _ => ⟨rfl, fun g us s => rfl⟩
  | r :: rs, h => by
    by_cases e : q = r.1
    · rw [findR, if_pos e] at h; cases h
    · rw [findR, if_neg e] at h
      obtain ⟨h1, h2⟩ := findR_none h
      refine ⟨by rw [List.map_cons, mmG, if_neg (by exact e)]; exact h1, fun g us s => ?_⟩
      rw [List.cons_append, findR, findR]
      by_cases e2 : s = r.1
      · rw [if_pos e2, if_pos e2, if_neg (by rw [e2]; exact fun h => e h.symm)]
      · rw [if_neg e2, if_neg e2, h2]
theorem findR_some {q : ByteArray} {us : List Int} : ∀ {rows : RowsM}, findR rows q = some us → ∃ j g, rows[j]? = some (q, g, us) ∧ mmG (rows.map prM) q = some g ∧
    (∀ us', (rows.set j (q, g, us')).map prM = rows.map prM) ∧ ∀ us' s, findR (rows.set j (q, g, us')) s = if s = q then some us' else findR rows s
  | [], h => by cases h
  | r :: rs, h => by
    by_cases e : q = r.1
    · rw [findR, if_pos e] at h
      cases h
      refine ⟨0, r.2.1, by rw [e]; rfl, by rw [List.map_cons, mmG, if_pos (by exact e)]; rfl, fun us' => by simp [prM, e], fun us' s => ?_⟩
      rw [List.set_cons_zero, findR, findR]
      by_cases e2 : s = q
      · rw [if_pos e2, if_pos e2]
      · rw [if_neg e2, if_neg e2, if_neg (by rw [← e]; exact e2)]
    · rw [findR, if_neg e] at h
      obtain ⟨j, g, h1, h2, h3, h4⟩ := findR_some h
      refine ⟨j + 1, g, by simpa using h1, by rw [List.map_cons, mmG, if_neg (by exact e)]; exact h2, fun us' => by rw [List.set_cons_succ, List.map_cons, List.map_cons, h3], fun us' s => ?_⟩
      rw [List.set_cons_succ, findR, findR, h4]
      by_cases e2 : s = r.1
      · rw [if_pos e2, if_pos e2, if_neg (by rw [e2]; exact fun h => e h.symm)]
      · rw [if_neg e2, if_neg e2]
theorem mmG_app {q : ByteArray} {g : Nat} : ∀ {us : List (ByteArray × Nat)}, mmG us q = none → mmG (us ++ [(q, g)]) q = some g
  | [], _ => by simp [mmG]
  | p :: r, h => by
    by_cases e : q = p.1
    · rw [mmG, if_pos e] at h; cases h
    · rw [mmG, if_neg e] at h
      rw [List.cons_append, mmG, if_neg e]
      exact mmG_app h
/-- The inner maps, each a block. -/
def innH : Nat → RowsM → List (Nat × Option Blk)
  | _, [] => []
  | k, r :: rs => (k, some (.mpr r.2.1 (setE r.2.2) r.2.2.length)) :: innH (k + 1) rs
theorem lk_innH : ∀ {rows : RowsM} {j : Nat} {r : ByteArray × Nat × List Int} (k : Nat), rows[j]? = some r → lk (innH k rows) (k + j) = some (some (.mpr r.2.1 (setE r.2.2) r.2.2.length))
  | [], j, r, k, h => by simp at h
  | x :: rs, 0, r, k, h => by
    simp at h
    subst h
    exact lk_cons_self
  | x :: rs, j + 1, r, k, h => by
    rw [innH, lk_cons_ne (by omega), show k + (j + 1) = k + 1 + j by omega]
    exact lk_innH (k + 1) (by simpa using h)
theorem subH_inn {m : Nat → Nat} {c : Nat} {σ : St} : ∀ {rows : RowsM} {k : Nat}, (∀ (j : Nat) r, rows[j]? = some r → k + j < c ∧ hk σ (.loc (m (k + j))) = some (.mpr r.2.1 (setE r.2.2) r.2.2.length)) → subH m c σ (innH k rows)
  | [], k, _ => trivial
  | x :: rs, k, h => by
    refine ⟨⟨(h 0 x rfl).1, (h 0 x rfl).2, rfl⟩, subH_inn (k := k + 1) fun j r hr => ?_⟩
    have := h (j + 1) r (by simpa using hr)
    rwa [show k + (j + 1) = k + 1 + j by omega] at this
theorem hasS_take {l : List Le} {i : Nat} (h : i < l.length) (s : ByteArray) (n : Int) : hasS (l.take (i + 1)) s n = (hasS (l.take i) s n || isQ s n l[i]) := by
  unfold hasS
  rw [← List.take_append_getElem h, List.any_append]
  simp only [List.any_cons, List.any_nil, Bool.or_false]
theorem impInn (m : Nat → Nat) (hm0 : m 0 = 0) (hinj : ∀ j k, j < 5001 → k < 5001 → m j = m k → j = k) {n clk : Nat} {T : List (Nat × AV)} {H : List (Nat × Option Blk)} {rows : RowsM} {x13 x12 x11 x0 : D} {es : Array MapEntry} {c : Nat}
    (h13 : lk T 13 = some (.d x13)) (h12 : lk T 12 = some (.d x12)) (h11 : lk T 11 = some (.d x11)) (h0 : lk T 0 = some (.d x0)) (h3 : lk T 3 = some (.own (.loc 0)))
    (hob : lk H 0 = some (some (.mp es c))) (hold : ∀ (j : Nat) r, rows[j]? = some r → 1 + j < 5001 ∧ lk H (m (1 + j)) = some (some (.mpr r.2.1 (setE r.2.2) r.2.2.length))) :
    Imp ⟨n, T, H, [], clk⟩ ⟨n, [(13, .d x13), (12, .d x12), (11, .d x11), (3, .own (.loc 0)), (0, .d x0)], (0, some (.mp es c)) :: innH 1 rows, [], 5001⟩ := by
  refine Imp.weak m hinj (fun b hb => by cases hb) ⟨.inl ⟨h13, rfl⟩, .inl ⟨h12, rfl⟩, .inl ⟨h11, rfl⟩, .inl ⟨?_, rfl⟩, .inl ⟨h0, rfl⟩, trivial⟩ ⟨⟨by decide, ?_, rfl⟩, subH_inn fun j r hr => ⟨(hold j r hr).1, ?_⟩⟩
  · show _ = some (AV.own (.loc (m 0)))
    rw [hm0, h3]
  · simp only [hk]
    rw [hm0, hob]
    rfl
  · simp only [hk]
    rw [(hold j r hr).2]
set_option maxHeartbeats 16000000 in
set_option maxRecDepth 10000 in
theorem checkL_calls (l : List Le) (ho : OkL l) : ACallP Try.prog 9 [rowL l] (i64 (checkLs l)) := by
  have hlm : (l.map encL).length = l.length := List.length_map ..
  unfold checkLs
  by_cases hbig : 4096 < l.length
  · rw [if_pos hbig]
    refine ACalls.body tok Try.func9 rfl (by kernel_rfl) (by rw [Try.ntmps9]; simp) ?_
    simp only [Try.ntmps9, Try.results9, argT]
    repeat (first|refine AL.do tok rfl rfl ?_|refine AL.nil ?_|refine AW.seq fun K hK => ?_|refine AW.region ?_|refine AL.no rfl rfl ?_|(refine hK _ ?_; clear hK)|(clear hK; refine hK _ ?_; clear hK)|(clear hK; clear hK; refine hK _ ?_; clear hK)|refine qaW ?_|refine qa1 tok ?_|refine qa2 tok ?_|refine qa3 tok ?_|refine AL.loadR tok rfl rfl rfl rfl rfl rfl ?_|refine qa4 tok ?_|refine qa5 tok ?_|refine AW.block ?_|refine AW.exit ?_|refine AW.skip ?_)
    refine AW.cond rfl (fun hg => ?_) (fun hg => by simp at hg; omega)
    repeat (first|refine AL.do tok rfl rfl ?_|refine AL.nil ?_|refine AW.seq fun K hK => ?_|refine AW.region ?_|refine AL.no rfl rfl ?_|(refine hK _ ?_; clear hK)|(clear hK; refine hK _ ?_; clear hK)|(clear hK; clear hK; refine hK _ ?_; clear hK)|refine qaW ?_|refine qa1 tok ?_|refine qa2 tok ?_|refine qa3 tok ?_|refine AL.loadR tok rfl rfl rfl rfl rfl rfl ?_|refine qa4 tok ?_|refine qa5 tok ?_|refine AW.block ?_|refine AW.exit ?_|refine AW.skip ?_)
    refine AW.ret ?_
    refine ⟨_, _, _, _, rfl, Out.pure rfl ⟨?_, rfl⟩ rfl⟩
    rfl
  rw [if_neg hbig]
  refine ACalls.body tok Try.func9 rfl (by kernel_rfl) (by rw [Try.ntmps9]; simp) ?_
  simp only [Try.ntmps9, Try.results9, argT]
  repeat (first|refine AL.do tok rfl rfl ?_|refine AL.nil ?_|refine AW.seq fun K hK => ?_|refine AW.region ?_|refine AL.no rfl rfl ?_|(refine hK _ ?_; clear hK)|(clear hK; refine hK _ ?_; clear hK)|(clear hK; clear hK; refine hK _ ?_; clear hK)|refine qaW ?_|refine qa1 tok ?_|refine qa2 tok ?_|refine qa3 tok ?_|refine AL.loadR tok rfl rfl rfl rfl rfl rfl ?_|refine qa4 tok ?_|refine qa5 tok ?_|refine AW.block ?_|refine AW.exit ?_|refine AW.skip ?_)
  refine AW.cond rfl (fun hg => by simp at hg; omega) (fun hg => ?_)
  repeat (first|refine AL.do tok rfl rfl ?_|refine AL.nil ?_|refine AW.seq fun K hK => ?_|refine AW.region ?_|refine AL.no rfl rfl ?_|(refine hK _ ?_; clear hK)|(clear hK; refine hK _ ?_; clear hK)|(clear hK; clear hK; refine hK _ ?_; clear hK)|refine qaW ?_|refine qa1 tok ?_|refine qa2 tok ?_|refine qa3 tok ?_|refine AL.loadR tok rfl rfl rfl rfl rfl rfl ?_|refine qa4 tok ?_|refine qa5 tok ?_|refine AW.block ?_|refine AW.exit ?_|refine AW.skip ?_)
  refine AL.makeMap tok ?_
  repeat (first|refine AL.do tok rfl rfl ?_|refine AL.nil ?_|refine AW.seq fun K hK => ?_|refine AW.region ?_|refine AL.no rfl rfl ?_|(refine hK _ ?_; clear hK)|(clear hK; refine hK _ ?_; clear hK)|(clear hK; clear hK; refine hK _ ?_; clear hK)|refine qaW ?_|refine qa1 tok ?_|refine qa2 tok ?_|refine qa3 tok ?_|refine AL.loadR tok rfl rfl rfl rfl rfl rfl ?_|refine qa4 tok ?_|refine qa5 tok ?_|refine AW.block ?_|refine AW.exit ?_|refine AW.skip ?_)
  (try simp only [hlm])
  refine AW.loop (ι := Nat × RowsM) (fun p => ⟨102, [(13, i64 p.1), (12, i64 l.length), (11, rowL l), (3, .own (.loc 0)), (0, rowL l)], (0, some (.mp (mmA (p.2.map prM)) (p.2.map prM).length)) :: innH 1 p.2, [], 5001⟩)
    (fun p => p.1 ≤ l.length ∧ p.2.length ≤ p.1 ∧ (∀ s n, hasS (l.take p.1) s n = seenS p.2 s n) ∧ chkL (l.take p.1) (l.drop p.1) = chkL [] l) (fun p => l.length - p.1) (0, []) ⟨Nat.zero_le _, Nat.le_refl _, fun s n => rfl, rfl⟩ ?_ ?_
  · (refine Imp.weak id (fun _ _ _ _ h => h) (by first|assumption|(intro b hb; cases hb)) ?_ ?_ <;> (repeat' (first|exact trivial|exact Nat.lt_of_lt_of_le (Nat.lt_succ_self _) (Nat.le_of_ble_eq_true rfl)|exact rfl|exact Or.inl ⟨rfl, rfl⟩|exact Or.inr ⟨rfl, LF.fn _ _ ‹_›⟩|refine ⟨?_, ?_⟩)))
  rintro ⟨i, rows⟩ ⟨hi, hrl, hseen, hf⟩ K1 hK1
  have hlen : l.length ≤ 4096 := by omega
  simp only at hi hrl
  by_cases hlt : i < l.length
  rotate_left
  · repeat (first|refine AL.do tok rfl rfl ?_|refine AL.nil ?_|refine AW.seq fun K hK => ?_|refine AW.region ?_|refine AL.no rfl rfl ?_|(refine hK _ ?_; clear hK)|(clear hK; refine hK _ ?_; clear hK)|(clear hK; clear hK; refine hK _ ?_; clear hK)|refine qaW ?_|refine qa1 tok ?_|refine qa2 tok ?_|refine qa3 tok ?_|refine AL.loadR tok rfl rfl rfl rfl rfl rfl ?_|refine qa4 tok ?_|refine qa5 tok ?_|refine AW.block ?_|refine AW.exit ?_|refine AW.skip ?_)
    refine AW.cond rfl (fun hg => by simp at hg; omega) (fun hg => ?_)
    repeat (first|refine AL.do tok rfl rfl ?_|refine AL.nil ?_|refine AW.seq fun K hK => ?_|refine AW.region ?_|refine AL.no rfl rfl ?_|(refine hK _ ?_; clear hK)|(clear hK; refine hK _ ?_; clear hK)|(clear hK; clear hK; refine hK _ ?_; clear hK)|refine qaW ?_|refine qa1 tok ?_|refine qa2 tok ?_|refine qa3 tok ?_|refine AL.loadR tok rfl rfl rfl rfl rfl rfl ?_|refine qa4 tok ?_|refine qa5 tok ?_|refine AW.block ?_|refine AW.exit ?_|refine AW.skip ?_)
    refine AW.ret ?_
    refine ⟨_, _, _, _, rfl, Out.pure rfl ⟨?_, rfl⟩ rfl⟩
    rw [← hf, List.drop_eq_nil_of_le (by omega)]
    rfl
  have hst := chkL_step hlt
  have hord := ordS_take hlt l[i].tag
  have hhs := hseen l[i].queue l[i].e.num
  have hnx := hasS_take hlt
  have k1 := within_calls l[i].tag 1 1099511627776
  have k2 := within_calls l[i].own 0 1099511627776
  have k3 := within_calls l[i].til 0 1099511627776
  have k4 := name_calls l[i].queue
  have k5 := within_calls l[i].e.num 1 1099511627775
  have k6 := within_calls l[i].e.arr 0 1099511627776
  have k7 := within_calls l[i].e.att 1 1099511627776
  have k8 := checkM_calls l[i].e.msg (by have := (ho _ (List.getElem_mem hlt)).1; omega)
  rw [← hf, hst]
  by_cases h1 : chk1 l[i] = 0
  · rw [if_pos h1]
    clear hst
    obtain ⟨e1, e2, e3, e4, e5, e6, e7, e8⟩ := chk1_zero h1
    rw [e1] at k1
    rw [e2] at k2
    rw [e3] at k3
    rw [e4] at k4
    rw [e5] at k5
    rw [e6] at k6
    rw [e7] at k7
    rw [e8] at k8
    clear e1 e2 e3 e4 e5 e6 e7 e8
    have hix : ((i : Int) - 1).toNat = i - 1 := by omega
    have hlt2 : ∀ m : Nat, m = i - 1 → ∀ h : m < l.length, l[m].tag = (l[i - 1]'(by omega)).tag := fun m h1 h2 => by subst h1; rfl
    -- behind the order
    by_cases hb : ordS (l.take i) l[i].tag = true
    · rw [if_pos hb]
      rw [hord] at hb
      have h0 : 0 < i := by
        rcases Nat.eq_zero_or_pos i with h | h
        · rw [dif_neg (by omega)] at hb; cases hb
        · exact h
      rw [dif_pos h0] at hb
      repeat' (first|refine AL.do tok rfl rfl ?_|refine AL.nil ?_|refine AW.seq fun K hK => ?_|refine AW.region ?_|refine AL.no rfl rfl ?_|(refine hK _ ?_; clear hK)|(clear hK; refine hK _ ?_; clear hK)|(clear hK; clear hK; refine hK _ ?_; clear hK)|refine qaW ?_|refine qa1 tok ?_|refine qa2 tok ?_|refine qa3 tok ?_|refine AL.loadR tok rfl rfl rfl rfl rfl rfl ?_|refine qa4 tok ?_|refine qa5 tok ?_|refine AW.block ?_|refine AW.exit ?_|refine AW.skip ?_|refine qc1 (k1 ..) ?_|refine qc2 (k1 ..) ?_|refine qc1 (k2 ..) ?_|refine qc2 (k2 ..) ?_|refine qc1 (k3 ..) ?_|refine qc2 (k3 ..) ?_|refine qc1 (k4 ..) ?_|refine qc2 (k4 ..) ?_|refine qc1 (k5 ..) ?_|refine qc2 (k5 ..) ?_|refine qc1 (k6 ..) ?_|refine qc2 (k6 ..) ?_|refine qc1 (k7 ..) ?_|refine qc2 (k7 ..) ?_|refine qc1 (k8 ..) ?_|refine qc2 (k8 ..) ?_|((fail_if_success (refine AL.guard (b := true) rfl rfl ?_ ?_)); (fail_if_success (refine AL.guard (b := false) rfl rfl ?_ ?_)); refine AL.guard rfl rfl (fun hg => ?_) (fun hg => ?_) <;> ((try simp only [DX] at hg) <;> (try first|(exfalso; omega)|exact absurd trivial hg|exact False.elim hg|exact absurd rfl hg)))|refine AW.condT rfl ?_|refine AW.condF rfl ?_|(refine AW.cond rfl (fun hg => ?_) (fun hg => ?_) <;> ((try simp only [DX] at hg) <;> (try first|(exfalso; omega)|exact absurd trivial hg|exact False.elim hg|exact absurd rfl hg))))
      all_goals (try simp only [DX] at *)
      all_goals try (exfalso; first | exact hg | exact hg rfl | omega | contradiction)
      refine AW.drawn mix (by kernel_rfl) ?_
      repeat' (first|refine AQ.do tok rfl rfl rfl ?_|refine AQ.no rfl rfl ?_|refine qqW ?_|refine AQ.nil ?_|(refine AQ.guard rfl rfl (fun hg => ?_) (fun hg => ?_) <;> ((try simp only [DX] at hg) <;> (try first|(exfalso; omega)|exact absurd trivial hg|exact False.elim hg|exact absurd rfl hg))))
      all_goals (try simp only [DX] at *)
      all_goals try (exfalso; omega)
      repeat (first|refine AL.do tok rfl rfl ?_|refine AL.nil ?_|refine AW.seq fun K hK => ?_|refine AW.region ?_|refine AL.no rfl rfl ?_|(refine hK _ ?_; clear hK)|(clear hK; refine hK _ ?_; clear hK)|(clear hK; clear hK; refine hK _ ?_; clear hK)|refine qaW ?_|refine qa1 tok ?_|refine qa2 tok ?_|refine qa3 tok ?_|refine AL.loadR tok rfl rfl rfl rfl rfl rfl ?_|refine qa4 tok ?_|refine qa5 tok ?_|refine AW.block ?_|refine AW.exit ?_|refine AW.skip ?_)
      refine AW.cond rfl (fun hg => ?_) (fun hg => ?_)
      rotate_left
      · have := hlt2 _ hix (by omega)
        simp at hg
        omega
      repeat (first|refine AL.do tok rfl rfl ?_|refine AL.nil ?_|refine AW.seq fun K hK => ?_|refine AW.region ?_|refine AL.no rfl rfl ?_|(refine hK _ ?_; clear hK)|(clear hK; refine hK _ ?_; clear hK)|(clear hK; clear hK; refine hK _ ?_; clear hK)|refine qaW ?_|refine qa1 tok ?_|refine qa2 tok ?_|refine qa3 tok ?_|refine AL.loadR tok rfl rfl rfl rfl rfl rfl ?_|refine qa4 tok ?_|refine qa5 tok ?_|refine AW.block ?_|refine AW.exit ?_|refine AW.skip ?_)
      refine AW.ret ?_
      refine ⟨_, _, _, _, rfl, Out.pure rfl ⟨?_, rfl⟩ rfl⟩
      rfl
    · rw [if_neg hb]
      have hb0 := hb
      rw [hord] at hb
      by_cases h0 : 0 < i
      · rw [dif_pos h0] at hb
        have hb : ¬ l[i].tag ≤ l[i - 1].tag := by simpa using hb
        repeat' (first|refine AL.do tok rfl rfl ?_|refine AL.nil ?_|refine AW.seq fun K hK => ?_|refine AW.region ?_|refine AL.no rfl rfl ?_|(refine hK _ ?_; clear hK)|(clear hK; refine hK _ ?_; clear hK)|(clear hK; clear hK; refine hK _ ?_; clear hK)|refine qaW ?_|refine qa1 tok ?_|refine qa2 tok ?_|refine qa3 tok ?_|refine AL.loadR tok rfl rfl rfl rfl rfl rfl ?_|refine qa4 tok ?_|refine qa5 tok ?_|refine AW.block ?_|refine AW.exit ?_|refine AW.skip ?_|refine qc1 (k1 ..) ?_|refine qc2 (k1 ..) ?_|refine qc1 (k2 ..) ?_|refine qc2 (k2 ..) ?_|refine qc1 (k3 ..) ?_|refine qc2 (k3 ..) ?_|refine qc1 (k4 ..) ?_|refine qc2 (k4 ..) ?_|refine qc1 (k5 ..) ?_|refine qc2 (k5 ..) ?_|refine qc1 (k6 ..) ?_|refine qc2 (k6 ..) ?_|refine qc1 (k7 ..) ?_|refine qc2 (k7 ..) ?_|refine qc1 (k8 ..) ?_|refine qc2 (k8 ..) ?_|((fail_if_success (refine AL.guard (b := true) rfl rfl ?_ ?_)); (fail_if_success (refine AL.guard (b := false) rfl rfl ?_ ?_)); refine AL.guard rfl rfl (fun hg => ?_) (fun hg => ?_) <;> ((try simp only [DX] at hg) <;> (try first|(exfalso; omega)|exact absurd trivial hg|exact False.elim hg|exact absurd rfl hg)))|refine AW.condT rfl ?_|refine AW.condF rfl ?_|(refine AW.cond rfl (fun hg => ?_) (fun hg => ?_) <;> ((try simp only [DX] at hg) <;> (try first|(exfalso; omega)|exact absurd trivial hg|exact False.elim hg|exact absurd rfl hg))))
        all_goals (try simp only [DX] at *)
        all_goals try (exfalso; first | exact hg | exact hg rfl | omega | contradiction)
        refine AW.drawn mix (by kernel_rfl) ?_
        repeat' (first|refine AQ.do tok rfl rfl rfl ?_|refine AQ.no rfl rfl ?_|refine qqW ?_|refine AQ.nil ?_|(refine AQ.guard rfl rfl (fun hg => ?_) (fun hg => ?_) <;> ((try simp only [DX] at hg) <;> (try first|(exfalso; omega)|exact absurd trivial hg|exact False.elim hg|exact absurd rfl hg))))
        all_goals (try simp only [DX] at *)
        all_goals try (exfalso; omega)
        repeat (first|refine AL.do tok rfl rfl ?_|refine AL.nil ?_|refine AW.seq fun K hK => ?_|refine AW.region ?_|refine AL.no rfl rfl ?_|(refine hK _ ?_; clear hK)|(clear hK; refine hK _ ?_; clear hK)|(clear hK; clear hK; refine hK _ ?_; clear hK)|refine qaW ?_|refine qa1 tok ?_|refine qa2 tok ?_|refine qa3 tok ?_|refine AL.loadR tok rfl rfl rfl rfl rfl rfl ?_|refine qa4 tok ?_|refine qa5 tok ?_|refine AW.block ?_|refine AW.exit ?_|refine AW.skip ?_)
        refine AW.cond rfl (fun hg => ?_) (fun _ => ?_)
        · have := hlt2 _ hix (by omega)
          simp at hg
          omega
        repeat (first|refine AL.do tok rfl rfl ?_|refine AL.nil ?_|refine AW.seq fun K hK => ?_|refine AW.region ?_|refine AL.no rfl rfl ?_|(refine hK _ ?_; clear hK)|(clear hK; refine hK _ ?_; clear hK)|(clear hK; clear hK; refine hK _ ?_; clear hK)|refine qaW ?_|refine qa1 tok ?_|refine qa2 tok ?_|refine qa3 tok ?_|refine AL.loadR tok rfl rfl rfl rfl rfl rfl ?_|refine qa4 tok ?_|refine qa5 tok ?_|refine AW.block ?_|refine AW.exit ?_|refine AW.skip ?_)
        refine AL.v rfl rfl (qv37 tok) ?_
        repeat (first|refine AL.do tok rfl rfl ?_|refine AL.nil ?_|refine AW.seq fun K hK => ?_|refine AW.region ?_|refine AL.no rfl rfl ?_|(refine hK _ ?_; clear hK)|(clear hK; refine hK _ ?_; clear hK)|(clear hK; clear hK; refine hK _ ?_; clear hK)|refine qaW ?_|refine qa1 tok ?_|refine qa2 tok ?_|refine qa3 tok ?_|refine AL.loadR tok rfl rfl rfl rfl rfl rfl ?_|refine qa4 tok ?_|refine qa5 tok ?_|refine AW.block ?_|refine AW.exit ?_|refine AW.skip ?_)
        refine AL.v rfl rfl (qv38 tok) ?_
        repeat (first|refine AL.do tok rfl rfl ?_|refine AL.nil ?_|refine AW.seq fun K hK => ?_|refine AW.region ?_|refine AL.no rfl rfl ?_|(refine hK _ ?_; clear hK)|(clear hK; refine hK _ ?_; clear hK)|(clear hK; clear hK; refine hK _ ?_; clear hK)|refine qaW ?_|refine qa1 tok ?_|refine qa2 tok ?_|refine qa3 tok ?_|refine AL.loadR tok rfl rfl rfl rfl rfl rfl ?_|refine qa4 tok ?_|refine qa5 tok ?_|refine AW.block ?_|refine AW.exit ?_|refine AW.skip ?_)
        cases hfr : findR rows l[i].queue with
        | none =>
          obtain ⟨g1, g2⟩ := findR_none hfr
          have hh : hasS (l.take i) l[i].queue l[i].e.num = false := by rw [hhs, seenS, hfr]
          rw [if_neg (by rw [hh]; decide), g1]
          refine AW.cond rfl (fun _ => ?_) (fun hg => by cases hg)
          repeat (first|refine AL.do tok rfl rfl ?_|refine AL.nil ?_|refine AW.seq fun K hK => ?_|refine AW.region ?_|refine AL.no rfl rfl ?_|(refine hK _ ?_; clear hK)|(clear hK; refine hK _ ?_; clear hK)|(clear hK; clear hK; refine hK _ ?_; clear hK)|refine qaW ?_|refine qa1 tok ?_|refine qa2 tok ?_|refine qa3 tok ?_|refine AL.loadR tok rfl rfl rfl rfl rfl rfl ?_|refine qa4 tok ?_|refine qa5 tok ?_|refine AW.block ?_|refine AW.exit ?_|refine AW.skip ?_)
          refine AL.makeMapR (fun gb => ?_)
          repeat (first|refine AL.do tok rfl rfl ?_|refine AL.nil ?_|refine AW.seq fun K hK => ?_|refine AW.region ?_|refine AL.no rfl rfl ?_|(refine hK _ ?_; clear hK)|(clear hK; refine hK _ ?_; clear hK)|(clear hK; clear hK; refine hK _ ?_; clear hK)|refine qaW ?_|refine qa1 tok ?_|refine qa2 tok ?_|refine qa3 tok ?_|refine AL.loadR tok rfl rfl rfl rfl rfl rfl ?_|refine qa4 tok ?_|refine qa5 tok ?_|refine AW.block ?_|refine AW.exit ?_|refine AW.skip ?_)
          refine AL.updR tok g1 ?_
          repeat (first|refine AL.do tok rfl rfl ?_|refine AL.nil ?_|refine AW.seq fun K hK => ?_|refine AW.region ?_|refine AL.no rfl rfl ?_|(refine hK _ ?_; clear hK)|(clear hK; refine hK _ ?_; clear hK)|(clear hK; clear hK; refine hK _ ?_; clear hK)|refine qaW ?_|refine qa1 tok ?_|refine qa2 tok ?_|refine qa3 tok ?_|refine AL.loadR tok rfl rfl rfl rfl rfl rfl ?_|refine qa4 tok ?_|refine qa5 tok ?_|refine AW.block ?_|refine AW.exit ?_|refine AW.skip ?_)
          refine AL.v rfl rfl (qv37 tok) ?_
          rw [mmG_app g1]
          repeat (first|refine AL.do tok rfl rfl ?_|refine AL.nil ?_|refine AW.seq fun K hK => ?_|refine AW.region ?_|refine AL.no rfl rfl ?_|(refine hK _ ?_; clear hK)|(clear hK; refine hK _ ?_; clear hK)|(clear hK; clear hK; refine hK _ ?_; clear hK)|refine qaW ?_|refine qa1 tok ?_|refine qa2 tok ?_|refine qa3 tok ?_|refine AL.loadR tok rfl rfl rfl rfl rfl rfl ?_|refine qa4 tok ?_|refine qa5 tok ?_|refine AW.block ?_|refine AW.exit ?_|refine AW.skip ?_)
          refine AL.v rfl rfl (VOp.seenR (us := []) (id := .loc 5002) tok rfl) ?_
          repeat (first|refine AL.do tok rfl rfl ?_|refine AL.nil ?_|refine AW.seq fun K hK => ?_|refine AW.region ?_|refine AL.no rfl rfl ?_|(refine hK _ ?_; clear hK)|(clear hK; refine hK _ ?_; clear hK)|(clear hK; clear hK; refine hK _ ?_; clear hK)|refine qaW ?_|refine qa1 tok ?_|refine qa2 tok ?_|refine qa3 tok ?_|refine AL.loadR tok rfl rfl rfl rfl rfl rfl ?_|refine qa4 tok ?_|refine qa5 tok ?_|refine AW.block ?_|refine AW.exit ?_|refine AW.skip ?_)
          refine AW.cond rfl (fun hg => by simp at hg) (fun _ => ?_)
          repeat (first|refine AL.do tok rfl rfl ?_|refine AL.nil ?_|refine AW.seq fun K hK => ?_|refine AW.region ?_|refine AL.no rfl rfl ?_|(refine hK _ ?_; clear hK)|(clear hK; refine hK _ ?_; clear hK)|(clear hK; clear hK; refine hK _ ?_; clear hK)|refine qaW ?_|refine qa1 tok ?_|refine qa2 tok ?_|refine qa3 tok ?_|refine AL.loadR tok rfl rfl rfl rfl rfl rfl ?_|refine qa4 tok ?_|refine qa5 tok ?_|refine AW.block ?_|refine AW.exit ?_|refine AW.skip ?_)
          refine AL.v rfl rfl (qv37 tok) ?_
          rw [mmG_app g1]
          repeat (first|refine AL.do tok rfl rfl ?_|refine AL.nil ?_|refine AW.seq fun K hK => ?_|refine AW.region ?_|refine AL.no rfl rfl ?_|(refine hK _ ?_; clear hK)|(clear hK; refine hK _ ?_; clear hK)|(clear hK; clear hK; refine hK _ ?_; clear hK)|refine qaW ?_|refine qa1 tok ?_|refine qa2 tok ?_|refine qa3 tok ?_|refine AL.loadR tok rfl rfl rfl rfl rfl rfl ?_|refine qa4 tok ?_|refine qa5 tok ?_|refine AW.block ?_|refine AW.exit ?_|refine AW.skip ?_)
          refine AL.addR (us := []) (i := 5002) tok (by simp) rfl ?_
          repeat (first|refine AL.do tok rfl rfl ?_|refine AL.nil ?_|refine AW.seq fun K hK => ?_|refine AW.region ?_|refine AL.no rfl rfl ?_|(refine hK _ ?_; clear hK)|(clear hK; refine hK _ ?_; clear hK)|(clear hK; clear hK; refine hK _ ?_; clear hK)|refine qaW ?_|refine qa1 tok ?_|refine qa2 tok ?_|refine qa3 tok ?_|refine AL.loadR tok rfl rfl rfl rfl rfl rfl ?_|refine qa4 tok ?_|refine qa5 tok ?_|refine AW.block ?_|refine AW.exit ?_|refine AW.skip ?_)
          refine hK1 _ (i + 1, rows ++ [(l[i].queue, gb, [l[i].e.num])]) ⟨by omega, by simp; omega, fun s n => ?_, ?_⟩ (by simp only; omega) ?_
          · simp only
            rw [hnx, hseen]
            unfold seenS
            rw [g2]
            by_cases hs : s = l[i].queue
            · subst hs
              rw [if_pos rfl, hfr]
              simp [isQ, eq_comm]
            · rw [if_neg hs]
              simp [isQ, Ne.symm hs]
          · simp only
            rw [← hf, chkL_step hlt, if_pos h1, if_neg hb0, if_neg (by rw [hh]; decide)]
          · have e1 : (rows ++ [(l[i].queue, gb, [l[i].e.num])]).map prM = rows.map prM ++ [(l[i].queue, gb)] := List.map_append ..
            simp only
            rw [e1, List.length_append]
            refine impInn (fun k => if k = 1 + rows.length then 5002 else k) (if_neg (by omega)) (fun j k h1 h2 h => by by_cases e1 : j = 1 + rows.length <;> by_cases e2 : k = 1 + rows.length <;> simp [e1, e2] at h <;> omega) rfl rfl rfl rfl rfl rfl (fun j r hr => ?_)
            rcases Nat.lt_or_ge j rows.length with hj | hj
            · rw [List.getElem?_append_left hj] at hr
              refine ⟨by omega, ?_⟩
              rw [if_neg (by omega)]
              (repeat rw [lk_cons_ne (by omega)])
              exact lk_innH 1 hr
            · have hj2 : j = rows.length := by
                have := (List.getElem?_eq_some_iff.1 hr).1
                simp at this
                omega
              subst hj2
              rw [List.getElem?_append_right (Nat.le_refl _)] at hr
              simp at hr
              subst hr
              refine ⟨by omega, ?_⟩
              rw [if_pos rfl]
              rfl
        | some us =>
          obtain ⟨j, gb, j1, j2, j3, j4⟩ := findR_some hfr
          have hjl := (List.getElem?_eq_some_iff.1 j1).1
          have hh : hasS (l.take i) l[i].queue l[i].e.num = decide (l[i].e.num ∈ us) := by rw [hhs, seenS, hfr]
          rw [j2]
          refine AW.cond rfl (fun hg => by cases hg) (fun _ => ?_)
          repeat (first|refine AL.do tok rfl rfl ?_|refine AL.nil ?_|refine AW.seq fun K hK => ?_|refine AW.region ?_|refine AL.no rfl rfl ?_|(refine hK _ ?_; clear hK)|(clear hK; refine hK _ ?_; clear hK)|(clear hK; clear hK; refine hK _ ?_; clear hK)|refine qaW ?_|refine qa1 tok ?_|refine qa2 tok ?_|refine qa3 tok ?_|refine AL.loadR tok rfl rfl rfl rfl rfl rfl ?_|refine qa4 tok ?_|refine qa5 tok ?_|refine AW.block ?_|refine AW.exit ?_|refine AW.skip ?_)
          refine AL.v rfl rfl (qv37 tok) ?_
          rw [j2]
          repeat (first|refine AL.do tok rfl rfl ?_|refine AL.nil ?_|refine AW.seq fun K hK => ?_|refine AW.region ?_|refine AL.no rfl rfl ?_|(refine hK _ ?_; clear hK)|(clear hK; refine hK _ ?_; clear hK)|(clear hK; clear hK; refine hK _ ?_; clear hK)|refine qaW ?_|refine qa1 tok ?_|refine qa2 tok ?_|refine qa3 tok ?_|refine AL.loadR tok rfl rfl rfl rfl rfl rfl ?_|refine qa4 tok ?_|refine qa5 tok ?_|refine AW.block ?_|refine AW.exit ?_|refine AW.skip ?_)
          refine AL.v rfl rfl (VOp.seenR (us := us) (c := us.length) (id := .loc (1 + j)) tok (by simp only [hk]; (repeat rw [lk_cons_ne (by omega)]); rw [lk_innH 1 j1])) ?_
          repeat (first|refine AL.do tok rfl rfl ?_|refine AL.nil ?_|refine AW.seq fun K hK => ?_|refine AW.region ?_|refine AL.no rfl rfl ?_|(refine hK _ ?_; clear hK)|(clear hK; refine hK _ ?_; clear hK)|(clear hK; clear hK; refine hK _ ?_; clear hK)|refine qaW ?_|refine qa1 tok ?_|refine qa2 tok ?_|refine qa3 tok ?_|refine AL.loadR tok rfl rfl rfl rfl rfl rfl ?_|refine qa4 tok ?_|refine qa5 tok ?_|refine AW.block ?_|refine AW.exit ?_|refine AW.skip ?_)
          refine AW.cond rfl (fun hg => ?_) (fun hg => ?_)
          · rw [if_pos (by rw [hh]; simpa using hg)]
            repeat (first|refine AL.do tok rfl rfl ?_|refine AL.nil ?_|refine AW.seq fun K hK => ?_|refine AW.region ?_|refine AL.no rfl rfl ?_|(refine hK _ ?_; clear hK)|(clear hK; refine hK _ ?_; clear hK)|(clear hK; clear hK; refine hK _ ?_; clear hK)|refine qaW ?_|refine qa1 tok ?_|refine qa2 tok ?_|refine qa3 tok ?_|refine AL.loadR tok rfl rfl rfl rfl rfl rfl ?_|refine qa4 tok ?_|refine qa5 tok ?_|refine AW.block ?_|refine AW.exit ?_|refine AW.skip ?_)
            refine AW.ret ?_
            refine ⟨_, _, _, _, rfl, Out.pure rfl ⟨?_, rfl⟩ rfl⟩
            rfl
          have hnm : l[i].e.num ∉ us := by simpa using hg
          rw [if_neg (by rw [hh]; simpa using hg)]
          repeat (first|refine AL.do tok rfl rfl ?_|refine AL.nil ?_|refine AW.seq fun K hK => ?_|refine AW.region ?_|refine AL.no rfl rfl ?_|(refine hK _ ?_; clear hK)|(clear hK; refine hK _ ?_; clear hK)|(clear hK; clear hK; refine hK _ ?_; clear hK)|refine qaW ?_|refine qa1 tok ?_|refine qa2 tok ?_|refine qa3 tok ?_|refine AL.loadR tok rfl rfl rfl rfl rfl rfl ?_|refine qa4 tok ?_|refine qa5 tok ?_|refine AW.block ?_|refine AW.exit ?_|refine AW.skip ?_)
          refine AL.v rfl rfl (qv37 tok) ?_
          rw [j2]
          repeat (first|refine AL.do tok rfl rfl ?_|refine AL.nil ?_|refine AW.seq fun K hK => ?_|refine AW.region ?_|refine AL.no rfl rfl ?_|(refine hK _ ?_; clear hK)|(clear hK; refine hK _ ?_; clear hK)|(clear hK; clear hK; refine hK _ ?_; clear hK)|refine qaW ?_|refine qa1 tok ?_|refine qa2 tok ?_|refine qa3 tok ?_|refine AL.loadR tok rfl rfl rfl rfl rfl rfl ?_|refine qa4 tok ?_|refine qa5 tok ?_|refine AW.block ?_|refine AW.exit ?_|refine AW.skip ?_)
          refine AL.addR (us := us) (i := 1 + j) tok hnm (by simp only [hk]; (repeat rw [lk_cons_ne (by omega)]); rw [lk_innH 1 j1]) ?_
          repeat (first|refine AL.do tok rfl rfl ?_|refine AL.nil ?_|refine AW.seq fun K hK => ?_|refine AW.region ?_|refine AL.no rfl rfl ?_|(refine hK _ ?_; clear hK)|(clear hK; refine hK _ ?_; clear hK)|(clear hK; clear hK; refine hK _ ?_; clear hK)|refine qaW ?_|refine qa1 tok ?_|refine qa2 tok ?_|refine qa3 tok ?_|refine AL.loadR tok rfl rfl rfl rfl rfl rfl ?_|refine qa4 tok ?_|refine qa5 tok ?_|refine AW.block ?_|refine AW.exit ?_|refine AW.skip ?_)
          refine hK1 _ (i + 1, rows.set j (l[i].queue, gb, us ++ [l[i].e.num])) ⟨by omega, by simp; omega, fun s n => ?_, ?_⟩ (by simp only; omega) ?_
          · simp only
            rw [hnx, hseen]
            unfold seenS
            rw [j4]
            by_cases hs : s = l[i].queue
            · subst hs
              rw [if_pos rfl, hfr]
              simp [isQ, eq_comm]
            · rw [if_neg hs]
              simp [isQ, Ne.symm hs]
          · simp only
            rw [← hf, chkL_step hlt, if_pos h1, if_neg hb0, if_neg (by rw [hh]; simpa using hnm)]
          · simp only
            rw [j3]
            refine impInn id rfl (fun j k h1 h2 h => h) rfl rfl rfl rfl rfl ?_ (fun k r hr => ?_)
            · (repeat rw [lk_cons_ne (by omega)])
              rfl
            · have hk := (List.getElem?_eq_some_iff.1 hr).1
              rw [List.length_set] at hk
              refine ⟨by omega, ?_⟩
              by_cases hkj : k = j
              · subst hkj
                rw [List.getElem?_set_self hk] at hr
                cases hr
                show lk _ (1 + k) = _
                rw [lk_cons_self]
                simp
              · rw [List.getElem?_set_ne (fun h => hkj h.symm)] at hr
                show lk _ (1 + k) = _
                (repeat rw [lk_cons_ne (by omega)])
                exact lk_innH 1 hr
      · repeat' (first|refine AL.do tok rfl rfl ?_|refine AL.nil ?_|refine AW.seq fun K hK => ?_|refine AW.region ?_|refine AL.no rfl rfl ?_|(refine hK _ ?_; clear hK)|(clear hK; refine hK _ ?_; clear hK)|(clear hK; clear hK; refine hK _ ?_; clear hK)|refine qaW ?_|refine qa1 tok ?_|refine qa2 tok ?_|refine qa3 tok ?_|refine AL.loadR tok rfl rfl rfl rfl rfl rfl ?_|refine qa4 tok ?_|refine qa5 tok ?_|refine AW.block ?_|refine AW.exit ?_|refine AW.skip ?_|refine qc1 (k1 ..) ?_|refine qc2 (k1 ..) ?_|refine qc1 (k2 ..) ?_|refine qc2 (k2 ..) ?_|refine qc1 (k3 ..) ?_|refine qc2 (k3 ..) ?_|refine qc1 (k4 ..) ?_|refine qc2 (k4 ..) ?_|refine qc1 (k5 ..) ?_|refine qc2 (k5 ..) ?_|refine qc1 (k6 ..) ?_|refine qc2 (k6 ..) ?_|refine qc1 (k7 ..) ?_|refine qc2 (k7 ..) ?_|refine qc1 (k8 ..) ?_|refine qc2 (k8 ..) ?_|((fail_if_success (refine AL.guard (b := true) rfl rfl ?_ ?_)); (fail_if_success (refine AL.guard (b := false) rfl rfl ?_ ?_)); refine AL.guard rfl rfl (fun hg => ?_) (fun hg => ?_) <;> ((try simp only [DX] at hg) <;> (try first|(exfalso; omega)|exact absurd trivial hg|exact False.elim hg|exact absurd rfl hg)))|refine AW.condT rfl ?_|refine AW.condF rfl ?_|(refine AW.cond rfl (fun hg => ?_) (fun hg => ?_) <;> ((try simp only [DX] at hg) <;> (try first|(exfalso; omega)|exact absurd trivial hg|exact False.elim hg|exact absurd rfl hg))))
        all_goals (try simp only [DX] at *)
        all_goals try (exfalso; first | exact hg | exact hg rfl | omega | contradiction)
        refine AW.drawn mix (by kernel_rfl) ?_
        repeat' (first|refine AQ.do tok rfl rfl rfl ?_|refine AQ.no rfl rfl ?_|refine qqW ?_|refine AQ.nil ?_|(refine AQ.guard rfl rfl (fun hg => ?_) (fun hg => ?_) <;> ((try simp only [DX] at hg) <;> (try first|(exfalso; omega)|exact absurd trivial hg|exact False.elim hg|exact absurd rfl hg))))
        all_goals (try simp only [DX] at *)
        all_goals try (exfalso; omega)
        repeat (first|refine AL.do tok rfl rfl ?_|refine AL.nil ?_|refine AW.seq fun K hK => ?_|refine AW.region ?_|refine AL.no rfl rfl ?_|(refine hK _ ?_; clear hK)|(clear hK; refine hK _ ?_; clear hK)|(clear hK; clear hK; refine hK _ ?_; clear hK)|refine qaW ?_|refine qa1 tok ?_|refine qa2 tok ?_|refine qa3 tok ?_|refine AL.loadR tok rfl rfl rfl rfl rfl rfl ?_|refine qa4 tok ?_|refine qa5 tok ?_|refine AW.block ?_|refine AW.exit ?_|refine AW.skip ?_)
        refine AW.cond rfl (fun hg => ?_) (fun _ => ?_)
        · simp at hg
        repeat (first|refine AL.do tok rfl rfl ?_|refine AL.nil ?_|refine AW.seq fun K hK => ?_|refine AW.region ?_|refine AL.no rfl rfl ?_|(refine hK _ ?_; clear hK)|(clear hK; refine hK _ ?_; clear hK)|(clear hK; clear hK; refine hK _ ?_; clear hK)|refine qaW ?_|refine qa1 tok ?_|refine qa2 tok ?_|refine qa3 tok ?_|refine AL.loadR tok rfl rfl rfl rfl rfl rfl ?_|refine qa4 tok ?_|refine qa5 tok ?_|refine AW.block ?_|refine AW.exit ?_|refine AW.skip ?_)
        refine AL.v rfl rfl (qv37 tok) ?_
        repeat (first|refine AL.do tok rfl rfl ?_|refine AL.nil ?_|refine AW.seq fun K hK => ?_|refine AW.region ?_|refine AL.no rfl rfl ?_|(refine hK _ ?_; clear hK)|(clear hK; refine hK _ ?_; clear hK)|(clear hK; clear hK; refine hK _ ?_; clear hK)|refine qaW ?_|refine qa1 tok ?_|refine qa2 tok ?_|refine qa3 tok ?_|refine AL.loadR tok rfl rfl rfl rfl rfl rfl ?_|refine qa4 tok ?_|refine qa5 tok ?_|refine AW.block ?_|refine AW.exit ?_|refine AW.skip ?_)
        refine AL.v rfl rfl (qv38 tok) ?_
        repeat (first|refine AL.do tok rfl rfl ?_|refine AL.nil ?_|refine AW.seq fun K hK => ?_|refine AW.region ?_|refine AL.no rfl rfl ?_|(refine hK _ ?_; clear hK)|(clear hK; refine hK _ ?_; clear hK)|(clear hK; clear hK; refine hK _ ?_; clear hK)|refine qaW ?_|refine qa1 tok ?_|refine qa2 tok ?_|refine qa3 tok ?_|refine AL.loadR tok rfl rfl rfl rfl rfl rfl ?_|refine qa4 tok ?_|refine qa5 tok ?_|refine AW.block ?_|refine AW.exit ?_|refine AW.skip ?_)
        cases hfr : findR rows l[i].queue with
        | none =>
          obtain ⟨g1, g2⟩ := findR_none hfr
          have hh : hasS (l.take i) l[i].queue l[i].e.num = false := by rw [hhs, seenS, hfr]
          rw [if_neg (by rw [hh]; decide), g1]
          refine AW.cond rfl (fun _ => ?_) (fun hg => by cases hg)
          repeat (first|refine AL.do tok rfl rfl ?_|refine AL.nil ?_|refine AW.seq fun K hK => ?_|refine AW.region ?_|refine AL.no rfl rfl ?_|(refine hK _ ?_; clear hK)|(clear hK; refine hK _ ?_; clear hK)|(clear hK; clear hK; refine hK _ ?_; clear hK)|refine qaW ?_|refine qa1 tok ?_|refine qa2 tok ?_|refine qa3 tok ?_|refine AL.loadR tok rfl rfl rfl rfl rfl rfl ?_|refine qa4 tok ?_|refine qa5 tok ?_|refine AW.block ?_|refine AW.exit ?_|refine AW.skip ?_)
          refine AL.makeMapR (fun gb => ?_)
          repeat (first|refine AL.do tok rfl rfl ?_|refine AL.nil ?_|refine AW.seq fun K hK => ?_|refine AW.region ?_|refine AL.no rfl rfl ?_|(refine hK _ ?_; clear hK)|(clear hK; refine hK _ ?_; clear hK)|(clear hK; clear hK; refine hK _ ?_; clear hK)|refine qaW ?_|refine qa1 tok ?_|refine qa2 tok ?_|refine qa3 tok ?_|refine AL.loadR tok rfl rfl rfl rfl rfl rfl ?_|refine qa4 tok ?_|refine qa5 tok ?_|refine AW.block ?_|refine AW.exit ?_|refine AW.skip ?_)
          refine AL.updR tok g1 ?_
          repeat (first|refine AL.do tok rfl rfl ?_|refine AL.nil ?_|refine AW.seq fun K hK => ?_|refine AW.region ?_|refine AL.no rfl rfl ?_|(refine hK _ ?_; clear hK)|(clear hK; refine hK _ ?_; clear hK)|(clear hK; clear hK; refine hK _ ?_; clear hK)|refine qaW ?_|refine qa1 tok ?_|refine qa2 tok ?_|refine qa3 tok ?_|refine AL.loadR tok rfl rfl rfl rfl rfl rfl ?_|refine qa4 tok ?_|refine qa5 tok ?_|refine AW.block ?_|refine AW.exit ?_|refine AW.skip ?_)
          refine AL.v rfl rfl (qv37 tok) ?_
          rw [mmG_app g1]
          repeat (first|refine AL.do tok rfl rfl ?_|refine AL.nil ?_|refine AW.seq fun K hK => ?_|refine AW.region ?_|refine AL.no rfl rfl ?_|(refine hK _ ?_; clear hK)|(clear hK; refine hK _ ?_; clear hK)|(clear hK; clear hK; refine hK _ ?_; clear hK)|refine qaW ?_|refine qa1 tok ?_|refine qa2 tok ?_|refine qa3 tok ?_|refine AL.loadR tok rfl rfl rfl rfl rfl rfl ?_|refine qa4 tok ?_|refine qa5 tok ?_|refine AW.block ?_|refine AW.exit ?_|refine AW.skip ?_)
          refine AL.v rfl rfl (VOp.seenR (us := []) (id := .loc 5002) tok rfl) ?_
          repeat (first|refine AL.do tok rfl rfl ?_|refine AL.nil ?_|refine AW.seq fun K hK => ?_|refine AW.region ?_|refine AL.no rfl rfl ?_|(refine hK _ ?_; clear hK)|(clear hK; refine hK _ ?_; clear hK)|(clear hK; clear hK; refine hK _ ?_; clear hK)|refine qaW ?_|refine qa1 tok ?_|refine qa2 tok ?_|refine qa3 tok ?_|refine AL.loadR tok rfl rfl rfl rfl rfl rfl ?_|refine qa4 tok ?_|refine qa5 tok ?_|refine AW.block ?_|refine AW.exit ?_|refine AW.skip ?_)
          refine AW.cond rfl (fun hg => by simp at hg) (fun _ => ?_)
          repeat (first|refine AL.do tok rfl rfl ?_|refine AL.nil ?_|refine AW.seq fun K hK => ?_|refine AW.region ?_|refine AL.no rfl rfl ?_|(refine hK _ ?_; clear hK)|(clear hK; refine hK _ ?_; clear hK)|(clear hK; clear hK; refine hK _ ?_; clear hK)|refine qaW ?_|refine qa1 tok ?_|refine qa2 tok ?_|refine qa3 tok ?_|refine AL.loadR tok rfl rfl rfl rfl rfl rfl ?_|refine qa4 tok ?_|refine qa5 tok ?_|refine AW.block ?_|refine AW.exit ?_|refine AW.skip ?_)
          refine AL.v rfl rfl (qv37 tok) ?_
          rw [mmG_app g1]
          repeat (first|refine AL.do tok rfl rfl ?_|refine AL.nil ?_|refine AW.seq fun K hK => ?_|refine AW.region ?_|refine AL.no rfl rfl ?_|(refine hK _ ?_; clear hK)|(clear hK; refine hK _ ?_; clear hK)|(clear hK; clear hK; refine hK _ ?_; clear hK)|refine qaW ?_|refine qa1 tok ?_|refine qa2 tok ?_|refine qa3 tok ?_|refine AL.loadR tok rfl rfl rfl rfl rfl rfl ?_|refine qa4 tok ?_|refine qa5 tok ?_|refine AW.block ?_|refine AW.exit ?_|refine AW.skip ?_)
          refine AL.addR (us := []) (i := 5002) tok (by simp) rfl ?_
          repeat (first|refine AL.do tok rfl rfl ?_|refine AL.nil ?_|refine AW.seq fun K hK => ?_|refine AW.region ?_|refine AL.no rfl rfl ?_|(refine hK _ ?_; clear hK)|(clear hK; refine hK _ ?_; clear hK)|(clear hK; clear hK; refine hK _ ?_; clear hK)|refine qaW ?_|refine qa1 tok ?_|refine qa2 tok ?_|refine qa3 tok ?_|refine AL.loadR tok rfl rfl rfl rfl rfl rfl ?_|refine qa4 tok ?_|refine qa5 tok ?_|refine AW.block ?_|refine AW.exit ?_|refine AW.skip ?_)
          refine hK1 _ (i + 1, rows ++ [(l[i].queue, gb, [l[i].e.num])]) ⟨by omega, by simp; omega, fun s n => ?_, ?_⟩ (by simp only; omega) ?_
          · simp only
            rw [hnx, hseen]
            unfold seenS
            rw [g2]
            by_cases hs : s = l[i].queue
            · subst hs
              rw [if_pos rfl, hfr]
              simp [isQ, eq_comm]
            · rw [if_neg hs]
              simp [isQ, Ne.symm hs]
          · simp only
            rw [← hf, chkL_step hlt, if_pos h1, if_neg hb0, if_neg (by rw [hh]; decide)]
          · have e1 : (rows ++ [(l[i].queue, gb, [l[i].e.num])]).map prM = rows.map prM ++ [(l[i].queue, gb)] := List.map_append ..
            simp only
            rw [e1, List.length_append]
            refine impInn (fun k => if k = 1 + rows.length then 5002 else k) (if_neg (by omega)) (fun j k h1 h2 h => by by_cases e1 : j = 1 + rows.length <;> by_cases e2 : k = 1 + rows.length <;> simp [e1, e2] at h <;> omega) rfl rfl rfl rfl rfl rfl (fun j r hr => ?_)
            rcases Nat.lt_or_ge j rows.length with hj | hj
            · rw [List.getElem?_append_left hj] at hr
              refine ⟨by omega, ?_⟩
              rw [if_neg (by omega)]
              (repeat rw [lk_cons_ne (by omega)])
              exact lk_innH 1 hr
            · have hj2 : j = rows.length := by
                have := (List.getElem?_eq_some_iff.1 hr).1
                simp at this
                omega
              subst hj2
              rw [List.getElem?_append_right (Nat.le_refl _)] at hr
              simp at hr
              subst hr
              refine ⟨by omega, ?_⟩
              rw [if_pos rfl]
              rfl
        | some us =>
          obtain ⟨j, gb, j1, j2, j3, j4⟩ := findR_some hfr
          have hjl := (List.getElem?_eq_some_iff.1 j1).1
          exfalso
          omega
  rw [if_neg h1]
  unfold chk1 ent27
  unfold chk1 ent27 at h1
  generalize inS l[i].tag 1 1099511627776 = c1 at *
  generalize inS l[i].own 0 1099511627776 = c2 at *
  generalize inS l[i].til 0 1099511627776 = c3 at *
  generalize nameS l[i].queue = c4 at *
  generalize inS l[i].e.num 1 1099511627775 = c5 at *
  generalize inS l[i].e.arr 0 1099511627776 = c6 at *
  generalize inS l[i].e.att 1 1099511627776 = c7 at *
  generalize checkM l[i].e.msg = c8 at *
  cases c1 with
  | false =>
    repeat' (first|refine AL.do tok rfl rfl ?_|refine AL.nil ?_|refine AW.seq fun K hK => ?_|refine AW.region ?_|refine AL.no rfl rfl ?_|(refine hK _ ?_; clear hK)|(clear hK; refine hK _ ?_; clear hK)|(clear hK; clear hK; refine hK _ ?_; clear hK)|refine qaW ?_|refine qa1 tok ?_|refine qa2 tok ?_|refine qa3 tok ?_|refine AL.loadR tok rfl rfl rfl rfl rfl rfl ?_|refine qa4 tok ?_|refine qa5 tok ?_|refine AW.block ?_|refine AW.exit ?_|refine AW.skip ?_|refine qc1 (k1 ..) ?_|refine qc2 (k1 ..) ?_|((fail_if_success (refine AL.guard (b := true) rfl rfl ?_ ?_)); (fail_if_success (refine AL.guard (b := false) rfl rfl ?_ ?_)); refine AL.guard rfl rfl (fun hg => ?_) (fun hg => ?_) <;> ((try simp only [DX] at hg) <;> (try first|(exfalso; omega)|exact absurd trivial hg|exact False.elim hg|exact absurd rfl hg)))|refine AW.condT rfl ?_|refine AW.condF rfl ?_|(refine AW.cond rfl (fun hg => ?_) (fun hg => ?_) <;> ((try simp only [DX] at hg) <;> (try first|(exfalso; omega)|exact absurd trivial hg|exact False.elim hg|exact absurd rfl hg))))
    all_goals (try simp only [DX] at *)
    all_goals try (exfalso; first | exact hg | exact hg rfl | omega | contradiction)
    all_goals
      refine AW.ret ?_
      refine ⟨_, _, _, _, rfl, Out.pure rfl ⟨?_, rfl⟩ rfl⟩
      rfl
  | true =>
  cases c2 with
  | false =>
    repeat' (first|refine AL.do tok rfl rfl ?_|refine AL.nil ?_|refine AW.seq fun K hK => ?_|refine AW.region ?_|refine AL.no rfl rfl ?_|(refine hK _ ?_; clear hK)|(clear hK; refine hK _ ?_; clear hK)|(clear hK; clear hK; refine hK _ ?_; clear hK)|refine qaW ?_|refine qa1 tok ?_|refine qa2 tok ?_|refine qa3 tok ?_|refine AL.loadR tok rfl rfl rfl rfl rfl rfl ?_|refine qa4 tok ?_|refine qa5 tok ?_|refine AW.block ?_|refine AW.exit ?_|refine AW.skip ?_|refine qc1 (k1 ..) ?_|refine qc2 (k1 ..) ?_|refine qc1 (k2 ..) ?_|refine qc2 (k2 ..) ?_|((fail_if_success (refine AL.guard (b := true) rfl rfl ?_ ?_)); (fail_if_success (refine AL.guard (b := false) rfl rfl ?_ ?_)); refine AL.guard rfl rfl (fun hg => ?_) (fun hg => ?_) <;> ((try simp only [DX] at hg) <;> (try first|(exfalso; omega)|exact absurd trivial hg|exact False.elim hg|exact absurd rfl hg)))|refine AW.condT rfl ?_|refine AW.condF rfl ?_|(refine AW.cond rfl (fun hg => ?_) (fun hg => ?_) <;> ((try simp only [DX] at hg) <;> (try first|(exfalso; omega)|exact absurd trivial hg|exact False.elim hg|exact absurd rfl hg))))
    all_goals (try simp only [DX] at *)
    all_goals try (exfalso; first | exact hg | exact hg rfl | omega | contradiction)
    all_goals
      refine AW.ret ?_
      refine ⟨_, _, _, _, rfl, Out.pure rfl ⟨?_, rfl⟩ rfl⟩
      rfl
  | true =>
  cases c3 with
  | false =>
    repeat' (first|refine AL.do tok rfl rfl ?_|refine AL.nil ?_|refine AW.seq fun K hK => ?_|refine AW.region ?_|refine AL.no rfl rfl ?_|(refine hK _ ?_; clear hK)|(clear hK; refine hK _ ?_; clear hK)|(clear hK; clear hK; refine hK _ ?_; clear hK)|refine qaW ?_|refine qa1 tok ?_|refine qa2 tok ?_|refine qa3 tok ?_|refine AL.loadR tok rfl rfl rfl rfl rfl rfl ?_|refine qa4 tok ?_|refine qa5 tok ?_|refine AW.block ?_|refine AW.exit ?_|refine AW.skip ?_|refine qc1 (k1 ..) ?_|refine qc2 (k1 ..) ?_|refine qc1 (k2 ..) ?_|refine qc2 (k2 ..) ?_|refine qc1 (k3 ..) ?_|refine qc2 (k3 ..) ?_|((fail_if_success (refine AL.guard (b := true) rfl rfl ?_ ?_)); (fail_if_success (refine AL.guard (b := false) rfl rfl ?_ ?_)); refine AL.guard rfl rfl (fun hg => ?_) (fun hg => ?_) <;> ((try simp only [DX] at hg) <;> (try first|(exfalso; omega)|exact absurd trivial hg|exact False.elim hg|exact absurd rfl hg)))|refine AW.condT rfl ?_|refine AW.condF rfl ?_|(refine AW.cond rfl (fun hg => ?_) (fun hg => ?_) <;> ((try simp only [DX] at hg) <;> (try first|(exfalso; omega)|exact absurd trivial hg|exact False.elim hg|exact absurd rfl hg))))
    all_goals (try simp only [DX] at *)
    all_goals try (exfalso; first | exact hg | exact hg rfl | omega | contradiction)
    all_goals
      refine AW.ret ?_
      refine ⟨_, _, _, _, rfl, Out.pure rfl ⟨?_, rfl⟩ rfl⟩
      rfl
  | true =>
  cases c4 with
  | false =>
    repeat' (first|refine AL.do tok rfl rfl ?_|refine AL.nil ?_|refine AW.seq fun K hK => ?_|refine AW.region ?_|refine AL.no rfl rfl ?_|(refine hK _ ?_; clear hK)|(clear hK; refine hK _ ?_; clear hK)|(clear hK; clear hK; refine hK _ ?_; clear hK)|refine qaW ?_|refine qa1 tok ?_|refine qa2 tok ?_|refine qa3 tok ?_|refine AL.loadR tok rfl rfl rfl rfl rfl rfl ?_|refine qa4 tok ?_|refine qa5 tok ?_|refine AW.block ?_|refine AW.exit ?_|refine AW.skip ?_|refine qc1 (k1 ..) ?_|refine qc2 (k1 ..) ?_|refine qc1 (k2 ..) ?_|refine qc2 (k2 ..) ?_|refine qc1 (k3 ..) ?_|refine qc2 (k3 ..) ?_|refine qc1 (k4 ..) ?_|refine qc2 (k4 ..) ?_|((fail_if_success (refine AL.guard (b := true) rfl rfl ?_ ?_)); (fail_if_success (refine AL.guard (b := false) rfl rfl ?_ ?_)); refine AL.guard rfl rfl (fun hg => ?_) (fun hg => ?_) <;> ((try simp only [DX] at hg) <;> (try first|(exfalso; omega)|exact absurd trivial hg|exact False.elim hg|exact absurd rfl hg)))|refine AW.condT rfl ?_|refine AW.condF rfl ?_|(refine AW.cond rfl (fun hg => ?_) (fun hg => ?_) <;> ((try simp only [DX] at hg) <;> (try first|(exfalso; omega)|exact absurd trivial hg|exact False.elim hg|exact absurd rfl hg))))
    all_goals (try simp only [DX] at *)
    all_goals try (exfalso; first | exact hg | exact hg rfl | omega | contradiction)
    all_goals
      refine AW.ret ?_
      refine ⟨_, _, _, _, rfl, Out.pure rfl ⟨?_, rfl⟩ rfl⟩
      rfl
  | true =>
  cases c5 with
  | false =>
    repeat' (first|refine AL.do tok rfl rfl ?_|refine AL.nil ?_|refine AW.seq fun K hK => ?_|refine AW.region ?_|refine AL.no rfl rfl ?_|(refine hK _ ?_; clear hK)|(clear hK; refine hK _ ?_; clear hK)|(clear hK; clear hK; refine hK _ ?_; clear hK)|refine qaW ?_|refine qa1 tok ?_|refine qa2 tok ?_|refine qa3 tok ?_|refine AL.loadR tok rfl rfl rfl rfl rfl rfl ?_|refine qa4 tok ?_|refine qa5 tok ?_|refine AW.block ?_|refine AW.exit ?_|refine AW.skip ?_|refine qc1 (k1 ..) ?_|refine qc2 (k1 ..) ?_|refine qc1 (k2 ..) ?_|refine qc2 (k2 ..) ?_|refine qc1 (k3 ..) ?_|refine qc2 (k3 ..) ?_|refine qc1 (k4 ..) ?_|refine qc2 (k4 ..) ?_|refine qc1 (k5 ..) ?_|refine qc2 (k5 ..) ?_|((fail_if_success (refine AL.guard (b := true) rfl rfl ?_ ?_)); (fail_if_success (refine AL.guard (b := false) rfl rfl ?_ ?_)); refine AL.guard rfl rfl (fun hg => ?_) (fun hg => ?_) <;> ((try simp only [DX] at hg) <;> (try first|(exfalso; omega)|exact absurd trivial hg|exact False.elim hg|exact absurd rfl hg)))|refine AW.condT rfl ?_|refine AW.condF rfl ?_|(refine AW.cond rfl (fun hg => ?_) (fun hg => ?_) <;> ((try simp only [DX] at hg) <;> (try first|(exfalso; omega)|exact absurd trivial hg|exact False.elim hg|exact absurd rfl hg))))
    all_goals (try simp only [DX] at *)
    all_goals try (exfalso; first | exact hg | exact hg rfl | omega | contradiction)
    all_goals
      refine AW.ret ?_
      refine ⟨_, _, _, _, rfl, Out.pure rfl ⟨?_, rfl⟩ rfl⟩
      rfl
  | true =>
  cases c6 with
  | false =>
    repeat' (first|refine AL.do tok rfl rfl ?_|refine AL.nil ?_|refine AW.seq fun K hK => ?_|refine AW.region ?_|refine AL.no rfl rfl ?_|(refine hK _ ?_; clear hK)|(clear hK; refine hK _ ?_; clear hK)|(clear hK; clear hK; refine hK _ ?_; clear hK)|refine qaW ?_|refine qa1 tok ?_|refine qa2 tok ?_|refine qa3 tok ?_|refine AL.loadR tok rfl rfl rfl rfl rfl rfl ?_|refine qa4 tok ?_|refine qa5 tok ?_|refine AW.block ?_|refine AW.exit ?_|refine AW.skip ?_|refine qc1 (k1 ..) ?_|refine qc2 (k1 ..) ?_|refine qc1 (k2 ..) ?_|refine qc2 (k2 ..) ?_|refine qc1 (k3 ..) ?_|refine qc2 (k3 ..) ?_|refine qc1 (k4 ..) ?_|refine qc2 (k4 ..) ?_|refine qc1 (k5 ..) ?_|refine qc2 (k5 ..) ?_|refine qc1 (k6 ..) ?_|refine qc2 (k6 ..) ?_|((fail_if_success (refine AL.guard (b := true) rfl rfl ?_ ?_)); (fail_if_success (refine AL.guard (b := false) rfl rfl ?_ ?_)); refine AL.guard rfl rfl (fun hg => ?_) (fun hg => ?_) <;> ((try simp only [DX] at hg) <;> (try first|(exfalso; omega)|exact absurd trivial hg|exact False.elim hg|exact absurd rfl hg)))|refine AW.condT rfl ?_|refine AW.condF rfl ?_|(refine AW.cond rfl (fun hg => ?_) (fun hg => ?_) <;> ((try simp only [DX] at hg) <;> (try first|(exfalso; omega)|exact absurd trivial hg|exact False.elim hg|exact absurd rfl hg))))
    all_goals (try simp only [DX] at *)
    all_goals try (exfalso; first | exact hg | exact hg rfl | omega | contradiction)
    all_goals
      refine AW.ret ?_
      refine ⟨_, _, _, _, rfl, Out.pure rfl ⟨?_, rfl⟩ rfl⟩
      rfl
  | true =>
  cases c7 with
  | false =>
    repeat' (first|refine AL.do tok rfl rfl ?_|refine AL.nil ?_|refine AW.seq fun K hK => ?_|refine AW.region ?_|refine AL.no rfl rfl ?_|(refine hK _ ?_; clear hK)|(clear hK; refine hK _ ?_; clear hK)|(clear hK; clear hK; refine hK _ ?_; clear hK)|refine qaW ?_|refine qa1 tok ?_|refine qa2 tok ?_|refine qa3 tok ?_|refine AL.loadR tok rfl rfl rfl rfl rfl rfl ?_|refine qa4 tok ?_|refine qa5 tok ?_|refine AW.block ?_|refine AW.exit ?_|refine AW.skip ?_|refine qc1 (k1 ..) ?_|refine qc2 (k1 ..) ?_|refine qc1 (k2 ..) ?_|refine qc2 (k2 ..) ?_|refine qc1 (k3 ..) ?_|refine qc2 (k3 ..) ?_|refine qc1 (k4 ..) ?_|refine qc2 (k4 ..) ?_|refine qc1 (k5 ..) ?_|refine qc2 (k5 ..) ?_|refine qc1 (k6 ..) ?_|refine qc2 (k6 ..) ?_|refine qc1 (k7 ..) ?_|refine qc2 (k7 ..) ?_|((fail_if_success (refine AL.guard (b := true) rfl rfl ?_ ?_)); (fail_if_success (refine AL.guard (b := false) rfl rfl ?_ ?_)); refine AL.guard rfl rfl (fun hg => ?_) (fun hg => ?_) <;> ((try simp only [DX] at hg) <;> (try first|(exfalso; omega)|exact absurd trivial hg|exact False.elim hg|exact absurd rfl hg)))|refine AW.condT rfl ?_|refine AW.condF rfl ?_|(refine AW.cond rfl (fun hg => ?_) (fun hg => ?_) <;> ((try simp only [DX] at hg) <;> (try first|(exfalso; omega)|exact absurd trivial hg|exact False.elim hg|exact absurd rfl hg))))
    all_goals (try simp only [DX] at *)
    all_goals try (exfalso; first | exact hg | exact hg rfl | omega | contradiction)
    all_goals
      refine AW.ret ?_
      refine ⟨_, _, _, _, rfl, Out.pure rfl ⟨?_, rfl⟩ rfl⟩
      rfl
  | true =>
  by_cases h8 : c8 = 0
  rotate_left
  · repeat' (first|refine AL.do tok rfl rfl ?_|refine AL.nil ?_|refine AW.seq fun K hK => ?_|refine AW.region ?_|refine AL.no rfl rfl ?_|(refine hK _ ?_; clear hK)|(clear hK; refine hK _ ?_; clear hK)|(clear hK; clear hK; refine hK _ ?_; clear hK)|refine qaW ?_|refine qa1 tok ?_|refine qa2 tok ?_|refine qa3 tok ?_|refine AL.loadR tok rfl rfl rfl rfl rfl rfl ?_|refine qa4 tok ?_|refine qa5 tok ?_|refine AW.block ?_|refine AW.exit ?_|refine AW.skip ?_|refine qc1 (k1 ..) ?_|refine qc2 (k1 ..) ?_|refine qc1 (k2 ..) ?_|refine qc2 (k2 ..) ?_|refine qc1 (k3 ..) ?_|refine qc2 (k3 ..) ?_|refine qc1 (k4 ..) ?_|refine qc2 (k4 ..) ?_|refine qc1 (k5 ..) ?_|refine qc2 (k5 ..) ?_|refine qc1 (k6 ..) ?_|refine qc2 (k6 ..) ?_|refine qc1 (k7 ..) ?_|refine qc2 (k7 ..) ?_|refine qc1 (k8 ..) ?_|refine qc2 (k8 ..) ?_|((fail_if_success (refine AL.guard (b := true) rfl rfl ?_ ?_)); (fail_if_success (refine AL.guard (b := false) rfl rfl ?_ ?_)); refine AL.guard rfl rfl (fun hg => ?_) (fun hg => ?_) <;> ((try simp only [DX] at hg) <;> (try first|(exfalso; omega)|exact absurd trivial hg|exact False.elim hg|exact absurd rfl hg)))|refine AW.condT rfl ?_|refine AW.condF rfl ?_|(refine AW.cond rfl (fun hg => ?_) (fun hg => ?_) <;> ((try simp only [DX] at hg) <;> (try first|(exfalso; omega)|exact absurd trivial hg|exact False.elim hg|exact absurd rfl hg))))
    all_goals (try simp only [DX] at *)
    all_goals try (exfalso; first | exact hg | exact hg rfl | omega | contradiction)
    all_goals
      refine AW.ret ?_
      refine ⟨_, _, _, _, rfl, Out.pure rfl ⟨?_, rfl⟩ rfl⟩
      (try simp [h8])
  subst h8
  exact absurd rfl h1
end Go.Proofs.Try
