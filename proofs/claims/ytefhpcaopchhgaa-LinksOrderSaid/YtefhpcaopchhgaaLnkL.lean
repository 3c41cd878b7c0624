/- links: calls of the statements: few, send, arrived. -/
import Derived.Test.YtefhpcaopchhgaaLnkK
import Derived.Test.YtefhpcaopchhgaaAM73
import Derived.Test.YtefhpcaopchhgaaAM74
import Derived.Test.YtefhpcaopchhgaaWk
set_option linter.unusedSimpArgs false
set_option linter.unusedVariables false
namespace Go.Proofs.Try
open Go Go.AM

structure Opn where
  kind : Int
  a : Int
  b : Int
  d : Dg
  f : Fa
def encOn (o : Opn) : List D := [.one (.int .i64 o.kind), .one (.int .i64 o.a), .one (.int .i64 o.b), .one (.int .i64 o.d.src), .one (.int .i64 o.d.dst), .row (o.d.bytes.map encU), .one (.bool o.f.drop), .one (.int .i64 o.f.delay), .one (.int .i64 o.f.copies)]
abbrev cellsOn (o : Opn) : List AV := [i64 o.kind, i64 o.a, i64 o.b, i64 o.d.src, i64 o.d.dst, rowU o.d.bytes, bo o.f.drop, i64 o.f.delay, i64 o.f.copies]
abbrev rowOn (l : List Opn) : AV := .d (.row (l.map encOn))
def fewS (l : List Opn) : Bool := decide (l.length ≤ 120) && l.all fun o => decide (o.d.bytes.length ≤ 100)
theorem few_drop {l : List Opn} {i : Nat} (h : i < l.length) : ((l.drop i).all fun o => decide (o.d.bytes.length ≤ 100)) = (decide (l[i].d.bytes.length ≤ 100) && (l.drop (i + 1)).all fun o => decide (o.d.bytes.length ≤ 100)) := by
  rw [List.drop_eq_getElem_cons h]
  rfl
set_option maxHeartbeats 8000000 in
set_option maxRecDepth 10000 in
theorem few_calls (l : List Opn) (hl : l.length ≤ 9223372036854775807) : ACallP Try.prog 14 [rowOn l] (bo (fewS l)) := by
  have hlm : (l.map encOn).length = l.length := List.length_map ..
  refine ACalls.body tok Try.func14 rfl (by kernel_rfl) (by rw [Try.ntmps14]; simp) ?_
  simp only [Try.ntmps14, Try.results14, argT]
  repeat (first|refine AL.do tok rfl rfl ?_|refine AL.nil ?_|refine AW.seq fun K hK => ?_|refine AW.region ?_|refine AL.no rfl rfl ?_|(refine hK _ ?_; clear hK)|(clear hK; refine hK _ ?_; clear hK)|(clear hK; clear hK; refine hK _ ?_; clear hK)|refine qaW ?_|refine qa1 tok ?_|refine qa2 tok ?_|refine qa3 tok ?_|refine AL.loadR tok rfl rfl rfl rfl rfl rfl ?_|refine qa4 tok ?_|refine qa5 tok ?_|refine AW.block ?_|refine AW.exit ?_|refine AW.skip ?_)
  refine AW.cond rfl (fun hg => ?_) (fun hg => ?_)
  · simp only [hlm, decide_eq_true_eq] at hg
    repeat (first|refine AL.do tok rfl rfl ?_|refine AL.nil ?_|refine AW.seq fun K hK => ?_|refine AW.region ?_|refine AL.no rfl rfl ?_|(refine hK _ ?_; clear hK)|(clear hK; refine hK _ ?_; clear hK)|(clear hK; clear hK; refine hK _ ?_; clear hK)|refine qaW ?_|refine qa1 tok ?_|refine qa2 tok ?_|refine qa3 tok ?_|refine AL.loadR tok rfl rfl rfl rfl rfl rfl ?_|refine qa4 tok ?_|refine qa5 tok ?_|refine AW.block ?_|refine AW.exit ?_|refine AW.skip ?_)
    refine AW.ret ?_
    refine ⟨_, _, _, _, rfl, Out.pure rfl ⟨?_, rfl⟩ rfl⟩
    unfold fewS
    rw [decide_eq_false (by omega)]
    rfl
  · simp only [hlm, decide_eq_false_iff_not] at hg
    have hf : fewS l = (l.drop 0).all fun o => decide (o.d.bytes.length ≤ 100) := by
      unfold fewS
      rw [decide_eq_true (by omega)]
      rfl
    rw [hf]
    repeat (first|refine AL.do tok rfl rfl ?_|refine AL.nil ?_|refine AW.seq fun K hK => ?_|refine AW.region ?_|refine AL.no rfl rfl ?_|(refine hK _ ?_; clear hK)|(clear hK; refine hK _ ?_; clear hK)|(clear hK; clear hK; refine hK _ ?_; clear hK)|refine qaW ?_|refine qa1 tok ?_|refine qa2 tok ?_|refine qa3 tok ?_|refine AL.loadR tok rfl rfl rfl rfl rfl rfl ?_|refine qa4 tok ?_|refine qa5 tok ?_|refine AW.block ?_|refine AW.exit ?_|refine AW.skip ?_)
    (try simp only [hlm])
    refine AW.loop (ι := Nat) (fun i => ⟨20, [(10, i64 i), (9, i64 l.length), (8, rowOn l)], [], [], 0⟩)
      (fun i => i ≤ l.length ∧ (l.drop i).all (fun o => decide (o.d.bytes.length ≤ 100)) = (l.drop 0).all (fun o => decide (o.d.bytes.length ≤ 100))) (fun i => l.length - i) 0 ⟨Nat.zero_le _, rfl⟩ ?_ ?_
    · (refine Imp.weak id (fun _ _ _ _ h => h) (by first|assumption|(intro b hb; cases hb)) ?_ ?_ <;> (repeat' (first|exact trivial|exact Nat.lt_of_lt_of_le (Nat.lt_succ_self _) (Nat.le_of_ble_eq_true rfl)|exact rfl|exact Or.inl ⟨rfl, rfl⟩|exact Or.inr ⟨rfl, LF.fn _ _ ‹_›⟩|refine ⟨?_, ?_⟩)))
    rintro i ⟨hi, hq⟩ K1 hK1
    by_cases hlt : i < l.length
    · have hst := few_drop hlt
      have hlb : (l[i].d.bytes.map encU).length = l[i].d.bytes.length := List.length_map ..
      repeat (first|refine AL.do tok rfl rfl ?_|refine AL.nil ?_|refine AW.seq fun K hK => ?_|refine AW.region ?_|refine AL.no rfl rfl ?_|(refine hK _ ?_; clear hK)|(clear hK; refine hK _ ?_; clear hK)|(clear hK; clear hK; refine hK _ ?_; clear hK)|refine qaW ?_|refine qa1 tok ?_|refine qa2 tok ?_|refine qa3 tok ?_|refine AL.loadR tok rfl rfl rfl rfl rfl rfl ?_|refine qa4 tok ?_|refine qa5 tok ?_|refine AW.block ?_|refine AW.exit ?_|refine AW.skip ?_)
      refine AW.cond rfl (fun hg => ?_) (fun hg => by simp at hg; omega)
      repeat (first|refine AL.do tok rfl rfl ?_|refine AL.nil ?_|refine AW.seq fun K hK => ?_|refine AW.region ?_|refine AL.no rfl rfl ?_|(refine hK _ ?_; clear hK)|(clear hK; refine hK _ ?_; clear hK)|(clear hK; clear hK; refine hK _ ?_; clear hK)|refine qaW ?_|refine qa1 tok ?_|refine qa2 tok ?_|refine qa3 tok ?_|refine AL.loadR tok rfl rfl rfl rfl rfl rfl ?_|refine qa4 tok ?_|refine qa5 tok ?_|refine AW.block ?_|refine AW.exit ?_|refine AW.skip ?_)
      refine AW.cond rfl (fun hg => ?_) (fun hg => ?_)
      · simp only [hlb, decide_eq_true_eq] at hg
        repeat (first|refine AL.do tok rfl rfl ?_|refine AL.nil ?_|refine AW.seq fun K hK => ?_|refine AW.region ?_|refine AL.no rfl rfl ?_|(refine hK _ ?_; clear hK)|(clear hK; refine hK _ ?_; clear hK)|(clear hK; clear hK; refine hK _ ?_; clear hK)|refine qaW ?_|refine qa1 tok ?_|refine qa2 tok ?_|refine qa3 tok ?_|refine AL.loadR tok rfl rfl rfl rfl rfl rfl ?_|refine qa4 tok ?_|refine qa5 tok ?_|refine AW.block ?_|refine AW.exit ?_|refine AW.skip ?_)
        refine AW.ret ?_
        refine ⟨_, _, _, _, rfl, Out.pure rfl ⟨?_, rfl⟩ rfl⟩
        rw [hf, ← hq, hst, decide_eq_false (by omega)]
        rfl
      · simp only [hlb, decide_eq_false_iff_not] at hg
        repeat (first|refine AL.do tok rfl rfl ?_|refine AL.nil ?_|refine AW.seq fun K hK => ?_|refine AW.region ?_|refine AL.no rfl rfl ?_|(refine hK _ ?_; clear hK)|(clear hK; refine hK _ ?_; clear hK)|(clear hK; clear hK; refine hK _ ?_; clear hK)|refine qaW ?_|refine qa1 tok ?_|refine qa2 tok ?_|refine qa3 tok ?_|refine AL.loadR tok rfl rfl rfl rfl rfl rfl ?_|refine qa4 tok ?_|refine qa5 tok ?_|refine AW.block ?_|refine AW.exit ?_|refine AW.skip ?_)
        refine hK1 _ (i + 1) ⟨by omega, ?_⟩ (by omega) ?_
        · rw [← hq, hst, decide_eq_true (by omega)]
          rfl
        · (refine Imp.weak id (fun _ _ _ _ h => h) (by first|assumption|(intro b hb; cases hb)) ?_ ?_ <;> (repeat' (first|exact trivial|exact Nat.lt_of_lt_of_le (Nat.lt_succ_self _) (Nat.le_of_ble_eq_true rfl)|exact rfl|exact Or.inl ⟨rfl, rfl⟩|exact Or.inr ⟨rfl, LF.fn _ _ ‹_›⟩|refine ⟨?_, ?_⟩)))
    · repeat (first|refine AL.do tok rfl rfl ?_|refine AL.nil ?_|refine AW.seq fun K hK => ?_|refine AW.region ?_|refine AL.no rfl rfl ?_|(refine hK _ ?_; clear hK)|(clear hK; refine hK _ ?_; clear hK)|(clear hK; clear hK; refine hK _ ?_; clear hK)|refine qaW ?_|refine qa1 tok ?_|refine qa2 tok ?_|refine qa3 tok ?_|refine AL.loadR tok rfl rfl rfl rfl rfl rfl ?_|refine qa4 tok ?_|refine qa5 tok ?_|refine AW.block ?_|refine AW.exit ?_|refine AW.skip ?_)
      refine AW.cond rfl (fun hg => by simp at hg; omega) (fun hg => ?_)
      repeat (first|refine AL.do tok rfl rfl ?_|refine AL.nil ?_|refine AW.seq fun K hK => ?_|refine AW.region ?_|refine AL.no rfl rfl ?_|(refine hK _ ?_; clear hK)|(clear hK; refine hK _ ?_; clear hK)|(clear hK; clear hK; refine hK _ ?_; clear hK)|refine qaW ?_|refine qa1 tok ?_|refine qa2 tok ?_|refine qa3 tok ?_|refine AL.loadR tok rfl rfl rfl rfl rfl rfl ?_|refine qa4 tok ?_|refine qa5 tok ?_|refine AW.block ?_|refine AW.exit ?_|refine AW.skip ?_)
      refine AW.ret ?_
      refine ⟨_, _, _, _, rfl, Out.pure rfl ⟨?_, rfl⟩ rfl⟩
      rw [hf, ← hq, List.drop_eq_nil_of_le (by omega)]
      rfl
abbrev modF (f : Fa) : Fa := { f with delay := f.delay.tmod 50 }
def moreS (n : Nt) (o : Opn) : Int := ((sendS n o.d (modF o.f)).way.length : Int) - n.way.length
theorem send_more (n : Nt) (d : Dg) (f : Fa) : (sendE n d f = 0 ∧ f.drop = false ∧ upS n d.src d.dst = true ∧ 0 ≤ f.copies ∧ f.copies ≤ 32 ∧ (n.way.length : Int) + 1 + f.copies ≤ 4096 ∧ 0 ≤ f.delay ∧ sendS n d f = setW n (putI n.way d f (f.copies.toNat + 1))) ∨ (sendS n d f = n ∧ (sendE n d f ≠ 0 ∨ f.drop = true ∨ upS n d.src d.dst = false)) := by
  by_cases h : sendE n d f = 0 ∧ f.drop = false ∧ upS n d.src d.dst = true
  · left
    obtain ⟨h1, h2, h3⟩ := h
    refine ⟨h1, h2, h3, ?_⟩
    have hs : sendS n d f = setW n (putI n.way d f (f.copies.toNat + 1)) := by unfold sendS; rw [if_pos ⟨h1, h2, h3⟩]
    unfold sendE at h1
    split at h1
    · cases h1
    split at h1
    · cases h1
    split at h1
    · cases h1
    rename_i hok
    rw [Classical.not_not] at hok
    rw [if_neg (by rw [h2, h3]; simp)] at h1
    split at h1
    · cases h1
    rename_i hfit
    rw [Classical.not_not] at hfit
    exact ⟨hok.2.2.1, hok.2.2.2, hfit, hok.1, hs⟩
  · right
    refine ⟨by unfold sendS; rw [if_neg h], ?_⟩
    by_cases h1 : sendE n d f = 0
    · cases h2 : f.drop with
      | true => exact .inr (.inl rfl)
      | false =>
        cases h3 : upS n d.src d.dst with
        | true => exact absurd ⟨h1, h2, h3⟩ h
        | false => exact .inr (.inr rfl)
    · exact .inl h1
theorem sendS_same (n : Nt) (d : Dg) (f : Fa) : (sendS n d f).nodes = n.nodes ∧ (sendS n d f).cut = n.cut := by
  unfold sendS
  split <;> exact ⟨rfl, rfl⟩
theorem upS_same {n m : Nt} (h1 : m.nodes = n.nodes) (h2 : m.cut = n.cut) (a b : Int) : upS m a b = upS n a b := by
  unfold upS pairS
  rw [h1, h2]
theorem net_retG {ts : List (Nat × TI)} {rs : List ResultVar} {σ : St} {r : AV} {n' : Nt} {j : Nat} {R : AV → List Blk → List Rw → Prop} (h1 : ares ts rs σ = some r) (hm : mp2 [] [j] r = r) (hok : okm2 1 1 r = true) (hp : σ.Hp = [netB n' (.own (.loc j))]) (hr : hk σ (.loc j) = some (wayR n').blk) (hR : R r [netB n' (.own (.loc 0))] [wayR n']) :
    ∃ rf r Hp' Hr mm, ares ts rs σ = some rf ∧ mp2 [] mm r = rf ∧ okm2 Hp'.length mm.length r = true ∧ OutX σ (R r) Hp' Hr mm :=
  ⟨_, r, [netB n' (.own (.loc 0))], [wayR n'], [j], h1, hm, hok, net_out hp hr hR⟩
set_option maxHeartbeats 16000000 in
set_option maxRecDepth 10000 in
theorem sendO_calls (n : Nt) (o : Opn) (hc : n.cut.length = 49) (hn : n.nodes ≤ 7) (hl : n.way.length ≤ 4096) : ACallNet 15 [.ptr (.par 0) 0, .agg (cellsOn o)] n (.tup [i64 (moreS n o), bo true]) (sendS n o.d (modF o.f)) := by
  obtain ⟨kd, oa, ob, d, drop, delay, copies⟩ := o
  unfold moreS cellsOn modF
  dsimp only
  generalize hf : Fa.mk drop (delay.tmod 50) copies = f at *
  have k1 := waiting_calls n hc
  have k2 := sendW_calls n d f hc hn hl
  have hm := send_more n d f
  have hsm := sendS_same n d f
  generalize hE : sendE n d f = e at *
  generalize hS : sendS n d f = n' at *
  have k3 := waiting_calls n' (by rw [hsm.2, hc])
  have k4 := up_calls n' d.src d.dst (by rw [hsm.2, hc]) (by rw [hsm.1]; exact hn)
  rw [upS_same hsm.1 hsm.2] at k4
  have hl2 : n'.way.length ≤ 5000 := by
    rcases hm with ⟨_, _, _, h1, h2, h3, h4, h5⟩ | ⟨h1, _⟩
    · rw [h5]
      show (putI _ _ _ _).length ≤ 5000
      rw [putI_len]
      omega
    · rw [h1]; omega
  subst hf
  dsimp only at hm k2
  unfold aggF at k2
  dsimp only at k2
  refine ACallsX.body tok Try.func15 rfl (by kernel_rfl) (by rw [Try.ntmps15]; simp) ?_
  simp only [Try.ntmps15, Try.results15, argT, rowsH, Rw.blk, List.length_cons, List.length_nil]
  repeat (first|refine AL.do tok rfl rfl ?_|refine AL.nil ?_|refine AW.seq fun K hK => ?_|refine AW.region ?_|refine AL.no rfl rfl ?_|(refine hK _ ?_; clear hK)|(clear hK; refine hK _ ?_; clear hK)|(clear hK; clear hK; refine hK _ ?_; clear hK)|refine qaW ?_|refine qa1 tok ?_|refine qa2 tok ?_|refine qa3 tok ?_|refine AL.loadR tok rfl rfl rfl rfl rfl rfl ?_|refine qa4 tok ?_|refine qa5 tok ?_|refine AW.block ?_|refine AW.exit ?_|refine AW.skip ?_)
  refine AL.v rfl rfl (VOp.remK rfl rfl (by decide)) ?_
  repeat (first|refine AL.do tok rfl rfl ?_|refine AL.nil ?_|refine AW.seq fun K hK => ?_|refine AW.region ?_|refine AL.no rfl rfl ?_|(refine hK _ ?_; clear hK)|(clear hK; refine hK _ ?_; clear hK)|(clear hK; clear hK; refine hK _ ?_; clear hK)|refine qaW ?_|refine qa1 tok ?_|refine qa2 tok ?_|refine qa3 tok ?_|refine AL.loadR tok rfl rfl rfl rfl rfl rfl ?_|refine qa4 tok ?_|refine qa5 tok ?_|refine AW.block ?_|refine AW.exit ?_|refine AW.skip ?_)
  refine AL.callNet (.par 0) 0 (k1) rfl rfl rfl rfl rfl (by decide) rfl rfl rfl rfl rfl rfl ?_
  repeat (first|refine AL.do tok rfl rfl ?_|refine AL.nil ?_|refine AW.seq fun K hK => ?_|refine AW.region ?_|refine AL.no rfl rfl ?_|(refine hK _ ?_; clear hK)|(clear hK; refine hK _ ?_; clear hK)|(clear hK; clear hK; refine hK _ ?_; clear hK)|refine qaW ?_|refine qa1 tok ?_|refine qa2 tok ?_|refine qa3 tok ?_|refine AL.loadR tok rfl rfl rfl rfl rfl rfl ?_|refine qa4 tok ?_|refine qa5 tok ?_|refine AW.block ?_|refine AW.exit ?_|refine AW.skip ?_)
  refine AL.callNet (.par 0) 2 (k2) rfl rfl rfl rfl rfl (by decide) rfl rfl rfl rfl rfl rfl ?_
  repeat (first|refine AL.do tok rfl rfl ?_|refine AL.nil ?_|refine AW.seq fun K hK => ?_|refine AW.region ?_|refine AL.no rfl rfl ?_|(refine hK _ ?_; clear hK)|(clear hK; refine hK _ ?_; clear hK)|(clear hK; clear hK; refine hK _ ?_; clear hK)|refine qaW ?_|refine qa1 tok ?_|refine qa2 tok ?_|refine qa3 tok ?_|refine AL.loadR tok rfl rfl rfl rfl rfl rfl ?_|refine qa4 tok ?_|refine qa5 tok ?_|refine AW.block ?_|refine AW.exit ?_|refine AW.skip ?_)
  refine AL.callNet (.par 0) 3 (k3) rfl rfl rfl rfl rfl (by decide) rfl rfl rfl rfl rfl rfl ?_
  rcases hm with ⟨rfl, rfl, hu, h1, h2, h3, h4, rfl⟩ | ⟨rfl, hno⟩
  · rw [hu] at k4
    have hwl : (setW n (putI n.way d ⟨false, delay.tmod 50, copies⟩ (copies.toNat + 1))).way.length = n.way.length + (copies.toNat + 1) := putI_len _ _ _ _
    rw [hwl]
    repeat (first|refine AL.do tok rfl rfl ?_|refine AL.nil ?_|refine AW.seq fun K hK => ?_|refine AW.region ?_|refine AL.no rfl rfl ?_|(refine hK _ ?_; clear hK)|(clear hK; refine hK _ ?_; clear hK)|(clear hK; clear hK; refine hK _ ?_; clear hK)|refine qaW ?_|refine qa1 tok ?_|refine qa2 tok ?_|refine qa3 tok ?_|refine AL.loadR tok rfl rfl rfl rfl rfl rfl ?_|refine qa4 tok ?_|refine qa5 tok ?_|refine AW.block ?_|refine AW.exit ?_|refine AW.skip ?_)
    refine AL.callNet (.par 0) 4 (k4) rfl rfl rfl rfl rfl (by decide) rfl rfl rfl rfl rfl rfl ?_
    repeat (first|refine AL.do tok rfl rfl ?_|refine AL.nil ?_|refine AW.seq fun K hK => ?_|refine AW.region ?_|refine AL.no rfl rfl ?_|(refine hK _ ?_; clear hK)|(clear hK; refine hK _ ?_; clear hK)|(clear hK; clear hK; refine hK _ ?_; clear hK)|refine qaW ?_|refine qa1 tok ?_|refine qa2 tok ?_|refine qa3 tok ?_|refine AL.loadR tok rfl rfl rfl rfl rfl rfl ?_|refine qa4 tok ?_|refine qa5 tok ?_|refine AW.block ?_|refine AW.exit ?_|refine AW.skip ?_)
    refine AW.condF rfl ?_
    have hpp := net_hp (n := setW n (putI n.way d ⟨false, delay.tmod 50, copies⟩ (copies.toNat + 1))) (k := 5) (c := 6) (by decide)
    have hnn : ((n.way.length + (copies.toNat + 1) : Nat) : Int) - n.way.length = copies + 1 := by omega
    repeat (first|refine AL.do tok rfl rfl ?_|refine AL.nil ?_|refine AW.seq fun K hK => ?_|refine AW.region ?_|refine AL.no rfl rfl ?_|(refine hK _ ?_; clear hK)|(clear hK; refine hK _ ?_; clear hK)|(clear hK; clear hK; refine hK _ ?_; clear hK)|refine qaW ?_|refine qa1 tok ?_|refine qa2 tok ?_|refine qa3 tok ?_|refine AL.loadR tok rfl rfl rfl rfl rfl rfl ?_|refine qa4 tok ?_|refine qa5 tok ?_|refine AW.block ?_|refine AW.exit ?_|refine AW.skip ?_)
    refine AW.anyX mix [[], [], [], [2], [2, 3], [2, 3, 4], [1, 2, 3, 4, 5], [0], [0, 1, 2, 3, 4, 5, 6, 7]] [[49, 50, 51, 52, 53, 54], [4, 48, 50, 51, 52, 53], [4, 48, 49], [4, 48, 49], [4, 48, 49], [4, 48, 49], [4, 48], [49, 50, 51, 52, 53, 54], []] [[], [], [], [], [], [], [], [], []] [] 6 15 rfl (by rfl) (by decide +kernel) (by first|rfl|(unfold base; rw [Bool.and_eq_true]; refine ⟨rfl, ?_⟩; simp only [List.all_cons, List.all_nil, Bool.and_true, Bool.and_eq_true]; repeat' (first|exact trivial|exact net_idB _ _ _ rfl|exact rfl|refine And.intro ?_ ?_))) (by first|assumption|(intro b hb; cases hb)) ?_ <;> repeat' (first|refine AR.step rfl rfl (by first|exact OSp.do tok rfl rfl rfl|exact OSp.no rfl rfl|exact OSp.noN rfl|exact qoW|exact OSp.copy tok rfl rfl rfl rfl rfl rfl rfl (by (first | (intro x hx; obtain ⟨_, _, rfl⟩ := List.mem_map.1 hx; rfl) | (intro x hx; replace hx := List.mem_of_mem_take (List.mem_of_mem_drop hx); obtain ⟨_, _, rfl⟩ := List.mem_map.1 hx; rfl) | (simp; done))) rfl rfl rfl rfl|exact OSp.buildSlice tok rfl rfl rfl rfl rfl rfl rfl rfl|exact OSp.append tok rfl rfl rfl rfl rfl rfl rfl rfl rfl rfl rfl (by first|(intro x hx; obtain ⟨_, _, rfl⟩ := List.mem_map.1 hx; rfl)|(simp; done)) (by simp; omega) (by simp; omega)|exact OSp.alloc tok rfl rfl rfl rfl|exact OSp.box tok rfl rfl rfl rfl rfl|exact OSp.boxC tok rfl rfl rfl rfl rfl|exact OSp.store tok rfl rfl rfl rfl rfl rfl rfl rfl|exact OSp.appIn tok rfl rfl rfl rfl rfl (by first|assumption|(intro e; have := congrArg List.length e; simp at this; omega)) rfl rfl (by (first | (intro x hx; obtain ⟨_, _, rfl⟩ := List.mem_map.1 hx; rfl) | (intro x hx; replace hx := List.mem_of_mem_take (List.mem_of_mem_drop hx); obtain ⟨_, _, rfl⟩ := List.mem_map.1 hx; rfl) | (simp; done))) rfl rfl rfl rfl (by first|omega|(simp; omega))|exact OSp.copyX tok rfl rfl rfl rfl rfl rfl rfl rfl (by first|omega|(simp; omega)) (by first|omega|(simp; omega)) (by first|omega|(simp; omega)) (by first|omega|(simp; omega)) (by first|omega|(simp; omega))) (by rfl) (by rfl) ?_|refine AR.done rfl rfl ?_|(refine AR.guard rfl rfl rfl rfl (fun hg => ?_) (fun hg => ?_) <;> ((try simp only [DX] at hg) <;> (try first|(exfalso; omega)|exact absurd trivial hg|exact False.elim hg|exact absurd rfl hg))))
    repeat (first|refine AL.do tok rfl rfl ?_|refine AL.nil ?_|refine AW.seq fun K hK => ?_|refine AW.region ?_|refine AL.no rfl rfl ?_|(refine hK _ ?_; clear hK)|(clear hK; refine hK _ ?_; clear hK)|(clear hK; clear hK; refine hK _ ?_; clear hK)|refine qaW ?_|refine qa1 tok ?_|refine qa2 tok ?_|refine qa3 tok ?_|refine AL.loadR tok rfl rfl rfl rfl rfl rfl ?_|refine qa4 tok ?_|refine qa5 tok ?_|refine AW.block ?_|refine AW.exit ?_|refine AW.skip ?_)
    refine AW.ret ?_
    rw [hnn, decide_eq_true rfl]
    refine net_retG (j := 5) rfl rfl rfl rfl rfl ⟨?_, rfl, rfl⟩
    rw [hwl, hnn]
  · by_cases he : e = 0
    · subst he
      repeat (first|refine AL.do tok rfl rfl ?_|refine AL.nil ?_|refine AW.seq fun K hK => ?_|refine AW.region ?_|refine AL.no rfl rfl ?_|(refine hK _ ?_; clear hK)|(clear hK; refine hK _ ?_; clear hK)|(clear hK; clear hK; refine hK _ ?_; clear hK)|refine qaW ?_|refine qa1 tok ?_|refine qa2 tok ?_|refine qa3 tok ?_|refine AL.loadR tok rfl rfl rfl rfl rfl rfl ?_|refine qa4 tok ?_|refine qa5 tok ?_|refine AW.block ?_|refine AW.exit ?_|refine AW.skip ?_)
      cases drop with
      | true =>
        repeat (first|refine AL.do tok rfl rfl ?_|refine AL.nil ?_|refine AW.seq fun K hK => ?_|refine AW.region ?_|refine AL.no rfl rfl ?_|(refine hK _ ?_; clear hK)|(clear hK; refine hK _ ?_; clear hK)|(clear hK; clear hK; refine hK _ ?_; clear hK)|refine qaW ?_|refine qa1 tok ?_|refine qa2 tok ?_|refine qa3 tok ?_|refine AL.loadR tok rfl rfl rfl rfl rfl rfl ?_|refine qa4 tok ?_|refine qa5 tok ?_|refine AW.block ?_|refine AW.exit ?_|refine AW.skip ?_)
        refine AW.condT rfl ?_
        repeat (first|refine AL.do tok rfl rfl ?_|refine AL.nil ?_|refine AW.seq fun K hK => ?_|refine AW.region ?_|refine AL.no rfl rfl ?_|(refine hK _ ?_; clear hK)|(clear hK; refine hK _ ?_; clear hK)|(clear hK; clear hK; refine hK _ ?_; clear hK)|refine qaW ?_|refine qa1 tok ?_|refine qa2 tok ?_|refine qa3 tok ?_|refine AL.loadR tok rfl rfl rfl rfl rfl rfl ?_|refine qa4 tok ?_|refine qa5 tok ?_|refine AW.block ?_|refine AW.exit ?_|refine AW.skip ?_)
        refine AW.ret ?_
        rw [Int.sub_self]
        refine net_retG (j := 4) rfl rfl rfl rfl rfl ⟨?_, rfl, rfl⟩
        rfl
      | false =>
        have hu : upS n' d.src d.dst = false := by simpa using hno
        rw [hu] at k4
        repeat (first|refine AL.do tok rfl rfl ?_|refine AL.nil ?_|refine AW.seq fun K hK => ?_|refine AW.region ?_|refine AL.no rfl rfl ?_|(refine hK _ ?_; clear hK)|(clear hK; refine hK _ ?_; clear hK)|(clear hK; clear hK; refine hK _ ?_; clear hK)|refine qaW ?_|refine qa1 tok ?_|refine qa2 tok ?_|refine qa3 tok ?_|refine AL.loadR tok rfl rfl rfl rfl rfl rfl ?_|refine qa4 tok ?_|refine qa5 tok ?_|refine AW.block ?_|refine AW.exit ?_|refine AW.skip ?_)
        refine AL.callNet (.par 0) 4 (k4) rfl rfl rfl rfl rfl (by decide) rfl rfl rfl rfl rfl rfl ?_
        repeat (first|refine AL.do tok rfl rfl ?_|refine AL.nil ?_|refine AW.seq fun K hK => ?_|refine AW.region ?_|refine AL.no rfl rfl ?_|(refine hK _ ?_; clear hK)|(clear hK; refine hK _ ?_; clear hK)|(clear hK; clear hK; refine hK _ ?_; clear hK)|refine qaW ?_|refine qa1 tok ?_|refine qa2 tok ?_|refine qa3 tok ?_|refine AL.loadR tok rfl rfl rfl rfl rfl rfl ?_|refine qa4 tok ?_|refine qa5 tok ?_|refine AW.block ?_|refine AW.exit ?_|refine AW.skip ?_)
        refine AW.condT rfl ?_
        repeat (first|refine AL.do tok rfl rfl ?_|refine AL.nil ?_|refine AW.seq fun K hK => ?_|refine AW.region ?_|refine AL.no rfl rfl ?_|(refine hK _ ?_; clear hK)|(clear hK; refine hK _ ?_; clear hK)|(clear hK; clear hK; refine hK _ ?_; clear hK)|refine qaW ?_|refine qa1 tok ?_|refine qa2 tok ?_|refine qa3 tok ?_|refine AL.loadR tok rfl rfl rfl rfl rfl rfl ?_|refine qa4 tok ?_|refine qa5 tok ?_|refine AW.block ?_|refine AW.exit ?_|refine AW.skip ?_)
        refine AW.ret ?_
        rw [Int.sub_self]
        refine net_retG (j := 5) rfl rfl rfl rfl rfl ⟨?_, rfl, rfl⟩
        rfl
    · repeat (first|refine AL.do tok rfl rfl ?_|refine AL.nil ?_|refine AW.seq fun K hK => ?_|refine AW.region ?_|refine AL.no rfl rfl ?_|(refine hK _ ?_; clear hK)|(clear hK; refine hK _ ?_; clear hK)|(clear hK; clear hK; refine hK _ ?_; clear hK)|refine qaW ?_|refine qa1 tok ?_|refine qa2 tok ?_|refine qa3 tok ?_|refine AL.loadR tok rfl rfl rfl rfl rfl rfl ?_|refine qa4 tok ?_|refine qa5 tok ?_|refine AW.block ?_|refine AW.exit ?_|refine AW.skip ?_)
      rw [decide_eq_false he]
      repeat (first|refine AL.do tok rfl rfl ?_|refine AL.nil ?_|refine AW.seq fun K hK => ?_|refine AW.region ?_|refine AL.no rfl rfl ?_|(refine hK _ ?_; clear hK)|(clear hK; refine hK _ ?_; clear hK)|(clear hK; clear hK; refine hK _ ?_; clear hK)|refine qaW ?_|refine qa1 tok ?_|refine qa2 tok ?_|refine qa3 tok ?_|refine AL.loadR tok rfl rfl rfl rfl rfl rfl ?_|refine qa4 tok ?_|refine qa5 tok ?_|refine AW.block ?_|refine AW.exit ?_|refine AW.skip ?_)
      refine AW.condT rfl ?_
      repeat (first|refine AL.do tok rfl rfl ?_|refine AL.nil ?_|refine AW.seq fun K hK => ?_|refine AW.region ?_|refine AL.no rfl rfl ?_|(refine hK _ ?_; clear hK)|(clear hK; refine hK _ ?_; clear hK)|(clear hK; clear hK; refine hK _ ?_; clear hK)|refine qaW ?_|refine qa1 tok ?_|refine qa2 tok ?_|refine qa3 tok ?_|refine AL.loadR tok rfl rfl rfl rfl rfl rfl ?_|refine qa4 tok ?_|refine qa5 tok ?_|refine AW.block ?_|refine AW.exit ?_|refine AW.skip ?_)
      refine AW.ret ?_
      rw [Int.sub_self]
      refine net_retG (j := 4) rfl rfl rfl rfl rfl ⟨?_, rfl, rfl⟩
      rfl
end Go.Proofs.Try
