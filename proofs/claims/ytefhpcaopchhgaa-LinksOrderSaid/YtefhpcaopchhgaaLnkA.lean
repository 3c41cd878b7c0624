/- links: the calls that stand by themselves. -/
import Derived.Test.YtefhpcaopchhgaaAM68
import Derived.Test.YtefhpcaopchhgaaWk
import Derived.Tactics
import Derived.Tactics2
import Derived.Recover
import Derived.WalkLawsBesides
import Derived.Laws.Pointers
import Derived.Test.YtefhpcaopchhgaaWk
set_option linter.unusedSimpArgs false
set_option linter.unusedVariables false
namespace Go.Proofs.Try
open Go Go.AM

/-- The cells of a net's variable. -/
def netVs (nn : Int) : Array Value := ((.int .i64 nn) :: (List.replicate 49 (.bool false) ++ [.slice none 0 0])).toArray
set_option maxHeartbeats 4000000 in
set_option maxRecDepth 20000 in
theorem new_raw (nn : Int) (h : 1 ≤ nn ∧ nn ≤ 7) (w : World) : Calls Try.prog 7 #[.int .i64 nn] w fun e w' => e = .returned (.tuple #[.pointer (some ⟨w.heap.size, 0, none⟩), .int .i64 0]) ∧ w' = w.alloc (.cells (netVs nn) 70) := by
  have h1 : ¬ nn < 1 := by omega
  have h2 : ¬ 7 < nn := by omega
  go_enter Try.func7, Try.ntmps7
  go_wp2
  refine ⟨rfl, .tuple #[.pointer (some ⟨w.heap.size, 0, none⟩), .int .i64 0], ?_, rfl, rfl⟩
  simp [results, Try.results7]
set_option maxHeartbeats 4000000 in
set_option maxRecDepth 20000 in
theorem require_raw (code : Int) (w : World) : Calls Try.prog 37 #[.bool false, .int .i64 code] w fun e w' => e = .panicked [{ v := .iface 73 (.agg #[.int .i64 code]), recovered := false }] ∧ w' = w := by
  go_enter Try.func37, Try.ntmps37
  go_wp2
  exact ⟨rfl, rfl, rfl⟩
/-- A datagram; one on its way; a net. -/
structure Dg where
  src : Int
  dst : Int
  bytes : List Nat
  deriving DecidableEq
structure It where
  wait : Int
  d : Dg
  deriving DecidableEq
structure Nt where
  nodes : Int
  cut : List Bool
  way : List It
  deriving DecidableEq
structure Fa where
  drop : Bool
  delay : Int
  copies : Int
def encU (b : Nat) : List D := [.one (.int .u8 (b : Int))]
abbrev rowU (l : List Nat) : AV := .d (.row (l.map encU))
def encDg (d : Dg) : List D := [.one (.int .i64 d.src), .one (.int .i64 d.dst), .row (d.bytes.map encU)]
def encIt (x : It) : List D := [.one (.int .i64 x.wait), .one (.int .i64 x.d.src), .one (.int .i64 x.d.dst), .row (x.d.bytes.map encU)]
abbrev aggDg (d : Dg) : AV := .agg [i64 d.src, i64 d.dst, rowU d.bytes]
abbrev rowDg (l : List Dg) : AV := .d (.row (l.map encDg))
abbrev aggF (f : Fa) : AV := .agg [bo f.drop, i64 f.delay, i64 f.copies]
abbrev netC (n : Nt) (way : AV) : List AV := i64 n.nodes :: (n.cut.map (fun b => bo b) ++ [way])
abbrev netB (n : Nt) (way : AV) : Blk := .box 70 (netC n way)
abbrev wayR (n : Nt) : Rw := ⟨76, 4, n.way.map encIt⟩
/-- A call of a method of a net. -/
def ACallNet (f : FuncId) (args : List AV) (n : Nt) (r : AV) (n' : Nt) : Prop := ACallsX Try.prog f args [netB n (.own (.loc 0))] [wayR n] fun r' Hp' Hr => r' = r ∧ Hp' = [netB n' (.own (.loc 0))] ∧ Hr = [wayR n']
theorem net_way {n : Nt} {way : AV} {off : Nat} (h : off = n.cut.length + 1) : (netC n way)[off]? = some way := by
  subst h
  simp [netC]
theorem net_cut {n : Nt} {way : AV} {off k : Nat} (h : off = k + 1) (hk : k < n.cut.length) : (netC n way)[off]? = some (bo n.cut[k]) := by
  subst h
  show ((n.cut.map fun b => bo b) ++ [way])[k]? = _
  rw [List.getElem?_append_left (by simpa using hk)]
  simp [hk]
theorem net_map (m : List AM.Id) (is : List Nat) (n : Nt) (k : Nat) : mpB m is (netB n (.own (.loc k))) = netB n (.own (.loc (is.getD k 0))) := by
  have : (n.cut.map fun b => bo b).map (mp1 m is) = n.cut.map fun b => bo b := by
    rw [List.map_map]
    rfl
  simp only [mpB, netB, netC, List.map_cons, List.map_append, List.map_nil, this]
  rfl
theorem net_ok (p q : Nat) (n : Nt) {k : Nat} (hk : k < q) : okmB p q (netB n (.own (.loc k))) = true := by
  simp only [okmB, netB, netC, List.all_cons, List.all_append, List.all_nil, Bool.and_true, Bool.and_eq_true, List.all_eq_true]
  refine ⟨rfl, fun x hx => ?_, by simpa [okm1, okI] using hk⟩
  obtain ⟨b, _, rfl⟩ := List.mem_map.1 hx
  rfl
/-- What a method's body leaves. -/
theorem net_out {σ : St} {n' : Nt} {j : Nat} (hp : σ.Hp = [netB n' (.own (.loc j))]) (hr : hk σ (.loc j) = some (wayR n').blk) {R : List Blk → List Rw → Prop} (hR : R [netB n' (.own (.loc 0))] [wayR n']) : OutX σ R [netB n' (.own (.loc 0))] [wayR n'] [j] := by
  refine ⟨hR, rfl, by simp, fun k i rw h1 h2 => ?_, ?_, ?_⟩
  · cases k with
    | zero =>
      simp at h1 h2
      subst h1; subst h2
      exact hr
    | succ k => simp at h1
  · rw [hp, List.map_cons, net_map]
    rfl
  · simp only [List.all_cons, List.all_nil, Bool.and_true]
    exact net_ok _ _ _ (by simp)
theorem net_ret {ts : List (Nat × TI)} {rs : List ResultVar} {σ : St} {x : D} {n' : Nt} {j : Nat} {R : AV → List Blk → List Rw → Prop} (h1 : ares ts rs σ = some (.d x)) (hp : σ.Hp = [netB n' (.own (.loc j))]) (hr : hk σ (.loc j) = some (wayR n').blk) (hR : R (.d x) [netB n' (.own (.loc 0))] [wayR n']) :
    ∃ rf r Hp' Hr mm, ares ts rs σ = some rf ∧ mp2 [] mm r = rf ∧ okm2 Hp'.length mm.length r = true ∧ OutX σ (R r) Hp' Hr mm :=
  ⟨_, .d x, _, _, [j], h1, rfl, rfl, net_out hp hr hR⟩
section
variable {l rest : List Oper} {Q : Exit → St → Prop} {nn clk : Nat} {T : List (Nat × AV)} {H : List (Nat × Option Blk)} {Hp : List Blk} {x : Operand} {args : Array Operand} {tys : Array TypeId} {ty : TypeId} {pos : String} {aft : Array Edge} {g : Option (Nat × Bool)} {o : Option Tmp}
/-- A net's method is called: the net's variable is i, its row k. -/
theorem AL.callNet (i : AM.Id) (k : Nat) {f : FuncId} {n n' : Nt} {r : AV} {caps as_ ys : List AV} (hc : ACallNet f ys n r n') (hw : wantedA l ⟨o, .call ⟨.value x, args, tys⟩, ty, pos, aft, g⟩ ⟨nn, T, H, Hp, clk⟩ = some true)
    (hx : ev ⟨nn, T, H, Hp, clk⟩ x = some (.fn f caps)) (ha : aevs ⟨nn, T, H, Hp, clk⟩ args.toList some = some as_) (hb : hk ⟨nn, T, H, Hp, clk⟩ i = some (netB n (.own (.loc k)))) (hkw : hk ⟨nn, T, H, Hp, clk⟩ (.loc k) = some (wayR n).blk)
    (hne : .loc k ≠ i) (hys : ys.map (mp2 [i] [k]) = as_ ++ caps) (hpk : ys.all (okm2 1 1) = true) (hr : mp2 [i] (iota clk 1) r = r) (hok : okm2 1 1 r = true) {σ2 σ3 : St} (hset : aset ⟨nn, T, (clk, some (wayR n').blk) :: (k, none) :: H, Hp, clk + 1⟩ i (netB n' (.own (.loc clk))) = some σ2)
    (hput : put σ2 o r = some σ3) (h : AL Try.prog l Q rest σ3) : AL Try.prog l Q (⟨o, .call ⟨.value x, args, tys⟩, ty, pos, aft, g⟩ :: rest) ⟨nn, T, H, Hp, clk⟩ := by
  refine AL.callX [i] [k] hc hw hx ha (by simp only [List.map_cons, List.map_nil, hb, net_map]; rfl) (by simp only [List.map_cons, List.map_nil, hkw]) (by simp only [List.all_cons, List.all_nil, Bool.and_true]; exact net_ok _ _ _ (by simp)) (by simp) (by simp) (by simpa using hne) hys hpk (fun r' Hp' Hr hr' => ?_)
  obtain ⟨rfl, rfl, rfl⟩ := hr'
  refine ⟨hok, rfl, by simp only [List.all_cons, List.all_nil, Bool.and_true]; exact net_ok _ _ _ (by simp), σ2, σ3, ?_, ?_, h⟩
  · simp only [List.map_cons, List.map_nil, net_map, List.zip_cons_cons, List.zip_nil_left, asetL]
    have e : aset ⟨nn, T, rowsH clk [wayR n'] ++ dropI [k] H, Hp, clk + [wayR n'].length⟩ i (netB n' (.own (.loc clk))) = some σ2 := hset
    rw [show (iota clk [wayR n'].length).getD 0 0 = clk from rfl, e]
  · rw [show mp2 [i] (iota clk [wayR n'].length) r' = r' from hr]
    exact hput
end
def pairS (n : Nt) (a b : Int) : Bool := !decide (a = b) && (decide (0 ≤ a) && (decide (0 ≤ b) && (decide (a < n.nodes) && decide (b < n.nodes))))
set_option maxHeartbeats 8000000 in
set_option maxRecDepth 10000 in
theorem pair_calls (n : Nt) (a b : Int) : ACallNet 29 [.ptr (.par 0) 0, i64 a, i64 b] n (bo (pairS n a b)) n := by
  unfold pairS
  refine ACallsX.body tok Try.func29 rfl (by kernel_rfl) (by rw [Try.ntmps29]; simp) ?_
  simp only [Try.ntmps29, Try.results29, argT, rowsH, Rw.blk, List.length_cons, List.length_nil]
  repeat' (first|refine AL.do tok rfl rfl ?_|refine AL.nil ?_|refine AW.seq fun K hK => ?_|refine AW.region ?_|refine AL.no rfl rfl ?_|(refine hK _ ?_; clear hK)|(clear hK; refine hK _ ?_; clear hK)|(clear hK; clear hK; refine hK _ ?_; clear hK)|refine qaW ?_|refine qa1 tok ?_|refine qa2 tok ?_|refine qa3 tok ?_|refine AL.loadR tok rfl rfl rfl rfl rfl rfl ?_|refine qa4 tok ?_|refine qa5 tok ?_|refine AW.block ?_|refine AW.exit ?_|refine AW.skip ?_|((fail_if_success (refine AL.guard (b := true) rfl rfl ?_ ?_)); (fail_if_success (refine AL.guard (b := false) rfl rfl ?_ ?_)); refine AL.guard rfl rfl (fun hg => ?_) (fun hg => ?_) <;> ((try simp only [DX] at hg) <;> (try first|(exfalso; omega)|exact absurd trivial hg|exact False.elim hg|exact absurd rfl hg)))|refine AW.condT rfl ?_|refine AW.condF rfl ?_|(refine AW.cond rfl (fun hg => ?_) (fun hg => ?_) <;> ((try simp only [DX] at hg) <;> (try first|(exfalso; omega)|exact absurd trivial hg|exact False.elim hg|exact absurd rfl hg))))
  all_goals
    refine AW.ret ?_
    refine net_ret rfl rfl rfl ⟨?_, rfl, rfl⟩
    (try simp [*])
    (try omega)
set_option maxHeartbeats 8000000 in
set_option maxRecDepth 10000 in
theorem waiting_calls (n : Nt) (hc : n.cut.length = 49) : ACallNet 10 [.ptr (.par 0) 0] n (i64 n.way.length) n := by
  have hlm : (n.way.map encIt).length = n.way.length := List.length_map ..
  refine ACallsX.body tok Try.func10 rfl (by kernel_rfl) (by rw [Try.ntmps10]; simp) ?_
  simp only [Try.ntmps10, Try.results10, argT, rowsH, Rw.blk, List.length_cons, List.length_nil]
  repeat (first|refine AL.do tok rfl rfl ?_|refine AL.nil ?_|refine AW.seq fun K hK => ?_|refine AW.region ?_|refine AL.no rfl rfl ?_|(refine hK _ ?_; clear hK)|(clear hK; refine hK _ ?_; clear hK)|(clear hK; clear hK; refine hK _ ?_; clear hK)|refine qaW ?_|refine qa1 tok ?_|refine qa2 tok ?_|refine qa3 tok ?_|refine AL.loadR tok rfl rfl rfl rfl rfl rfl ?_|refine qa4 tok ?_|refine qa5 tok ?_|refine AW.block ?_|refine AW.exit ?_|refine AW.skip ?_)
  refine AL.v rfl rfl (VOp.loadC tok rfl rfl (net_way (by rw [hc])) rfl rfl) ?_
  repeat (first|refine AL.do tok rfl rfl ?_|refine AL.nil ?_|refine AW.seq fun K hK => ?_|refine AW.region ?_|refine AL.no rfl rfl ?_|(refine hK _ ?_; clear hK)|(clear hK; refine hK _ ?_; clear hK)|(clear hK; clear hK; refine hK _ ?_; clear hK)|refine qaW ?_|refine qa1 tok ?_|refine qa2 tok ?_|refine qa3 tok ?_|refine AL.loadR tok rfl rfl rfl rfl rfl rfl ?_|refine qa4 tok ?_|refine qa5 tok ?_|refine AW.block ?_|refine AW.exit ?_|refine AW.skip ?_)
  refine AW.ret ?_
  refine net_ret rfl rfl rfl ⟨?_, rfl, rfl⟩
  rw [← hlm]
def lo (a b : Int) : Int := if b < a then b else a
def hi (a b : Int) : Int := if b > a then b else a
def ixS (a b : Int) : Nat := (lo a b).toNat * 7 + (hi a b).toNat
def upS (n : Nt) (a b : Int) : Bool := pairS n a b && !(n.cut.getD (ixS a b) false)
theorem pair_ix {n : Nt} {a b : Int} (hn : n.nodes ≤ 7) (h : pairS n a b = true) : 0 ≤ lo a b ∧ lo a b < 7 ∧ 0 ≤ hi a b ∧ hi a b < 7 ∧ ixS a b < 49 := by
  unfold pairS at h
  simp only [Bool.and_eq_true, Bool.not_eq_true', decide_eq_false_iff_not, decide_eq_true_eq] at h
  have h1 : 0 ≤ lo a b ∧ lo a b < 7 := by unfold lo; split <;> omega
  have h2 : 0 ≤ hi a b ∧ hi a b < 7 := by unfold hi; split <;> omega
  refine ⟨h1.1, h1.2, h2.1, h2.2, ?_⟩
  unfold ixS
  omega
set_option maxHeartbeats 8000000 in
set_option maxRecDepth 10000 in
theorem up_calls (n : Nt) (a b : Int) (hc : n.cut.length = 49) (hn : n.nodes ≤ 7) : ACallNet 25 [.ptr (.par 0) 0, i64 a, i64 b] n (bo (upS n a b)) n := by
  have k1 := pair_calls n a b
  have hix := pair_ix (a := a) (b := b) hn
  unfold upS
  generalize pairS n a b = c at *
  refine ACallsX.body tok Try.func25 rfl (by kernel_rfl) (by rw [Try.ntmps25]; simp) ?_
  simp only [Try.ntmps25, Try.results25, argT, rowsH, Rw.blk, List.length_cons, List.length_nil]
  repeat (first|refine AL.do tok rfl rfl ?_|refine AL.nil ?_|refine AW.seq fun K hK => ?_|refine AW.region ?_|refine AL.no rfl rfl ?_|(refine hK _ ?_; clear hK)|(clear hK; refine hK _ ?_; clear hK)|(clear hK; clear hK; refine hK _ ?_; clear hK)|refine qaW ?_|refine qa1 tok ?_|refine qa2 tok ?_|refine qa3 tok ?_|refine AL.loadR tok rfl rfl rfl rfl rfl rfl ?_|refine qa4 tok ?_|refine qa5 tok ?_|refine AW.block ?_|refine AW.exit ?_|refine AW.skip ?_)
  refine AL.callNet (.par 0) 0 (k1) rfl rfl rfl rfl rfl (by decide) rfl rfl rfl rfl rfl rfl ?_
  repeat (first|refine AL.do tok rfl rfl ?_|refine AL.nil ?_|refine AW.seq fun K hK => ?_|refine AW.region ?_|refine AL.no rfl rfl ?_|(refine hK _ ?_; clear hK)|(clear hK; refine hK _ ?_; clear hK)|(clear hK; clear hK; refine hK _ ?_; clear hK)|refine qaW ?_|refine qa1 tok ?_|refine qa2 tok ?_|refine qa3 tok ?_|refine AL.loadR tok rfl rfl rfl rfl rfl rfl ?_|refine qa4 tok ?_|refine qa5 tok ?_|refine AW.block ?_|refine AW.exit ?_|refine AW.skip ?_)
  cases c with
  | false =>
    repeat (first|refine AL.do tok rfl rfl ?_|refine AL.nil ?_|refine AW.seq fun K hK => ?_|refine AW.region ?_|refine AL.no rfl rfl ?_|(refine hK _ ?_; clear hK)|(clear hK; refine hK _ ?_; clear hK)|(clear hK; clear hK; refine hK _ ?_; clear hK)|refine qaW ?_|refine qa1 tok ?_|refine qa2 tok ?_|refine qa3 tok ?_|refine AL.loadR tok rfl rfl rfl rfl rfl rfl ?_|refine qa4 tok ?_|refine qa5 tok ?_|refine AW.block ?_|refine AW.exit ?_|refine AW.skip ?_)
    refine AW.ret ?_
    refine net_ret rfl rfl rfl ⟨?_, rfl, rfl⟩
    rfl
  | true =>
    obtain ⟨h1, h2, h3, h4, h5⟩ := hix rfl
    repeat (first|refine AL.do tok rfl rfl ?_|refine AL.nil ?_|refine AW.seq fun K hK => ?_|refine AW.region ?_|refine AL.no rfl rfl ?_|(refine hK _ ?_; clear hK)|(clear hK; refine hK _ ?_; clear hK)|(clear hK; clear hK; refine hK _ ?_; clear hK)|refine qaW ?_|refine qa1 tok ?_|refine qa2 tok ?_|refine qa3 tok ?_|refine AL.loadR tok rfl rfl rfl rfl rfl rfl ?_|refine qa4 tok ?_|refine qa5 tok ?_|refine AW.block ?_|refine AW.exit ?_|refine AW.skip ?_)
    refine AL.v rfl rfl (qv30 tok (h0 := h1) (h1 := by show lo a b < ((7 : Nat) : Int); omega)) ?_
    repeat (first|refine AL.do tok rfl rfl ?_|refine AL.nil ?_|refine AW.seq fun K hK => ?_|refine AW.region ?_|refine AL.no rfl rfl ?_|(refine hK _ ?_; clear hK)|(clear hK; refine hK _ ?_; clear hK)|(clear hK; clear hK; refine hK _ ?_; clear hK)|refine qaW ?_|refine qa1 tok ?_|refine qa2 tok ?_|refine qa3 tok ?_|refine AL.loadR tok rfl rfl rfl rfl rfl rfl ?_|refine qa4 tok ?_|refine qa5 tok ?_|refine AW.block ?_|refine AW.exit ?_|refine AW.skip ?_)
    refine AL.v rfl rfl (qv30 tok (h0 := h3) (h1 := by show hi a b < ((7 : Nat) : Int); omega)) ?_
    repeat (first|refine AL.do tok rfl rfl ?_|refine AL.nil ?_|refine AW.seq fun K hK => ?_|refine AW.region ?_|refine AL.no rfl rfl ?_|(refine hK _ ?_; clear hK)|(clear hK; refine hK _ ?_; clear hK)|(clear hK; clear hK; refine hK _ ?_; clear hK)|refine qaW ?_|refine qa1 tok ?_|refine qa2 tok ?_|refine qa3 tok ?_|refine AL.loadR tok rfl rfl rfl rfl rfl rfl ?_|refine qa4 tok ?_|refine qa5 tok ?_|refine AW.block ?_|refine AW.exit ?_|refine AW.skip ?_)
    refine AL.v rfl rfl (VOp.loadC tok rfl rfl (net_cut (k := ixS a b) (by show 0 + 1 + (lo a b).toNat * 7 + (hi a b).toNat * 1 = ixS a b + 1; unfold ixS; omega) (by omega)) rfl rfl) ?_
    repeat (first|refine AL.do tok rfl rfl ?_|refine AL.nil ?_|refine AW.seq fun K hK => ?_|refine AW.region ?_|refine AL.no rfl rfl ?_|(refine hK _ ?_; clear hK)|(clear hK; refine hK _ ?_; clear hK)|(clear hK; clear hK; refine hK _ ?_; clear hK)|refine qaW ?_|refine qa1 tok ?_|refine qa2 tok ?_|refine qa3 tok ?_|refine AL.loadR tok rfl rfl rfl rfl rfl rfl ?_|refine qa4 tok ?_|refine qa5 tok ?_|refine AW.block ?_|refine AW.exit ?_|refine AW.skip ?_)
    refine AW.ret ?_
    refine net_ret rfl rfl rfl ⟨?_, rfl, rfl⟩
    rw [List.getD_eq_getElem?_getD, List.getElem?_eq_getElem (by omega)]
    rfl
end Go.Proofs.Try
