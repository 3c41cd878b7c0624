/- links: calls that only read a net. -/
import Derived.Test.YtefhpcaopchhgaaLnkV
import Derived.Test.YtefhpcaopchhgaaAM76
import Derived.Test.YtefhpcaopchhgaaWk
set_option linter.unusedSimpArgs false
set_option linter.unusedVariables false
namespace Go.Proofs.Try
open Go Go.AM

abbrev hpN (n : Nt) : List Blk := [netB n (.own (.par 1)), (wayR n).blk]
/-- A method that only reads its net. -/
def ACallNR (f : FuncId) (args : List AV) (n : Nt) (r : D) : Prop := ACalls Try.prog f args (hpN n) fun r' Hp' Hr => (r' = .d r ∧ Hr = []) ∧ Hp' = hpN n
theorem net_rp (m : List AM.Id) (n : Nt) (k : Nat) : rpB m (netB n (.own (.par k))) = netB n (.own (rpI m (.par k))) := by
  have : (n.cut.map fun b => bo b).map (rp2 m) = n.cut.map fun b => bo b := by
    rw [List.map_map]
    rfl
  simp only [rpB, netB, netC, List.map_cons, List.map_append, List.map_nil, this]
  rfl
theorem net_pk (q : Nat) (n : Nt) (k : Nat) (hk : k < q) : pkB q (netB n (.own (.par k))) = true := by
  simp only [pkB, netB, netC, List.all_cons, List.all_append, List.all_nil, Bool.and_true, Bool.and_eq_true, List.all_eq_true]
  refine ⟨rfl, fun x hx => ?_, by simpa [pk2, pk1, pkI] using hk⟩
  obtain ⟨b, _, rfl⟩ := List.mem_map.1 hx
  rfl
set_option maxHeartbeats 8000000 in
set_option maxRecDepth 10000 in
theorem pairN_calls (n : Nt) (a b : Int) : ACallNR 29 [.ptr (.par 0) 0, i64 a, i64 b] n (.one (.bool (pairS n a b))) := by
  unfold pairS ACallNR
  refine ACalls.body tok Try.func29 rfl (by kernel_rfl) (by rw [Try.ntmps29]; simp) ?_
  simp only [Try.ntmps29, Try.results29, argT]
  repeat' (first|refine AL.do tok rfl rfl ?_|refine AL.nil ?_|refine AW.seq fun K hK => ?_|refine AW.region ?_|refine AL.no rfl rfl ?_|(refine hK _ ?_; clear hK)|(clear hK; refine hK _ ?_; clear hK)|(clear hK; clear hK; refine hK _ ?_; clear hK)|refine qaW ?_|refine qa1 tok ?_|refine qa2 tok ?_|refine qa3 tok ?_|refine AL.loadR tok rfl rfl rfl rfl rfl rfl ?_|refine qa4 tok ?_|refine qa5 tok ?_|refine AW.block ?_|refine AW.exit ?_|refine AW.skip ?_|((fail_if_success (refine AL.guard (b := true) rfl rfl ?_ ?_)); (fail_if_success (refine AL.guard (b := false) rfl rfl ?_ ?_)); refine AL.guard rfl rfl (fun hg => ?_) (fun hg => ?_) <;> ((try simp only [DX] at hg) <;> (try first|(exfalso; omega)|exact absurd trivial hg|exact False.elim hg|exact absurd rfl hg)))|refine AW.condT rfl ?_|refine AW.condF rfl ?_|(refine AW.cond rfl (fun hg => ?_) (fun hg => ?_) <;> ((try simp only [DX] at hg) <;> (try first|(exfalso; omega)|exact absurd trivial hg|exact False.elim hg|exact absurd rfl hg))))
  all_goals
    refine AW.ret ?_
    refine ⟨_, _, _, _, rfl, Out.pure rfl ⟨⟨?_, rfl⟩, rfl⟩ rfl⟩
    (try simp [*])
    (try omega)
set_option maxHeartbeats 8000000 in
set_option maxRecDepth 10000 in
theorem waitingN_calls (n : Nt) (hc : n.cut.length = 49) : ACallNR 10 [.ptr (.par 0) 0] n (.one (.int .i64 n.way.length)) := by
  have hlm : (n.way.map encIt).length = n.way.length := List.length_map ..
  unfold ACallNR
  refine ACalls.body tok Try.func10 rfl (by kernel_rfl) (by rw [Try.ntmps10]; simp) ?_
  simp only [Try.ntmps10, Try.results10, argT]
  repeat (first|refine AL.do tok rfl rfl ?_|refine AL.nil ?_|refine AW.seq fun K hK => ?_|refine AW.region ?_|refine AL.no rfl rfl ?_|(refine hK _ ?_; clear hK)|(clear hK; refine hK _ ?_; clear hK)|(clear hK; clear hK; refine hK _ ?_; clear hK)|refine qaW ?_|refine qa1 tok ?_|refine qa2 tok ?_|refine qa3 tok ?_|refine AL.loadR tok rfl rfl rfl rfl rfl rfl ?_|refine qa4 tok ?_|refine qa5 tok ?_|refine AW.block ?_|refine AW.exit ?_|refine AW.skip ?_)
  refine AL.v rfl rfl (VOp.loadC tok rfl rfl (net_way (by rw [hc])) rfl rfl) ?_
  repeat (first|refine AL.do tok rfl rfl ?_|refine AL.nil ?_|refine AW.seq fun K hK => ?_|refine AW.region ?_|refine AL.no rfl rfl ?_|(refine hK _ ?_; clear hK)|(clear hK; refine hK _ ?_; clear hK)|(clear hK; clear hK; refine hK _ ?_; clear hK)|refine qaW ?_|refine qa1 tok ?_|refine qa2 tok ?_|refine qa3 tok ?_|refine AL.loadR tok rfl rfl rfl rfl rfl rfl ?_|refine qa4 tok ?_|refine qa5 tok ?_|refine AW.block ?_|refine AW.exit ?_|refine AW.skip ?_)
  refine AW.ret ?_
  refine ⟨_, _, _, _, rfl, Out.pure rfl ⟨⟨?_, rfl⟩, rfl⟩ rfl⟩
  rw [← hlm]
set_option maxHeartbeats 8000000 in
set_option maxRecDepth 10000 in
theorem upN_calls (n : Nt) (a b : Int) (hc : n.cut.length = 49) (hn : n.nodes ≤ 7) : ACallNR 25 [.ptr (.par 0) 0, i64 a, i64 b] n (.one (.bool (upS n a b))) := by
  have k1 := pairN_calls n a b
  have hix := pair_ix (a := a) (b := b) hn
  unfold upS
  generalize pairS n a b = c at *
  unfold ACallNR
  refine ACalls.body tok Try.func25 rfl (by kernel_rfl) (by rw [Try.ntmps25]; simp) ?_
  simp only [Try.ntmps25, Try.results25, argT]
  repeat (first|refine AL.do tok rfl rfl ?_|refine AL.nil ?_|refine AW.seq fun K hK => ?_|refine AW.region ?_|refine AL.no rfl rfl ?_|(refine hK _ ?_; clear hK)|(clear hK; refine hK _ ?_; clear hK)|(clear hK; clear hK; refine hK _ ?_; clear hK)|refine qaW ?_|refine qa1 tok ?_|refine qa2 tok ?_|refine qa3 tok ?_|refine AL.loadR tok rfl rfl rfl rfl rfl rfl ?_|refine qa4 tok ?_|refine qa5 tok ?_|refine AW.block ?_|refine AW.exit ?_|refine AW.skip ?_)
  refine AL.callN [.par 0, .par 1] (R := fun r' Hr => r' = .d (.one (.bool c)) ∧ Hr = []) k1 rfl rfl rfl rfl (by simp only [List.map_cons, List.map_nil, net_rp]; rfl) (by rw [List.all_cons, net_pk _ _ _ (by decide)]; rfl) (by decide) rfl rfl (fun r' Hr hr => ?_)
  obtain ⟨rfl, rfl⟩ := hr
  refine ⟨rfl, ?_⟩
  repeat (first|refine AL.do tok rfl rfl ?_|refine AL.nil ?_|refine AW.seq fun K hK => ?_|refine AW.region ?_|refine AL.no rfl rfl ?_|(refine hK _ ?_; clear hK)|(clear hK; refine hK _ ?_; clear hK)|(clear hK; clear hK; refine hK _ ?_; clear hK)|refine qaW ?_|refine qa1 tok ?_|refine qa2 tok ?_|refine qa3 tok ?_|refine AL.loadR tok rfl rfl rfl rfl rfl rfl ?_|refine qa4 tok ?_|refine qa5 tok ?_|refine AW.block ?_|refine AW.exit ?_|refine AW.skip ?_)
  cases c with
  | false =>
    repeat (first|refine AL.do tok rfl rfl ?_|refine AL.nil ?_|refine AW.seq fun K hK => ?_|refine AW.region ?_|refine AL.no rfl rfl ?_|(refine hK _ ?_; clear hK)|(clear hK; refine hK _ ?_; clear hK)|(clear hK; clear hK; refine hK _ ?_; clear hK)|refine qaW ?_|refine qa1 tok ?_|refine qa2 tok ?_|refine qa3 tok ?_|refine AL.loadR tok rfl rfl rfl rfl rfl rfl ?_|refine qa4 tok ?_|refine qa5 tok ?_|refine AW.block ?_|refine AW.exit ?_|refine AW.skip ?_)
    refine AW.ret ?_
    refine ⟨_, _, _, _, rfl, Out.pure rfl ⟨⟨?_, rfl⟩, rfl⟩ rfl⟩
    rfl
  | true =>
    obtain ⟨h1, h2, h3, h4, h5⟩ := hix rfl
    repeat (first|refine AL.do tok rfl rfl ?_|refine AL.nil ?_|refine AW.seq fun K hK => ?_|refine AW.region ?_|refine AL.no rfl rfl ?_|(refine hK _ ?_; clear hK)|(clear hK; refine hK _ ?_; clear hK)|(clear hK; clear hK; refine hK _ ?_; clear hK)|refine qaW ?_|refine qa1 tok ?_|refine qa2 tok ?_|refine qa3 tok ?_|refine AL.loadR tok rfl rfl rfl rfl rfl rfl ?_|refine qa4 tok ?_|refine qa5 tok ?_|refine AW.block ?_|refine AW.exit ?_|refine AW.skip ?_)
    refine AL.v rfl rfl (qv30 tok (h0 := h1) (h1 := by show lo a b < ((7 : Nat) : Int); omega)) ?_
    repeat (first|refine AL.do tok rfl rfl ?_|refine AL.nil ?_|refine AW.seq fun K hK => ?_|refine AW.region ?_|refine AL.no rfl rfl ?_|(refine hK _ ?_; clear hK)|(clear hK; refine hK _ ?_; clear hK)|(clear hK; clear hK; refine hK _ ?_; clear hK)|refine qaW ?_|refine qa1 tok ?_|refine qa2 tok ?_|refine qa3 tok ?_|refine AL.loadR tok rfl rfl rfl rfl rfl rfl ?_|refine qa4 tok ?_|refine qa5 tok ?_|refine AW.block ?_|refine AW.exit ?_|refine AW.skip ?_)
    refine AL.v rfl rfl (qv30 tok (h0 := h3) (h1 := by show hi a b < ((7 : Nat) : Int); omega)) ?_
    repeat (first|refine AL.do tok rfl rfl ?_|refine AL.nil ?_|refine AW.seq fun K hK => ?_|refine AW.region ?_|refine AL.no rfl rfl ?_|(refine hK _ ?_; clear hK)|(clear hK; refine hK _ ?_; clear hK)|(clear hK; clear hK; refine hK _ ?_; clear hK)|refine qaW ?_|refine qa1 tok ?_|refine qa2 tok ?_|refine qa3 tok ?_|refine AL.loadR tok rfl rfl rfl rfl rfl rfl ?_|refine qa4 tok ?_|refine qa5 tok ?_|refine AW.block ?_|refine AW.exit ?_|refine AW.skip ?_)
    refine AL.v rfl rfl (VOp.loadC tok rfl rfl (net_cut (k := ixS a b) (by show 0 + 1 + (lo a b).toNat * 7 + (hi a b).toNat * 1 = ixS a b + 1; unfold ixS; omega) (by omega)) rfl rfl) ?_
    repeat (first|refine AL.do tok rfl rfl ?_|refine AL.nil ?_|refine AW.seq fun K hK => ?_|refine AW.region ?_|refine AL.no rfl rfl ?_|(refine hK _ ?_; clear hK)|(clear hK; refine hK _ ?_; clear hK)|(clear hK; clear hK; refine hK _ ?_; clear hK)|refine qaW ?_|refine qa1 tok ?_|refine qa2 tok ?_|refine qa3 tok ?_|refine AL.loadR tok rfl rfl rfl rfl rfl rfl ?_|refine qa4 tok ?_|refine qa5 tok ?_|refine AW.block ?_|refine AW.exit ?_|refine AW.skip ?_)
    refine AW.ret ?_
    refine ⟨_, _, _, _, rfl, Out.pure rfl ⟨⟨?_, rfl⟩, rfl⟩ rfl⟩
    rw [List.getD_eq_getElem?_getD, List.getElem?_eq_getElem (by omega)]
    rfl
section
variable {l : List Oper} {nn d clk q : Nat} {T : List (Nat × AV)} {H : List (Nat × Option Blk)} {Hp : List Blk} {x : Operand} {args : Array Operand} {tys : Array TypeId} {ty : TypeId} {pos : String} {aft : Array Edge} {g : Option (Nat × Bool)}
theorem OSp.callNR (i j : AM.Id) {f : FuncId} {ys as_ caps : List AV} {n : Nt} {r : D} (hc : ACallNR f ys n r) (hw : wantedA l ⟨some d, .call ⟨.value x, args, tys⟩, ty, pos, aft, g⟩ ⟨nn, T, H, Hp, clk⟩ = some true) (hd : Nat.blt d nn = true) (hx : ev ⟨nn, T, H, Hp, clk⟩ x = some (.fn f caps))
    (ha : aevs ⟨nn, T, H, Hp, clk⟩ args.toList some = some as_) (hb : hk ⟨nn, T, H, Hp, clk⟩ i = some (netB n (.own j))) (hj : hk ⟨nn, T, H, Hp, clk⟩ j = some (wayR n).blk) (hij : i ≠ j) (hys : ys.map (rp2 [i, j]) = as_ ++ caps) (hpk : ys.all (pk2 2) = true) :
    OSp Try.prog l q ⟨some d, .call ⟨.value x, args, tys⟩, ty, pos, aft, g⟩ ⟨nn, T, H, Hp, clk⟩ ⟨some (d, .d r), []⟩ :=
  OSp.callN [i, j] hc hw hd hx ha (by simp only [List.map_cons, List.map_nil, hb, hj, net_rp]; rfl) (by rw [List.all_cons, net_pk _ _ _ (by simp)]; rfl) (by simpa using hij) hys hpk
end
end Go.Proofs.Try
