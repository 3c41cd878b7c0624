/- links: Cut. -/
import Derived.Test.YtefhpcaopchhgaaLnkC
import Derived.Test.YtefhpcaopchhgaaAM69
import Derived.Test.YtefhpcaopchhgaaWk
set_option linter.unusedSimpArgs false
set_option linter.unusedVariables false
namespace Go.Proofs.Try
open Go Go.AM

abbrev setW (n : Nt) (w : List It) : Nt := { n with way := w }
def cutS (n : Nt) (a b : Int) : Nt := if pairS n a b = true then setW (setC n (ixS a b) true) (n.way.filter fun x => !onL a b x) else n
theorem net_hp {n : Nt} {k c : Nat} (h : k < c) : ∀ b ∈ [netB n (.own (.loc k))], LFB b ∨ idB (fun j => Nat.blt j c) b = true := by
  intro b hb
  rw [List.mem_singleton.1 hb]
  exact .inr (net_idB _ n k (by simpa using h))
set_option maxHeartbeats 8000000 in
set_option maxRecDepth 10000 in
theorem cut_calls (n : Nt) (a b : Int) (hc : n.cut.length = 49) (hn : n.nodes ≤ 7) (hl : n.way.length ≤ 1000000) : ACallNet 17 [.ptr (.par 0) 0, i64 a, i64 b] n (i64 (mendE n a b)) (cutS n a b) := by
  have k1 := pair_calls n a b
  have k2 := deleteI_calls n.way a b hl
  have hix := pair_ix (a := a) (b := b) hn
  unfold mendE cutS
  generalize pairS n a b = c at *
  refine ACallsX.body tok Try.func17 rfl (by kernel_rfl) (by rw [Try.ntmps17]; simp) ?_
  simp only [Try.ntmps17, Try.results17, argT, rowsH, Rw.blk, List.length_cons, List.length_nil]
  repeat (first|refine AL.do tok rfl rfl ?_|refine AL.nil ?_|refine AW.seq fun K hK => ?_|refine AW.region ?_|refine AL.no rfl rfl ?_|(refine hK _ ?_; clear hK)|(clear hK; refine hK _ ?_; clear hK)|(clear hK; clear hK; refine hK _ ?_; clear hK)|refine qaW ?_|refine qa1 tok ?_|refine qa2 tok ?_|refine qa3 tok ?_|refine AL.loadR tok rfl rfl rfl rfl rfl rfl ?_|refine qa4 tok ?_|refine qa5 tok ?_|refine AW.block ?_|refine AW.exit ?_|refine AW.skip ?_)
  refine AL.callNet (.par 0) 0 (k1) rfl rfl rfl rfl rfl (by decide) rfl rfl rfl rfl rfl rfl ?_
  repeat (first|refine AL.do tok rfl rfl ?_|refine AL.nil ?_|refine AW.seq fun K hK => ?_|refine AW.region ?_|refine AL.no rfl rfl ?_|(refine hK _ ?_; clear hK)|(clear hK; refine hK _ ?_; clear hK)|(clear hK; clear hK; refine hK _ ?_; clear hK)|refine qaW ?_|refine qa1 tok ?_|refine qa2 tok ?_|refine qa3 tok ?_|refine AL.loadR tok rfl rfl rfl rfl rfl rfl ?_|refine qa4 tok ?_|refine qa5 tok ?_|refine AW.block ?_|refine AW.exit ?_|refine AW.skip ?_)
  cases c with
  | false =>
    refine AW.condT rfl ?_
    repeat (first|refine AL.do tok rfl rfl ?_|refine AL.nil ?_|refine AW.seq fun K hK => ?_|refine AW.region ?_|refine AL.no rfl rfl ?_|(refine hK _ ?_; clear hK)|(clear hK; refine hK _ ?_; clear hK)|(clear hK; clear hK; refine hK _ ?_; clear hK)|refine qaW ?_|refine qa1 tok ?_|refine qa2 tok ?_|refine qa3 tok ?_|refine AL.loadR tok rfl rfl rfl rfl rfl rfl ?_|refine qa4 tok ?_|refine qa5 tok ?_|refine AW.block ?_|refine AW.exit ?_|refine AW.skip ?_)
    refine AW.ret ?_
    refine net_ret rfl rfl rfl ⟨?_, rfl, rfl⟩
    rfl
  | true =>
    obtain ⟨h1, h2, h3, h4, h5⟩ := hix rfl
    have h2' : lo a b < ((7 : Nat) : Int) := h2
    have h4' : hi a b < ((7 : Nat) : Int) := h4
    refine AW.condF rfl ?_
    have hpp := net_hp (n := n) (k := 3) (c := 4) (by decide)
    repeat (first|refine AL.do tok rfl rfl ?_|refine AL.nil ?_|refine AW.seq fun K hK => ?_|refine AW.region ?_|refine AL.no rfl rfl ?_|(refine hK _ ?_; clear hK)|(clear hK; refine hK _ ?_; clear hK)|(clear hK; clear hK; refine hK _ ?_; clear hK)|refine qaW ?_|refine qa1 tok ?_|refine qa2 tok ?_|refine qa3 tok ?_|refine AL.loadR tok rfl rfl rfl rfl rfl rfl ?_|refine qa4 tok ?_|refine qa5 tok ?_|refine AW.block ?_|refine AW.exit ?_|refine AW.skip ?_)
    refine AW.anyL mix [[], [], [], [1, 2], [], [], [4, 5], [0], [0, 7], [0, 1, 2, 3, 7, 8], [0, 1, 2, 3, 4, 5, 6, 7, 8, 9], [0, 1, 2, 3, 4, 5, 6, 7, 8, 9, 10]] [[13, 14, 15, 16, 17, 18], [12, 14, 16, 17, 18, 19, 20], [12, 13, 16, 17, 18, 19, 20], [12, 16, 17, 18, 19, 20], [12, 13, 14, 15, 17, 19, 20, 21], [12, 13, 14, 15, 16, 19, 20, 21], [12, 13, 14, 15, 19, 20, 21], [13, 14, 15, 16, 17, 18], [13, 14, 15, 16, 17, 18], [16, 17, 18], [], []] [[], [], [], [], [], [], [], [], [], [], [], []] [] 4 16 rfl (by rfl) (by decide +kernel) (by decide +kernel) rfl (by first|assumption|(intro b hb; cases hb)) ?_ <;> repeat' (first|refine ARL.done rfl rfl ?_|refine ARL.step rfl rfl (by first|exact OSp.do tok rfl rfl rfl|exact OSp.no rfl rfl|exact OSp.noN rfl|exact qoW|exact OSp.copy tok rfl rfl rfl rfl rfl rfl rfl (by (first | (intro x hx; obtain ⟨_, _, rfl⟩ := List.mem_map.1 hx; rfl) | (intro x hx; replace hx := List.mem_of_mem_take (List.mem_of_mem_drop hx); obtain ⟨_, _, rfl⟩ := List.mem_map.1 hx; rfl) | (simp; done))) rfl rfl rfl rfl|exact OSp.buildSlice tok rfl rfl rfl rfl rfl rfl rfl rfl|exact OSp.append tok rfl rfl rfl rfl rfl rfl rfl rfl rfl rfl rfl (by first|(intro x hx; obtain ⟨_, _, rfl⟩ := List.mem_map.1 hx; rfl)|(simp; done)) (by simp; omega) (by simp; omega)|exact OSp.alloc tok rfl rfl rfl rfl|exact OSp.box tok rfl rfl rfl rfl rfl|exact OSp.boxC tok rfl rfl rfl rfl rfl|exact OSp.store tok rfl rfl rfl rfl rfl rfl rfl rfl|exact OSp.appIn tok rfl rfl rfl rfl rfl (by first|assumption|(intro e; have := congrArg List.length e; simp at this; omega)) rfl rfl (by (first | (intro x hx; obtain ⟨_, _, rfl⟩ := List.mem_map.1 hx; rfl) | (intro x hx; replace hx := List.mem_of_mem_take (List.mem_of_mem_drop hx); obtain ⟨_, _, rfl⟩ := List.mem_map.1 hx; rfl) | (simp; done))) rfl rfl rfl rfl (by first|omega|(simp; omega))|exact OSp.copyX tok rfl rfl rfl rfl rfl rfl rfl rfl (by first|omega|(simp; omega)) (by first|omega|(simp; omega)) (by first|omega|(simp; omega)) (by first|omega|(simp; omega)) (by first|omega|(simp; omega))|exact OSp.v rfl rfl (qv30 tok (h0 := h1) (h1 := h2'))|exact OSp.v rfl rfl (qv30 tok (h0 := h3) (h1 := h4'))) (by rfl) (by rfl) ?_)
    refine AL.storeC tok rfl rfl (by rw [net_len]; show 0 + 1 + (lo a b).toNat * 7 + (hi a b).toNat * 1 < _; rw [hc]; unfold ixS at h5; omega) rfl rfl rfl rfl rfl (by rw [net_set (k := ixS a b) (by show 0 + 1 + (lo a b).toNat * 7 + (hi a b).toNat * 1 = ixS a b + 1; unfold ixS; omega) (by omega)]; rfl) rfl ?_
    have hcs : (setC n (ixS a b) true).cut.length = 49 := by simp [hc]
    repeat (first|refine AL.do tok rfl rfl ?_|refine AL.nil ?_|refine AW.seq fun K hK => ?_|refine AW.region ?_|refine AL.no rfl rfl ?_|(refine hK _ ?_; clear hK)|(clear hK; refine hK _ ?_; clear hK)|(clear hK; clear hK; refine hK _ ?_; clear hK)|refine qaW ?_|refine qa1 tok ?_|refine qa2 tok ?_|refine qa3 tok ?_|refine AL.loadR tok rfl rfl rfl rfl rfl rfl ?_|refine qa4 tok ?_|refine qa5 tok ?_|refine AW.block ?_|refine AW.exit ?_|refine AW.skip ?_)
    refine AL.v rfl rfl (VOp.loadC tok rfl rfl (net_way (by rw [hcs])) rfl rfl) ?_
    repeat (first|refine AL.do tok rfl rfl ?_|refine AL.nil ?_|refine AW.seq fun K hK => ?_|refine AW.region ?_|refine AL.no rfl rfl ?_|(refine hK _ ?_; clear hK)|(clear hK; refine hK _ ?_; clear hK)|(clear hK; clear hK; refine hK _ ?_; clear hK)|refine qaW ?_|refine qa1 tok ?_|refine qa2 tok ?_|refine qa3 tok ?_|refine AL.loadR tok rfl rfl rfl rfl rfl rfl ?_|refine qa4 tok ?_|refine qa5 tok ?_|refine AW.block ?_|refine AW.exit ?_|refine AW.skip ?_)
    refine AL.callX [.loc 1, .loc 2] [3] k2 rfl rfl rfl rfl rfl rfl (by decide) (by decide) (by decide) rfl rfl (fun r Hp' Hr hr => ?_)
    obtain ⟨rfl, rfl, rfl⟩ := hr
    refine ⟨rfl, rfl, rfl, _, _, rfl, rfl, ?_⟩
    repeat (first|refine AL.do tok rfl rfl ?_|refine AL.nil ?_|refine AW.seq fun K hK => ?_|refine AW.region ?_|refine AL.no rfl rfl ?_|(refine hK _ ?_; clear hK)|(clear hK; refine hK _ ?_; clear hK)|(clear hK; clear hK; refine hK _ ?_; clear hK)|refine qaW ?_|refine qa1 tok ?_|refine qa2 tok ?_|refine qa3 tok ?_|refine AL.loadR tok rfl rfl rfl rfl rfl rfl ?_|refine qa4 tok ?_|refine qa5 tok ?_|refine AW.block ?_|refine AW.exit ?_|refine AW.skip ?_)
    refine AL.storeC tok rfl rfl (by rw [net_len, hcs]; decide) rfl rfl rfl rfl rfl (by rw [net_wset (by rw [hcs])]; rfl) rfl ?_
    repeat (first|refine AL.do tok rfl rfl ?_|refine AL.nil ?_|refine AW.seq fun K hK => ?_|refine AW.region ?_|refine AL.no rfl rfl ?_|(refine hK _ ?_; clear hK)|(clear hK; refine hK _ ?_; clear hK)|(clear hK; clear hK; refine hK _ ?_; clear hK)|refine qaW ?_|refine qa1 tok ?_|refine qa2 tok ?_|refine qa3 tok ?_|refine AL.loadR tok rfl rfl rfl rfl rfl rfl ?_|refine qa4 tok ?_|refine qa5 tok ?_|refine AW.block ?_|refine AW.exit ?_|refine AW.skip ?_)
    refine AW.ret ?_
    refine net_ret (n' := setW (setC n (ixS a b) true) (n.way.filter fun x => !onL a b x)) rfl rfl rfl ⟨?_, rfl, rfl⟩
    rfl
end Go.Proofs.Try
