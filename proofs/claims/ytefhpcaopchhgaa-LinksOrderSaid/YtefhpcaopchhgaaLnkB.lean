/- links: links are cut and made up again. -/
import Derived.Test.YtefhpcaopchhgaaLnkA
import Derived.Test.YtefhpcaopchhgaaWk
set_option linter.unusedSimpArgs false
set_option linter.unusedVariables false
namespace Go.Proofs.Try
open Go Go.AM

abbrev setC (n : Nt) (k : Nat) (v : Bool) : Nt := { n with cut := n.cut.set k v }
theorem net_set {n : Nt} {way : AV} {off k : Nat} {v : Bool} (h : off = k + 1) (hk : k < n.cut.length) : (netC n way).set off (bo v) = netC (setC n k v) way := by
  subst h
  show i64 n.nodes :: (((n.cut.map fun b => bo b) ++ [way]).set k (bo v)) = _
  rw [List.set_append_left _ _ (by simpa using hk), ← List.map_set]
theorem net_len {n : Nt} {way : AV} : (netC n way).length = n.cut.length + 2 := by simp [netC]
theorem net_wset {n : Nt} {way way' : AV} {off : Nat} (h : off = n.cut.length + 1) : (netC n way).set off way' = netC n way' := by
  subst h
  show i64 n.nodes :: (((n.cut.map fun b => bo b) ++ [way]).set n.cut.length way') = _
  rw [List.set_append_right _ _ (by simp)]
  simp
theorem net_rn (m : Nat → Nat) (n : Nt) (k : Nat) : rnB m (netB n (.own (.loc k))) = netB n (.own (.loc (m k))) := by
  have : (n.cut.map fun b => bo b).map (rn1 m) = n.cut.map fun b => bo b := by
    rw [List.map_map]
    rfl
  simp only [rnB, netB, netC, List.map_cons, List.map_append, List.map_nil, this]
  rfl
theorem net_lt (c : Nat) (n : Nt) (k : Nat) (hk : k < c) : ltB c (netB n (.own (.loc k))) = true := by
  simp only [ltB, netB, netC, List.all_cons, List.all_append, List.all_nil, Bool.and_true, Bool.and_eq_true, List.all_eq_true]
  refine ⟨rfl, fun x hx => ?_, by simpa [lt1, ltI] using hk⟩
  obtain ⟨b, _, rfl⟩ := List.mem_map.1 hx
  rfl
theorem net_idB (f : Nat → Bool) (n : Nt) (k : Nat) (hk : f k = true) : idB f (netB n (.own (.loc k))) = true := by
  simp only [idB, netB, netC, List.all_cons, List.all_append, List.all_nil, Bool.and_true, Bool.and_eq_true, List.all_eq_true]
  refine ⟨rfl, fun x hx => ?_, by simpa [id1, idI] using hk⟩
  obtain ⟨b, _, rfl⟩ := List.mem_map.1 hx
  rfl
def mendE (n : Nt) (a b : Int) : Int := if pairS n a b = true then 0 else 1
def mendS (n : Nt) (a b : Int) : Nt := if pairS n a b = true then setC n (ixS a b) false else n
set_option maxHeartbeats 8000000 in
set_option maxRecDepth 10000 in
theorem mend_calls (n : Nt) (a b : Int) (hc : n.cut.length = 49) (hn : n.nodes ≤ 7) : ACallNet 18 [.ptr (.par 0) 0, i64 a, i64 b] n (i64 (mendE n a b)) (mendS n a b) := by
  have k1 := pair_calls n a b
  have hix := pair_ix (a := a) (b := b) hn
  unfold mendE mendS
  generalize pairS n a b = c at *
  refine ACallsX.body tok Try.func18 rfl (by kernel_rfl) (by rw [Try.ntmps18]; simp) ?_
  simp only [Try.ntmps18, Try.results18, argT, rowsH, Rw.blk, List.length_cons, List.length_nil]
  repeat (first|refine AL.do tok rfl rfl ?_|refine AL.nil ?_|refine AW.seq fun K hK => ?_|refine AW.region ?_|refine AL.no rfl rfl ?_|(refine hK _ ?_; clear hK)|(clear hK; refine hK _ ?_; clear hK)|(clear hK; clear hK; refine hK _ ?_; clear hK)|refine qaW ?_|refine qa1 tok ?_|refine qa2 tok ?_|refine qa3 tok ?_|refine AL.loadR tok rfl rfl rfl rfl rfl rfl ?_|refine qa4 tok ?_|refine qa5 tok ?_|refine AW.block ?_|refine AW.exit ?_|refine AW.skip ?_)
  refine AL.callNet (.par 0) 0 (k1) rfl rfl rfl rfl rfl (by decide) rfl rfl rfl rfl rfl rfl ?_
  repeat (first|refine AL.do tok rfl rfl ?_|refine AL.nil ?_|refine AW.seq fun K hK => ?_|refine AW.region ?_|refine AL.no rfl rfl ?_|(refine hK _ ?_; clear hK)|(clear hK; refine hK _ ?_; clear hK)|(clear hK; clear hK; refine hK _ ?_; clear hK)|refine qaW ?_|refine qa1 tok ?_|refine qa2 tok ?_|refine qa3 tok ?_|refine AL.loadR tok rfl rfl rfl rfl rfl rfl ?_|refine qa4 tok ?_|refine qa5 tok ?_|refine AW.block ?_|refine AW.exit ?_|refine AW.skip ?_)
  cases c with
  | false =>
    refine AW.condT rfl ?_
    repeat (first|refine AL.do tok rfl rfl ?_|refine AL.nil ?_|refine AW.seq fun K hK => ?_|refine AW.region ?_|refine AL.no rfl rfl ?_|(refine hK _ ?_; clear hK)|(clear hK; refine hK _ ?_; clear hK)|(clear hK; clear hK; refine hK _ ?_; clear hK)|refine qaW ?_|refine qa1 tok ?_|refine qa2 tok ?_|refine qa3 tok ?_|refine AL.loadR tok rfl rfl rfl rfl rfl rfl ?_|refine qa4 tok ?_|refine qa5 tok ?_|refine AW.block ?_|refine AW.exit ?_|refine AW.skip ?_)
    refine AW.ret ?_
    refine net_ret rfl rfl rfl ⟨?_, rfl, rfl⟩
    rfl
  | true =>
    obtain ⟨h1, h2, h3, h4, h5⟩ := hix rfl
    refine AW.condF rfl ?_
    repeat (first|refine AL.do tok rfl rfl ?_|refine AL.nil ?_|refine AW.seq fun K hK => ?_|refine AW.region ?_|refine AL.no rfl rfl ?_|(refine hK _ ?_; clear hK)|(clear hK; refine hK _ ?_; clear hK)|(clear hK; clear hK; refine hK _ ?_; clear hK)|refine qaW ?_|refine qa1 tok ?_|refine qa2 tok ?_|refine qa3 tok ?_|refine AL.loadR tok rfl rfl rfl rfl rfl rfl ?_|refine qa4 tok ?_|refine qa5 tok ?_|refine AW.block ?_|refine AW.exit ?_|refine AW.skip ?_)
    refine AL.v rfl rfl (qv30 tok (h0 := h1) (h1 := by show lo a b < ((7 : Nat) : Int); omega)) ?_
    repeat (first|refine AL.do tok rfl rfl ?_|refine AL.nil ?_|refine AW.seq fun K hK => ?_|refine AW.region ?_|refine AL.no rfl rfl ?_|(refine hK _ ?_; clear hK)|(clear hK; refine hK _ ?_; clear hK)|(clear hK; clear hK; refine hK _ ?_; clear hK)|refine qaW ?_|refine qa1 tok ?_|refine qa2 tok ?_|refine qa3 tok ?_|refine AL.loadR tok rfl rfl rfl rfl rfl rfl ?_|refine qa4 tok ?_|refine qa5 tok ?_|refine AW.block ?_|refine AW.exit ?_|refine AW.skip ?_)
    refine AL.v rfl rfl (qv30 tok (h0 := h3) (h1 := by show hi a b < ((7 : Nat) : Int); omega)) ?_
    repeat (first|refine AL.do tok rfl rfl ?_|refine AL.nil ?_|refine AW.seq fun K hK => ?_|refine AW.region ?_|refine AL.no rfl rfl ?_|(refine hK _ ?_; clear hK)|(clear hK; refine hK _ ?_; clear hK)|(clear hK; clear hK; refine hK _ ?_; clear hK)|refine qaW ?_|refine qa1 tok ?_|refine qa2 tok ?_|refine qa3 tok ?_|refine AL.loadR tok rfl rfl rfl rfl rfl rfl ?_|refine qa4 tok ?_|refine qa5 tok ?_|refine AW.block ?_|refine AW.exit ?_|refine AW.skip ?_)
    refine AL.storeC tok rfl rfl (by rw [net_len]; show 0 + 1 + (lo a b).toNat * 7 + (hi a b).toNat * 1 < _; rw [hc]; unfold ixS at h5; omega) rfl rfl rfl rfl rfl (by rw [net_set (k := ixS a b) (by show 0 + 1 + (lo a b).toNat * 7 + (hi a b).toNat * 1 = ixS a b + 1; unfold ixS; omega) (by omega)]; rfl) rfl ?_
    repeat (first|refine AL.do tok rfl rfl ?_|refine AL.nil ?_|refine AW.seq fun K hK => ?_|refine AW.region ?_|refine AL.no rfl rfl ?_|(refine hK _ ?_; clear hK)|(clear hK; refine hK _ ?_; clear hK)|(clear hK; clear hK; refine hK _ ?_; clear hK)|refine qaW ?_|refine qa1 tok ?_|refine qa2 tok ?_|refine qa3 tok ?_|refine AL.loadR tok rfl rfl rfl rfl rfl rfl ?_|refine qa4 tok ?_|refine qa5 tok ?_|refine AW.block ?_|refine AW.exit ?_|refine AW.skip ?_)
    refine AW.ret ?_
    refine net_ret rfl rfl rfl ⟨?_, rfl, rfl⟩
    rfl
end Go.Proofs.Try
