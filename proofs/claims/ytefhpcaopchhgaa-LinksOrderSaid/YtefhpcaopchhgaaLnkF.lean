/- links: send. -/
import Derived.Test.YtefhpcaopchhgaaLnkE
import Derived.Test.YtefhpcaopchhgaaAM70
import Derived.Test.YtefhpcaopchhgaaWk
set_option linter.unusedSimpArgs false
set_option linter.unusedVariables false
namespace Go.Proofs.Try
open Go Go.AM

abbrev failCh (code : Int) : List PanicEntry := [{ v := .iface 73 (.agg #[.int .i64 code]), recovered := false }]
set_option maxHeartbeats 8000000 in
set_option maxRecDepth 10000 in
theorem require_calls (b : Bool) (code : Int) (h : b = true) : ACallP Try.prog 37 [bo b, i64 code] (.tup []) := by
  subst h
  refine ACalls.body tok Try.func37 rfl (by kernel_rfl) (by rw [Try.ntmps37]; simp) ?_
  simp only [Try.ntmps37, Try.results37, argT]
  repeat (first|refine AL.do tok rfl rfl ?_|refine AL.nil ?_|refine AW.seq fun K hK => ?_|refine AW.region ?_|refine AL.no rfl rfl ?_|(refine hK _ ?_; clear hK)|(clear hK; refine hK _ ?_; clear hK)|(clear hK; clear hK; refine hK _ ?_; clear hK)|refine qaW ?_|refine qa1 tok ?_|refine qa2 tok ?_|refine qa3 tok ?_|refine AL.loadR tok rfl rfl rfl rfl rfl rfl ?_|refine qa4 tok ?_|refine qa5 tok ?_|refine AW.block ?_|refine AW.exit ?_|refine AW.skip ?_)
  refine AW.condF rfl ?_
  repeat (first|refine AL.do tok rfl rfl ?_|refine AL.nil ?_|refine AW.seq fun K hK => ?_|refine AW.region ?_|refine AL.no rfl rfl ?_|(refine hK _ ?_; clear hK)|(clear hK; refine hK _ ?_; clear hK)|(clear hK; clear hK; refine hK _ ?_; clear hK)|refine qaW ?_|refine qa1 tok ?_|refine qa2 tok ?_|refine qa3 tok ?_|refine AL.loadR tok rfl rfl rfl rfl rfl rfl ?_|refine qa4 tok ?_|refine qa5 tok ?_|refine AW.block ?_|refine AW.exit ?_|refine AW.skip ?_)
  refine ⟨_, _, _, _, rfl, Out.pure rfl ⟨?_, rfl⟩ rfl⟩
  rfl
theorem require_panics (b : Bool) (code : Int) (h : b = false) : ACallsXP Try.prog 37 [bo b, i64 code] [] [] (failCh code) fun Hp' Hr => Hp' = [] ∧ Hr = [] := by
  subst h
  refine ⟨(require_calls true code rfl).1, fun c vs ρ hi => ?_⟩
  have hv : vs = #[.bool false, .int .i64 code] := by
    have hl := hi.len
    obtain ⟨l⟩ := vs
    match l, hl with
    | [u, v], _ =>
      have h0 := hi.args 0 _ u rfl rfl
      have h1 := hi.args 1 _ v rfl rfl
      rw [one_of h0, one_of h1]
  subst hv
  refine (require_raw code c.w0).mono ?_
  rintro e w' ⟨rfl, rfl⟩
  exact ⟨[], [], undef, _, _, ⟨rfl, rfl⟩, rfl, outX_fin (inix_sat hi 9 (by simp)) (R := fun _ _ => True) (mm := []) ⟨trivial, rfl, by simp, fun k j rw h1 => by simp at h1, rfl, rfl⟩ (.junk _)⟩
set_option maxHeartbeats 8000000 in
set_option maxRecDepth 10000 in
theorem cloneO_calls (l : List Nat) (hl : l.length ≤ 4398046510976) : ACallO Try.prog 34 [rowU l] 5 1 (· = l.map encU) := by
  refine ACalls.body tok Try.func34 rfl (by kernel_rfl) (by rw [Try.ntmps34]; simp) ?_
  simp only [Try.ntmps34, Try.results34, argT]
  repeat (first|refine AL.do tok rfl rfl ?_|refine AL.nil ?_|refine AW.seq fun K hK => ?_|refine AW.region ?_|refine AL.no rfl rfl ?_|(refine hK _ ?_; clear hK)|(clear hK; refine hK _ ?_; clear hK)|(clear hK; clear hK; refine hK _ ?_; clear hK)|refine qaW ?_|refine qa1 tok ?_|refine qa2 tok ?_|refine qa3 tok ?_|refine AL.loadR tok rfl rfl rfl rfl rfl rfl ?_|refine qa4 tok ?_|refine qa5 tok ?_|refine AW.block ?_|refine AW.exit ?_|refine AW.skip ?_)
  refine AL.eqNil tok rfl rfl rfl rfl rfl rfl (fun b hb => ?_)
  repeat (first|refine AL.do tok rfl rfl ?_|refine AL.nil ?_|refine AW.seq fun K hK => ?_|refine AW.region ?_|refine AL.no rfl rfl ?_|(refine hK _ ?_; clear hK)|(clear hK; refine hK _ ?_; clear hK)|(clear hK; clear hK; refine hK _ ?_; clear hK)|refine qaW ?_|refine qa1 tok ?_|refine qa2 tok ?_|refine qa3 tok ?_|refine AL.loadR tok rfl rfl rfl rfl rfl rfl ?_|refine qa4 tok ?_|refine qa5 tok ?_|refine AW.block ?_|refine AW.exit ?_|refine AW.skip ?_)
  refine AW.cond rfl (fun hg => ?_) (fun hg => ?_)
  · repeat (first|refine AL.do tok rfl rfl ?_|refine AL.nil ?_|refine AW.seq fun K hK => ?_|refine AW.region ?_|refine AL.no rfl rfl ?_|(refine hK _ ?_; clear hK)|(clear hK; refine hK _ ?_; clear hK)|(clear hK; clear hK; refine hK _ ?_; clear hK)|refine qaW ?_|refine qa1 tok ?_|refine qa2 tok ?_|refine qa3 tok ?_|refine AL.loadR tok rfl rfl rfl rfl rfl rfl ?_|refine qa4 tok ?_|refine qa5 tok ?_|refine AW.block ?_|refine AW.exit ?_|refine AW.skip ?_)
    refine AW.nilOwn 2 5 1 rfl ?_
    refine AW.ret ?_
    refine ⟨_, _, _, _, rfl, Out.row rfl ⟨_, ?_, rfl, rfl⟩ rfl⟩
    exact (hb hg).symm
  · repeat (first|refine AL.do tok rfl rfl ?_|refine AL.nil ?_|refine AW.seq fun K hK => ?_|refine AW.region ?_|refine AL.no rfl rfl ?_|(refine hK _ ?_; clear hK)|(clear hK; refine hK _ ?_; clear hK)|(clear hK; clear hK; refine hK _ ?_; clear hK)|refine qaW ?_|refine qa1 tok ?_|refine qa2 tok ?_|refine qa3 tok ?_|refine AL.loadR tok rfl rfl rfl rfl rfl rfl ?_|refine qa4 tok ?_|refine qa5 tok ?_|refine AW.block ?_|refine AW.exit ?_|refine AW.skip ?_)
    refine qa6 tok ?_
    simp only [List.nil_append]
    repeat (first|refine AL.do tok rfl rfl ?_|refine AL.nil ?_|refine AW.seq fun K hK => ?_|refine AW.region ?_|refine AL.no rfl rfl ?_|(refine hK _ ?_; clear hK)|(clear hK; refine hK _ ?_; clear hK)|(clear hK; clear hK; refine hK _ ?_; clear hK)|refine qaW ?_|refine qa1 tok ?_|refine qa2 tok ?_|refine qa3 tok ?_|refine AL.loadR tok rfl rfl rfl rfl rfl rfl ?_|refine qa4 tok ?_|refine qa5 tok ?_|refine AW.block ?_|refine AW.exit ?_|refine AW.skip ?_)
    refine AW.ret ?_
    refine ⟨_, _, _, _, rfl, Out.row rfl ⟨_, ?_, rfl, rfl⟩ rfl⟩
    rfl
theorem cloneU_calls (l : List Nat) (hl : l.length ≤ 4398046510976) : ACallP Try.prog 34 [rowU l] (rowU l) := (cloneO_calls l hl).dr
abbrev okF (f : Fa) : Prop := 0 ≤ f.delay ∧ f.delay ≤ 1099511627776 ∧ 0 ≤ f.copies ∧ f.copies ≤ 32
def sendE (n : Nt) (d : Dg) (f : Fa) : Int :=
  if pairS n d.src d.dst = false then 1 else if ¬ d.bytes.length ≤ 65536 then 5 else if ¬ okF f then 1 else if f.drop = true ∨ upS n d.src d.dst = false then 0 else if ¬ (n.way.length : Int) + 1 + f.copies ≤ 4096 then 6 else 0
abbrev mkI (d : Dg) (f : Fa) (k : Nat) : It := ⟨1 + f.delay + k, d⟩
def putI (l : List It) (d : Dg) (f : Fa) : Nat → List It
  | 0 => l
  | k + 1 => putI l d f k ++ [mkI d f k]
def sendS (n : Nt) (d : Dg) (f : Fa) : Nt := if sendE n d f = 0 ∧ f.drop = false ∧ upS n d.src d.dst = true then setW n (putI n.way d f (f.copies.toNat + 1)) else n
theorem putI_succ (l : List It) (d : Dg) (f : Fa) (k : Nat) : (putI l d f k).map encIt ++ [encIt (mkI d f k)] = (putI l d f (k + 1)).map encIt := by
  rw [putI, List.map_append]
  rfl
theorem putI_len (l : List It) (d : Dg) (f : Fa) : ∀ k, (putI l d f k).length = l.length + k
  | 0 => rfl
  | k + 1 => by rw [putI, List.length_append, putI_len l d f k]; rfl
theorem net_pan {σ : St} {n : Nt} {j : Nat} {R : List Blk → List Rw → Prop} (hp : σ.Hp = [netB n (.own (.loc j))]) (hr : hk σ (.loc j) = some (wayR n).blk) (hR : R [netB n (.own (.loc 0))] [wayR n]) : ∃ Hp' Hr mm, OutX σ R Hp' Hr mm :=
  ⟨_, _, [j], net_out hp hr hR⟩
theorem net_ret0 {ts : List (Nat × TI)} {rs : List ResultVar} {σ : St} {n' : Nt} {j : Nat} {R : AV → List Blk → List Rw → Prop} (h1 : ares ts rs σ = some (.tup [])) (hp : σ.Hp = [netB n' (.own (.loc j))]) (hr : hk σ (.loc j) = some (wayR n').blk) (hR : R (.tup []) [netB n' (.own (.loc 0))] [wayR n']) :
    ∃ rf r Hp' Hr mm, ares ts rs σ = some rf ∧ mp2 [] mm r = rf ∧ okm2 Hp'.length mm.length r = true ∧ OutX σ (R r) Hp' Hr mm :=
  ⟨_, .tup [], _, _, [j], h1, rfl, rfl, net_out hp hr hR⟩
/-- It returns, or gives up. -/
def ACallSend (n : Nt) (d : Dg) (f : Fa) : Prop := ACallsXB Try.prog 28 [.ptr (.par 0) 0, aggDg d, aggF f] [netB n (.own (.loc 0))] [wayR n]
  (fun r' Hp' Hr => sendE n d f = 0 ∧ r' = .tup [] ∧ Hp' = [netB (sendS n d f) (.own (.loc 0))] ∧ Hr = [wayR (sendS n d f)]) fun ch Hp' Hr => ch = failCh (sendE n d f) ∧ sendE n d f ≠ 0 ∧ Hp' = [netB n (.own (.loc 0))] ∧ Hr = [wayR n]
set_option maxHeartbeats 16000000 in
set_option maxRecDepth 10000 in
theorem send_calls (n : Nt) (d : Dg) (f : Fa) (hc : n.cut.length = 49) (hn : n.nodes ≤ 7) (hl : n.way.length ≤ 4096) : ACallSend n d f := by
  have k1 := pair_calls n d.src d.dst
  have k2 := up_calls n d.src d.dst hc hn
  have hlm : (n.way.map encIt).length = n.way.length := List.length_map ..
  have hlb : (d.bytes.map encU).length = d.bytes.length := List.length_map ..
  have hwl : (wayR n).xs.length ≤ 4096 := by show (n.way.map encIt).length ≤ 4096; omega
  obtain ⟨drop, delay, copies⟩ := f
  unfold ACallSend sendS sendE
  dsimp only
  generalize upS n d.src d.dst = u at *
  generalize pairS n d.src d.dst = c at *
  refine ACallsXB.body tok Try.func28 rfl (by kernel_rfl) (by rw [Try.ntmps28]; simp) ?_
  simp only [Try.ntmps28, Try.results28, argT, rowsH, Rw.blk, List.length_cons, List.length_nil]
  repeat (first|refine AL.do tok rfl rfl ?_|refine AL.nil ?_|refine AW.seq fun K hK => ?_|refine AW.region ?_|refine AL.no rfl rfl ?_|(refine hK _ ?_; clear hK)|(clear hK; refine hK _ ?_; clear hK)|(clear hK; clear hK; refine hK _ ?_; clear hK)|refine qaW ?_|refine qa1 tok ?_|refine qa2 tok ?_|refine qa3 tok ?_|refine AL.loadR tok rfl rfl rfl rfl rfl rfl ?_|refine qa4 tok ?_|refine qa5 tok ?_|refine AW.block ?_|refine AW.exit ?_|refine AW.skip ?_)
  refine AL.callNet (.par 0) 0 (k1) rfl rfl rfl rfl rfl (by decide) rfl rfl rfl rfl rfl rfl ?_
  repeat (first|refine AL.do tok rfl rfl ?_|refine AL.nil ?_|refine AW.seq fun K hK => ?_|refine AW.region ?_|refine AL.no rfl rfl ?_|(refine hK _ ?_; clear hK)|(clear hK; refine hK _ ?_; clear hK)|(clear hK; clear hK; refine hK _ ?_; clear hK)|refine qaW ?_|refine qa1 tok ?_|refine qa2 tok ?_|refine qa3 tok ?_|refine AL.loadR tok rfl rfl rfl rfl rfl rfl ?_|refine qa4 tok ?_|refine qa5 tok ?_|refine AW.block ?_|refine AW.exit ?_|refine AW.skip ?_)
  cases c with
  | false =>
    refine AL.callXP [] [] (require_panics _ _ rfl) rfl rfl rfl rfl rfl rfl (by decide) (by decide) (by decide) rfl rfl (fun Hp' Hr hr => ?_)
    obtain ⟨rfl, rfl⟩ := hr
    refine ⟨rfl, rfl, _, rfl, ?_⟩
    show ∃ Hp' Hr mm, OutX _ _ Hp' Hr mm
    exact net_pan (j := 3) rfl rfl ⟨rfl, by simp, rfl, rfl⟩
  | true =>
    refine qc1 (require_calls _ _ ?_) ?_
    · rfl
    repeat (first|refine AL.do tok rfl rfl ?_|refine AL.nil ?_|refine AW.seq fun K hK => ?_|refine AW.region ?_|refine AL.no rfl rfl ?_|(refine hK _ ?_; clear hK)|(clear hK; refine hK _ ?_; clear hK)|(clear hK; clear hK; refine hK _ ?_; clear hK)|refine qaW ?_|refine qa1 tok ?_|refine qa2 tok ?_|refine qa3 tok ?_|refine AL.loadR tok rfl rfl rfl rfl rfl rfl ?_|refine qa4 tok ?_|refine qa5 tok ?_|refine AW.block ?_|refine AW.exit ?_|refine AW.skip ?_)
    by_cases hb : d.bytes.length ≤ 65536
    · have hcl := cloneU_calls d.bytes (by omega)
      refine qc1 (require_calls _ _ ?_) ?_
      · simp only [hlb, decide_eq_true_eq, decide_eq_false_iff_not]; omega
      by_cases h3 : okF ⟨drop, delay, copies⟩
      · obtain ⟨f1, f2, f3, f4⟩ := id h3
        dsimp only at f1 f2 f3 f4
        repeat' (first|refine AL.do tok rfl rfl ?_|refine AL.nil ?_|refine AW.seq fun K hK => ?_|refine AW.region ?_|refine AL.no rfl rfl ?_|(refine hK _ ?_; clear hK)|(clear hK; refine hK _ ?_; clear hK)|(clear hK; clear hK; refine hK _ ?_; clear hK)|refine qaW ?_|refine qa1 tok ?_|refine qa2 tok ?_|refine qa3 tok ?_|refine AL.loadR tok rfl rfl rfl rfl rfl rfl ?_|refine qa4 tok ?_|refine qa5 tok ?_|refine AW.block ?_|refine AW.exit ?_|refine AW.skip ?_|((fail_if_success (refine AL.guard (b := true) rfl rfl ?_ ?_)); (fail_if_success (refine AL.guard (b := false) rfl rfl ?_ ?_)); refine AL.guard rfl rfl (fun hg => ?_) (fun hg => ?_) <;> ((try simp only [DX] at hg) <;> (try first|(exfalso; omega)|exact absurd trivial hg|exact False.elim hg|exact absurd rfl hg)))|refine AW.condT rfl ?_|refine AW.condF rfl ?_|(refine AW.cond rfl (fun hg => ?_) (fun hg => ?_) <;> ((try simp only [DX] at hg) <;> (try first|(exfalso; omega)|exact absurd trivial hg|exact False.elim hg|exact absurd rfl hg))))
        refine qc1 (require_calls _ _ ?_) ?_
        · simp only [decide_eq_true_eq]; omega
        obtain ⟨c, rfl⟩ := Int.eq_ofNat_of_zero_le f3
        cases drop with
        | true =>
          repeat (first|refine AL.do tok rfl rfl ?_|refine AL.nil ?_|refine AW.seq fun K hK => ?_|refine AW.region ?_|refine AL.no rfl rfl ?_|(refine hK _ ?_; clear hK)|(clear hK; refine hK _ ?_; clear hK)|(clear hK; clear hK; refine hK _ ?_; clear hK)|refine qaW ?_|refine qa1 tok ?_|refine qa2 tok ?_|refine qa3 tok ?_|refine AL.loadR tok rfl rfl rfl rfl rfl rfl ?_|refine qa4 tok ?_|refine qa5 tok ?_|refine AW.block ?_|refine AW.exit ?_|refine AW.skip ?_)
          refine AW.condT rfl ?_
          refine AW.ret ?_
          refine net_ret0 (n' := n) rfl rfl rfl ⟨?_, rfl, ?_, ?_⟩
          all_goals simp [hb, h3]
        | false =>
          repeat (first|refine AL.do tok rfl rfl ?_|refine AL.nil ?_|refine AW.seq fun K hK => ?_|refine AW.region ?_|refine AL.no rfl rfl ?_|(refine hK _ ?_; clear hK)|(clear hK; refine hK _ ?_; clear hK)|(clear hK; clear hK; refine hK _ ?_; clear hK)|refine qaW ?_|refine qa1 tok ?_|refine qa2 tok ?_|refine qa3 tok ?_|refine AL.loadR tok rfl rfl rfl rfl rfl rfl ?_|refine qa4 tok ?_|refine qa5 tok ?_|refine AW.block ?_|refine AW.exit ?_|refine AW.skip ?_)
          refine AL.callNet (.par 0) 3 (k2) rfl rfl rfl rfl rfl (by decide) rfl rfl rfl rfl rfl rfl ?_
          repeat (first|refine AL.do tok rfl rfl ?_|refine AL.nil ?_|refine AW.seq fun K hK => ?_|refine AW.region ?_|refine AL.no rfl rfl ?_|(refine hK _ ?_; clear hK)|(clear hK; refine hK _ ?_; clear hK)|(clear hK; clear hK; refine hK _ ?_; clear hK)|refine qaW ?_|refine qa1 tok ?_|refine qa2 tok ?_|refine qa3 tok ?_|refine AL.loadR tok rfl rfl rfl rfl rfl rfl ?_|refine qa4 tok ?_|refine qa5 tok ?_|refine AW.block ?_|refine AW.exit ?_|refine AW.skip ?_)
          cases u with
          | false =>
            refine AW.condT rfl ?_
            refine AW.ret ?_
            refine net_ret0 (n' := n) rfl rfl rfl ⟨?_, rfl, ?_, ?_⟩
            all_goals simp [hb, h3]
          | true =>
            refine AW.condF rfl ?_
            have hpp := net_hp (n := n) (k := 4) (c := 5) (by decide)
            repeat (first|refine AL.do tok rfl rfl ?_|refine AL.nil ?_|refine AW.seq fun K hK => ?_|refine AW.region ?_|refine AL.no rfl rfl ?_|(refine hK _ ?_; clear hK)|(clear hK; refine hK _ ?_; clear hK)|(clear hK; clear hK; refine hK _ ?_; clear hK)|refine qaW ?_|refine qa1 tok ?_|refine qa2 tok ?_|refine qa3 tok ?_|refine AL.loadR tok rfl rfl rfl rfl rfl rfl ?_|refine qa4 tok ?_|refine qa5 tok ?_|refine AW.block ?_|refine AW.exit ?_|refine AW.skip ?_)
            refine AW.anyL mix [[], [0], [0, 1], [0, 1, 2], [0, 1, 2, 3], [0, 1, 2, 3, 4], [], [6], [0, 1, 2, 3, 4, 5, 6, 7], [0, 1, 2, 3, 4, 5, 6, 7, 8], [0, 1, 2, 3, 4, 5, 6, 7, 8, 9]] [[55, 56], [55, 56], [55, 56], [55, 56], [55, 56], [55, 56], [49, 50, 51, 52, 53, 54], [49, 50, 51, 52, 53, 54], [], [], []] [[], [], [], [], [], [], [], [], [], [], []] [] 5 16 rfl (by rfl) (by decide +kernel) (by decide +kernel) rfl (by first|assumption|(intro b hb; cases hb)) ?_ <;> repeat' (first|refine ARL.done rfl rfl ?_|refine ARL.step rfl rfl (by first|exact OSp.do tok rfl rfl rfl|exact OSp.no rfl rfl|exact OSp.noN rfl|exact qoW|exact OSp.copy tok rfl rfl rfl rfl rfl rfl rfl (by (first | (intro x hx; obtain ⟨_, _, rfl⟩ := List.mem_map.1 hx; rfl) | (intro x hx; replace hx := List.mem_of_mem_take (List.mem_of_mem_drop hx); obtain ⟨_, _, rfl⟩ := List.mem_map.1 hx; rfl) | (simp; done))) rfl rfl rfl rfl|exact OSp.buildSlice tok rfl rfl rfl rfl rfl rfl rfl rfl|exact OSp.append tok rfl rfl rfl rfl rfl rfl rfl rfl rfl rfl rfl (by first|(intro x hx; obtain ⟨_, _, rfl⟩ := List.mem_map.1 hx; rfl)|(simp; done)) (by simp; omega) (by simp; omega)|exact OSp.alloc tok rfl rfl rfl rfl|exact OSp.box tok rfl rfl rfl rfl rfl|exact OSp.boxC tok rfl rfl rfl rfl rfl|exact OSp.store tok rfl rfl rfl rfl rfl rfl rfl rfl|exact OSp.appIn tok rfl rfl rfl rfl rfl (by first|assumption|(intro e; have := congrArg List.length e; simp at this; omega)) rfl rfl (by (first | (intro x hx; obtain ⟨_, _, rfl⟩ := List.mem_map.1 hx; rfl) | (intro x hx; replace hx := List.mem_of_mem_take (List.mem_of_mem_drop hx); obtain ⟨_, _, rfl⟩ := List.mem_map.1 hx; rfl) | (simp; done))) rfl rfl rfl rfl (by first|omega|(simp; omega))|exact OSp.copyX tok rfl rfl rfl rfl rfl rfl rfl rfl (by first|omega|(simp; omega)) (by first|omega|(simp; omega)) (by first|omega|(simp; omega)) (by first|omega|(simp; omega)) (by first|omega|(simp; omega))|exact OSp.v rfl rfl (VOp.loadC tok rfl rfl (net_way (by rw [hc])) rfl rfl)) (by rfl) (by rfl) ?_)
            by_cases hfit : (n.way.length : Int) + 1 + (c : Int) ≤ 4096
            · refine qc1 (require_calls _ _ ?_) ?_
              · simp only [hlm, decide_eq_true_eq]; omega
              repeat (first|refine AL.do tok rfl rfl ?_|refine AL.nil ?_|refine AW.seq fun K hK => ?_|refine AW.region ?_|refine AL.no rfl rfl ?_|(refine hK _ ?_; clear hK)|(clear hK; refine hK _ ?_; clear hK)|(clear hK; clear hK; refine hK _ ?_; clear hK)|refine qaW ?_|refine qa1 tok ?_|refine qa2 tok ?_|refine qa3 tok ?_|refine AL.loadR tok rfl rfl rfl rfl rfl rfl ?_|refine qa4 tok ?_|refine qa5 tok ?_|refine AW.block ?_|refine AW.exit ?_|refine AW.skip ?_)
              refine AW.loop (ι := Nat) (fun i => ⟨90, [(62, i64 ((c : Int) + 1)), (63, i64 i), (0, .ptr (.par 0) 0), (4, .ptr (.loc 1) 0), (5, .ptr (.loc 2) 0)], [(4, some (.row 76 4 ((putI n.way d ⟨false, delay, c⟩ i).map encIt))), (1, some (.box 31 [i64 d.src, i64 d.dst, rowU d.bytes])), (2, some (.box 34 [bo false, i64 delay, i64 c]))], [netB n (.own (.loc 4))], 5⟩)
                (fun i => i ≤ c + 1) (fun i => c + 1 - i) 0 (Nat.zero_le _) ?_ ?_
              · (refine Imp.weakP id (fun _ _ _ _ h => h) (by simp only [List.map_cons, List.map_nil, net_rn]; rfl) (by first|(simp only [List.all_cons, List.all_nil, Bool.and_true]; exact net_lt _ _ _ (by decide))|(rw [List.all_cons, net_lt _ _ _ (by decide)]; rfl)) ?_ ?_ <;> (repeat' (first|exact trivial|exact Nat.lt_of_lt_of_le (Nat.lt_succ_self _) (Nat.le_of_ble_eq_true rfl)|exact rfl|exact Or.inl ⟨rfl, rfl⟩|exact Or.inr ⟨rfl, LF.fn _ _ ‹_›⟩|refine ⟨?_, ?_⟩)))
              rintro i hi K1 hK1
              have hL : ((putI n.way d ⟨false, delay, c⟩ i).map encIt).length ≤ 5000 := by rw [List.length_map, putI_len]; omega
              have hL2 : (putI n.way d ⟨false, delay, c⟩ i).length ≤ 5000 := by rw [putI_len]; omega
              by_cases hlt : i < c + 1
              · repeat (first|refine AL.do tok rfl rfl ?_|refine AL.nil ?_|refine AW.seq fun K hK => ?_|refine AW.region ?_|refine AL.no rfl rfl ?_|(refine hK _ ?_; clear hK)|(clear hK; refine hK _ ?_; clear hK)|(clear hK; clear hK; refine hK _ ?_; clear hK)|refine qaW ?_|refine qa1 tok ?_|refine qa2 tok ?_|refine qa3 tok ?_|refine AL.loadR tok rfl rfl rfl rfl rfl rfl ?_|refine qa4 tok ?_|refine qa5 tok ?_|refine AW.block ?_|refine AW.exit ?_|refine AW.skip ?_)
                refine AW.cond rfl (fun hg => ?_) (fun hg => by simp at hg; omega)
                repeat (first|refine AL.do tok rfl rfl ?_|refine AL.nil ?_|refine AW.seq fun K hK => ?_|refine AW.region ?_|refine AL.no rfl rfl ?_|(refine hK _ ?_; clear hK)|(clear hK; refine hK _ ?_; clear hK)|(clear hK; clear hK; refine hK _ ?_; clear hK)|refine qaW ?_|refine qa1 tok ?_|refine qa2 tok ?_|refine qa3 tok ?_|refine AL.loadR tok rfl rfl rfl rfl rfl rfl ?_|refine qa4 tok ?_|refine qa5 tok ?_|refine AW.block ?_|refine AW.exit ?_|refine AW.skip ?_)
                refine AW.anyL mix [[], [], [1], [1, 2], [1, 2, 3], [], [5], [5, 6], [], [5, 6, 7, 8], [], [10], [], [12], [], [14], [14, 15], [10, 11, 12, 13, 14, 15, 16], [5, 6, 7, 8, 9, 10, 11, 12, 13, 14, 15, 16, 17], [5, 6, 7, 8, 9, 10, 11, 12, 13, 14, 15, 16, 17, 18], [1, 2, 3, 4, 5, 6, 7, 8, 9, 10, 11, 12, 13, 14, 15, 16, 17, 18, 19], [0, 1, 2, 3, 4, 5, 6, 7, 8, 9, 10, 11, 12, 13, 14, 15, 16, 17, 18, 19, 20], [0, 1, 2, 3, 4, 5, 6, 7, 8, 9, 10, 11, 12, 13, 14, 15, 16, 17, 18, 19, 20, 21], [0, 1, 2, 3, 4, 5, 6, 7, 8, 9, 10, 11, 12, 13, 14, 15, 16, 17, 18, 19, 20, 21, 22]] [[67, 68, 69, 70, 71, 72, 73, 74, 75, 76, 77, 78, 79, 80, 81, 82, 83, 84, 85, 86], [66, 71, 72, 73, 74, 75, 76, 77, 78, 79, 80, 81, 82, 83, 84, 85], [66, 71, 72, 73, 74, 75, 76, 77, 78, 79, 80, 81, 82, 83, 84, 85], [66, 71, 72, 73, 74, 75, 76, 77, 78, 79, 80, 81, 82, 83, 84, 85], [66, 71, 72, 73, 74, 75, 76, 77, 78, 79, 80, 81, 82, 83, 84, 85], [66, 67, 68, 69, 70, 74, 76, 77, 78, 79, 80, 81, 82, 83], [66, 67, 68, 69, 70, 74, 76, 77, 78, 79, 80, 81, 82, 83], [66, 67, 68, 69, 70, 74, 76, 77, 78, 79, 80, 81, 82, 83], [66, 67, 68, 69, 70, 71, 72, 73, 76, 77, 78, 79, 80, 81, 82, 83], [66, 67, 68, 69, 70, 76, 77, 78, 79, 80, 81, 82, 83], [66, 67, 68, 69, 70, 71, 72, 73, 74, 75, 78, 79, 80, 81, 82], [66, 67, 68, 69, 70, 71, 72, 73, 74, 75, 78, 79, 80, 81, 82], [66, 67, 68, 69, 70, 71, 72, 73, 74, 75, 76, 77, 80, 81, 82], [66, 67, 68, 69, 70, 71, 72, 73, 74, 75, 76, 77, 80, 81, 82], [66, 67, 68, 69, 70, 71, 72, 73, 74, 75, 76, 77, 78, 79], [66, 67, 68, 69, 70, 71, 72, 73, 74, 75, 76, 77, 78, 79], [66, 67, 68, 69, 70, 71, 72, 73, 74, 75, 76, 77, 78, 79], [66, 67, 68, 69, 70, 71, 72, 73, 74, 75], [66, 67, 68, 69, 70], [66, 67, 68, 69, 70], [66], [], [], []] [[4, 9], [], [], [], [], [], [], [], [], [], [], [], [], [], [], [], [], [], [], [], [], [], [], []] [(20, 4), (20, 9)] 5 29 rfl (by rfl) (by decide +kernel) (by decide +kernel) rfl (by first|assumption|(intro b hb; cases hb)) ?_ <;> repeat' (first|refine ARL.done rfl rfl ?_|refine ARL.step rfl rfl (by first|exact OSp.do tok rfl rfl rfl|exact OSp.no rfl rfl|exact OSp.noN rfl|exact qoW|exact OSp.copy tok rfl rfl rfl rfl rfl rfl rfl (by (first | (intro x hx; obtain ⟨_, _, rfl⟩ := List.mem_map.1 hx; rfl) | (intro x hx; replace hx := List.mem_of_mem_take (List.mem_of_mem_drop hx); obtain ⟨_, _, rfl⟩ := List.mem_map.1 hx; rfl) | (simp; done))) rfl rfl rfl rfl|exact OSp.buildSlice tok rfl rfl rfl rfl rfl rfl rfl rfl|exact OSp.append tok rfl rfl rfl rfl rfl rfl rfl rfl rfl rfl rfl (by first|(intro x hx; obtain ⟨_, _, rfl⟩ := List.mem_map.1 hx; rfl)|(simp; done)) (by simp; omega) (by simp; omega)|exact OSp.alloc tok rfl rfl rfl rfl|exact OSp.box tok rfl rfl rfl rfl rfl|exact OSp.boxC tok rfl rfl rfl rfl rfl|exact OSp.store tok rfl rfl rfl rfl rfl rfl rfl rfl|exact OSp.appIn tok rfl rfl rfl rfl rfl (by first|assumption|(intro e; have := congrArg List.length e; simp at this; omega)) rfl rfl (by (first | (intro x hx; obtain ⟨_, _, rfl⟩ := List.mem_map.1 hx; rfl) | (intro x hx; replace hx := List.mem_of_mem_take (List.mem_of_mem_drop hx); obtain ⟨_, _, rfl⟩ := List.mem_map.1 hx; rfl) | (simp; done))) rfl rfl rfl rfl (by first|omega|(simp; omega))|exact OSp.copyX tok rfl rfl rfl rfl rfl rfl rfl rfl (by first|omega|(simp; omega)) (by first|omega|(simp; omega)) (by first|omega|(simp; omega)) (by first|omega|(simp; omega)) (by first|omega|(simp; omega))|exact OSp.v rfl rfl (VOp.loadC tok rfl rfl (net_way (by rw [hc])) rfl rfl)|exact OSp.callS rfl rfl rfl rfl rfl rfl (hcl ..) rfl|exact OSp.callP rfl rfl rfl rfl rfl (hcl ..)|exact OSp.callO rfl rfl rfl rfl rfl (hcl ..)|exact OSp.callO rfl rfl rfl rfl rfl hcl) (by rfl) (by rfl) ?_)
                have hst := putI_succ n.way d ⟨false, delay, c⟩ i
                simp only [encIt] at hst
                refine AL.storeC tok rfl rfl (by rw [net_len, hc]; decide) rfl rfl rfl rfl rfl (by rw [net_wset (by rw [hc])]; rfl) rfl ?_
                repeat (first|refine AL.do tok rfl rfl ?_|refine AL.nil ?_|refine AW.seq fun K hK => ?_|refine AW.region ?_|refine AL.no rfl rfl ?_|(refine hK _ ?_; clear hK)|(clear hK; refine hK _ ?_; clear hK)|(clear hK; clear hK; refine hK _ ?_; clear hK)|refine qaW ?_|refine qa1 tok ?_|refine qa2 tok ?_|refine qa3 tok ?_|refine AL.loadR tok rfl rfl rfl rfl rfl rfl ?_|refine qa4 tok ?_|refine qa5 tok ?_|refine AW.block ?_|refine AW.exit ?_|refine AW.skip ?_)
                refine hK1 _ (i + 1) (by omega) (by omega) ?_
                rw [← hst]
                (refine Imp.weakP (fun k => if k = 4 then 25 else k) (fun j k h1 h2 h => by by_cases e0 : j = 4 <;> by_cases f0 : k = 4 <;> simp [*] at h <;> omega) (by simp only [List.map_cons, List.map_nil, net_rn]; rfl) (by first|(simp only [List.all_cons, List.all_nil, Bool.and_true]; exact net_lt _ _ _ (by decide))|(rw [List.all_cons, net_lt _ _ _ (by decide)]; rfl)) ?_ ?_ <;> (repeat' (first|exact trivial|exact Nat.lt_of_lt_of_le (Nat.lt_succ_self _) (Nat.le_of_ble_eq_true rfl)|exact rfl|exact Or.inl ⟨rfl, rfl⟩|exact Or.inr ⟨rfl, LF.fn _ _ ‹_›⟩|refine ⟨?_, ?_⟩)))
              · obtain rfl : i = c + 1 := by omega
                repeat (first|refine AL.do tok rfl rfl ?_|refine AL.nil ?_|refine AW.seq fun K hK => ?_|refine AW.region ?_|refine AL.no rfl rfl ?_|(refine hK _ ?_; clear hK)|(clear hK; refine hK _ ?_; clear hK)|(clear hK; clear hK; refine hK _ ?_; clear hK)|refine qaW ?_|refine qa1 tok ?_|refine qa2 tok ?_|refine qa3 tok ?_|refine AL.loadR tok rfl rfl rfl rfl rfl rfl ?_|refine qa4 tok ?_|refine qa5 tok ?_|refine AW.block ?_|refine AW.exit ?_|refine AW.skip ?_)
                refine AW.cond rfl (fun hg => by simp at hg) (fun hg => ?_)
                repeat (first|refine AL.do tok rfl rfl ?_|refine AL.nil ?_|refine AW.seq fun K hK => ?_|refine AW.region ?_|refine AL.no rfl rfl ?_|(refine hK _ ?_; clear hK)|(clear hK; refine hK _ ?_; clear hK)|(clear hK; clear hK; refine hK _ ?_; clear hK)|refine qaW ?_|refine qa1 tok ?_|refine qa2 tok ?_|refine qa3 tok ?_|refine AL.loadR tok rfl rfl rfl rfl rfl rfl ?_|refine qa4 tok ?_|refine qa5 tok ?_|refine AW.block ?_|refine AW.exit ?_|refine AW.skip ?_)
                refine net_ret0 (n' := setW n (putI n.way d ⟨false, delay, c⟩ (c + 1))) rfl rfl rfl ⟨?_, rfl, ?_, ?_⟩
                all_goals simp [hb, h3, hfit]
            · refine AL.callXP [] [] (require_panics _ _ ?_) rfl rfl rfl rfl rfl rfl (by decide) (by decide) (by decide) rfl rfl (fun Hp' Hr hr => ?_)
              · simp only [hlm, decide_eq_false_iff_not]; omega
              obtain ⟨rfl, rfl⟩ := hr
              refine ⟨rfl, rfl, _, rfl, ?_⟩
              show ∃ Hp' Hr mm, OutX _ _ Hp' Hr mm
              exact net_pan (j := 4) rfl rfl ⟨by simp [hb, h3, hfit], by simp [hb, h3, hfit], rfl, rfl⟩
      · repeat' (first|refine AL.do tok rfl rfl ?_|refine AL.nil ?_|refine AW.seq fun K hK => ?_|refine AW.region ?_|refine AL.no rfl rfl ?_|(refine hK _ ?_; clear hK)|(clear hK; refine hK _ ?_; clear hK)|(clear hK; clear hK; refine hK _ ?_; clear hK)|refine qaW ?_|refine qa1 tok ?_|refine qa2 tok ?_|refine qa3 tok ?_|refine AL.loadR tok rfl rfl rfl rfl rfl rfl ?_|refine qa4 tok ?_|refine qa5 tok ?_|refine AW.block ?_|refine AW.exit ?_|refine AW.skip ?_|((fail_if_success (refine AL.guard (b := true) rfl rfl ?_ ?_)); (fail_if_success (refine AL.guard (b := false) rfl rfl ?_ ?_)); refine AL.guard rfl rfl (fun hg => ?_) (fun hg => ?_) <;> ((try simp only [DX] at hg) <;> (try first|(exfalso; omega)|exact absurd trivial hg|exact False.elim hg|exact absurd rfl hg)))|refine AW.condT rfl ?_|refine AW.condF rfl ?_|(refine AW.cond rfl (fun hg => ?_) (fun hg => ?_) <;> ((try simp only [DX] at hg) <;> (try first|(exfalso; omega)|exact absurd trivial hg|exact False.elim hg|exact absurd rfl hg))))
        all_goals
          refine AL.callXP [] [] (require_panics _ _ ?_) rfl rfl rfl rfl rfl rfl (by decide) (by decide) (by decide) rfl rfl (fun Hp' Hr hr => ?_)
          · first | rfl | (simp only [decide_eq_false_iff_not]; simp only [okF] at h3; omega)
          obtain ⟨rfl, rfl⟩ := hr
          refine ⟨rfl, rfl, _, rfl, ?_⟩
          show ∃ Hp' Hr mm, OutX _ _ Hp' Hr mm
          exact net_pan (j := 3) rfl rfl ⟨by simp [hb, h3], by simp [hb, h3], rfl, rfl⟩
    · refine AL.callXP [] [] (require_panics _ _ ?_) rfl rfl rfl rfl rfl rfl (by decide) (by decide) (by decide) rfl rfl (fun Hp' Hr hr => ?_)
      · simp only [hlb, decide_eq_true_eq, decide_eq_false_iff_not]; omega
      obtain ⟨rfl, rfl⟩ := hr
      refine ⟨rfl, rfl, _, rfl, ?_⟩
      show ∃ Hp' Hr mm, OutX _ _ Hp' Hr mm
      exact net_pan (j := 3) rfl rfl ⟨by simp [hb], by simp [hb], rfl, rfl⟩
end Go.Proofs.Try
