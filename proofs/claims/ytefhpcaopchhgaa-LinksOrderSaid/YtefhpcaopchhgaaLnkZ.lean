/- links: Send, whose bytes are a row that it is lent. -/
import Derived.Test.YtefhpcaopchhgaaLnkY
import Derived.Test.YtefhpcaopchhgaaWk
set_option linter.unusedSimpArgs false
set_option linter.unusedVariables false
namespace Go.Proofs.Try
open Go Go.AM

/-- A call of a method of a net that is lent a row of bytes. -/
def ACallNetB (f : FuncId) (args : List AV) (n : Nt) (l : List Nat) (r : AV) (n' : Nt) : Prop := ACallsX Try.prog f args [netB n (.own (.loc 0)), rowB l] [wayR n] fun r' Hp' Hr => r' = r ∧ Hp' = [netB n' (.own (.loc 0)), rowB l] ∧ Hr = [wayR n']
section
variable {l rest : List Oper} {Q : Exit → St → Prop} {nn clk : Nat} {T : List (Nat × AV)} {H : List (Nat × Option Blk)} {Hp : List Blk} {x : Operand} {args : Array Operand} {tys : Array TypeId} {ty : TypeId} {pos : String} {aft : Array Edge} {g : Option (Nat × Bool)} {o : Option Tmp}
theorem AL.callNetB (i j : AM.Id) (k : Nat) {f : FuncId} {n n' : Nt} {bs : List Nat} {r : AV} {caps as_ ys : List AV} (hc : ACallNetB f ys n bs r n') (hw : wantedA l ⟨o, .call ⟨.value x, args, tys⟩, ty, pos, aft, g⟩ ⟨nn, T, H, Hp, clk⟩ = some true)
    (hx : ev ⟨nn, T, H, Hp, clk⟩ x = some (.fn f caps)) (ha : aevs ⟨nn, T, H, Hp, clk⟩ args.toList some = some as_) (hb : hk ⟨nn, T, H, Hp, clk⟩ i = some (netB n (.own (.loc k)))) (hj : hk ⟨nn, T, H, Hp, clk⟩ j = some (rowB bs)) (hkw : hk ⟨nn, T, H, Hp, clk⟩ (.loc k) = some (wayR n).blk)
    (hij : i ≠ j) (hne : .loc k ≠ i) (hnj : .loc k ≠ j) (hys : ys.map (mp2 [i, j] [k]) = as_ ++ caps) (hpk : ys.all (okm2 2 1) = true) (hr : mp2 [i, j] (iota clk 1) r = r) (hok : okm2 2 1 r = true) {σ1 σ2 σ3 : St} (hset : aset ⟨nn, T, (clk, some (wayR n').blk) :: (k, none) :: H, Hp, clk + 1⟩ i (netB n' (.own (.loc clk))) = some σ1) (hset2 : aset σ1 j (rowB bs) = some σ2)
    (hput : put σ2 o r = some σ3) (h : AL Try.prog l Q rest σ3) : AL Try.prog l Q (⟨o, .call ⟨.value x, args, tys⟩, ty, pos, aft, g⟩ :: rest) ⟨nn, T, H, Hp, clk⟩ := by
  refine AL.callX [i, j] [k] hc hw hx ha (by simp only [List.map_cons, List.map_nil, hb, hj, net_map]; rfl) (by simp only [List.map_cons, List.map_nil, hkw]) (by rw [List.all_cons, net_ok _ _ _ (by simp)]; rfl) (by simpa using hij) (by simp) (by simpa using ⟨hne, hnj⟩) hys hpk (fun r' Hp' Hr hr' => ?_)
  obtain ⟨rfl, rfl, rfl⟩ := hr'
  refine ⟨hok, rfl, by rw [List.all_cons, net_ok _ _ _ (by simp)]; rfl, σ2, σ3, ?_, ?_, h⟩
  · have e : aset ⟨nn, T, rowsH clk [wayR n'] ++ dropI [k] H, Hp, clk + [wayR n'].length⟩ i (netB n' (.own (.loc clk))) = some σ1 := hset
    simp only [List.map_cons, List.map_nil, net_map, List.zip_cons_cons, List.zip_nil_left, asetL]
    rw [show (iota clk [wayR n'].length).getD 0 0 = clk from rfl, e]
    show (match aset σ1 j (rowB bs) with | some σ' => some σ' | none => none) = some σ2
    rw [hset2]
  · rw [show mp2 [i, j] (iota clk [wayR n'].length) r' = r' from hr]
    exact hput
/-- It gives up. -/
theorem AL.callNetPB (i j : AM.Id) (k : Nat) {f : FuncId} {n n' : Nt} {bs : List Nat} {ch : List PanicEntry} {caps as_ ys : List AV} (hc : ACallsXP Try.prog f ys [netB n (.own (.loc 0)), rowB bs] [wayR n] ch fun Hp' Hr => Hp' = [netB n' (.own (.loc 0)), rowB bs] ∧ Hr = [wayR n']) (hw : wantedA l ⟨o, .call ⟨.value x, args, tys⟩, ty, pos, aft, g⟩ ⟨nn, T, H, Hp, clk⟩ = some true)
    (hx : ev ⟨nn, T, H, Hp, clk⟩ x = some (.fn f caps)) (ha : aevs ⟨nn, T, H, Hp, clk⟩ args.toList some = some as_) (hb : hk ⟨nn, T, H, Hp, clk⟩ i = some (netB n (.own (.loc k)))) (hj : hk ⟨nn, T, H, Hp, clk⟩ j = some (rowB bs)) (hkw : hk ⟨nn, T, H, Hp, clk⟩ (.loc k) = some (wayR n).blk)
    (hij : i ≠ j) (hne : .loc k ≠ i) (hnj : .loc k ≠ j) (hys : ys.map (mp2 [i, j] [k]) = as_ ++ caps) (hpk : ys.all (okm2 2 1) = true) {σ1 σ2 : St} (hset : aset ⟨nn, T, (clk, some (wayR n').blk) :: (k, none) :: H, Hp, clk + 1⟩ i (netB n' (.own (.loc clk))) = some σ1) (hset2 : aset σ1 j (rowB bs) = some σ2)
    (h : Q (.panic ch) σ2) : AL Try.prog l Q (⟨o, .call ⟨.value x, args, tys⟩, ty, pos, aft, g⟩ :: rest) ⟨nn, T, H, Hp, clk⟩ := by
  refine AL.callXP [i, j] [k] hc hw hx ha (by simp only [List.map_cons, List.map_nil, hb, hj, net_map]; rfl) (by simp only [List.map_cons, List.map_nil, hkw]) (by rw [List.all_cons, net_ok _ _ _ (by simp)]; rfl) (by simpa using hij) (by simp) (by simpa using ⟨hne, hnj⟩) hys hpk (fun Hp' Hr hr' => ?_)
  obtain ⟨rfl, rfl⟩ := hr'
  refine ⟨rfl, by rw [List.all_cons, net_ok _ _ _ (by simp)]; rfl, σ2, ?_, h⟩
  have e : aset ⟨nn, T, rowsH clk [wayR n'] ++ dropI [k] H, Hp, clk + [wayR n'].length⟩ i (netB n' (.own (.loc clk))) = some σ1 := hset
  simp only [List.map_cons, List.map_nil, net_map, List.zip_cons_cons, List.zip_nil_left, asetL]
  rw [show (iota clk [wayR n'].length).getD 0 0 = clk from rfl, e]
  show (match aset σ1 j (rowB bs) with | some σ' => some σ' | none => none) = some σ2
  rw [hset2]
end
abbrev hpT (n : Nt) (code : Int) (d : Dg) (f : Fa) (k : Nat) : List Blk := [netB n (.own (.loc k)), .box 24 [i64 code], .box 31 [i64 d.src, i64 d.dst, .own (.par 4)], .box 34 [bo f.drop, i64 f.delay, i64 f.copies], rowB d.bytes]
abbrev stF (n : Nt) (code : Int) (d : Dg) (f : Fa) : St := ⟨12, [(6, .ptr (.par 1) 0)], [(1, some (wayR n).blk)], hpT n code d f 1, 2⟩
abbrev stT (n : Nt) (d : Dg) (f : Fa) : St := ⟨12, [(6, .ptr (.loc 3) 0), (5, .ptr (.loc 2) 0), (4, .ptr (.loc 1) 0), (0, .ptr (.par 0) 0)], [(3, some (.box 24 [i64 0])), (2, some (.box 34 [bo f.drop, i64 f.delay, i64 f.copies])), (1, some (.box 31 [i64 d.src, i64 d.dst, .own (.par 1)])), (0, some (wayR n).blk)], [netB n (.own (.loc 0)), rowB d.bytes], 4⟩
set_option maxHeartbeats 4000000 in
set_option maxRecDepth 10000 in
theorem sendX_calls (n : Nt) (d : Dg) (f : Fa) (hc : n.cut.length = 49) (hn : n.nodes ≤ 7) (hl : n.way.length ≤ 4096) : ACallNetB 9 [.ptr (.par 0) 0, .agg [i64 d.src, i64 d.dst, .own (.par 1)], aggF f] n d.bytes (i64 (sendE n d f)) (sendS n d f) := by
  have ks := sendB_calls n d f hc hn hl
  refine ⟨⟨Try.f9, Try.func9, by kernel_rfl, rfl⟩, fun c vs ρ hi => ?_⟩
  have hs := inix_sat hi 12 (by simp)
  suffices hP : ∀ Post : Ending → World → Prop, (∀ v w ρ O, FinAt c (i64 (sendE n d f)) [netB (sendS n d f) (.own (.loc 0)), rowB d.bytes] [wayR (sendS n d f)] v w ρ O → Post (.returned v) w) → Calls Try.prog 9 vs c.w0 Post from
    hP _ (fun v w ρ O hf => ⟨_, _, _, v, ρ, O, ⟨rfl, rfl, rfl⟩, rfl, hf⟩)
  intro Post hPost
  refine calls_of_wp_defers Try.func9 rfl ?_
  rw [Try.ntmps9]
  refine wp_seq ?_
  refine wp_mono ((?h0 : AW Try.prog _ (fun e σ => e = .normal ∧ Imp σ (stT n d f)) _) c _ _ ⟨ρ, _, hs⟩) ?_
  case h0 =>
    simp only [argT, rowsH, Rw.blk, List.length_cons, List.length_nil]
    repeat (first|refine AL.do tok rfl rfl ?_|refine AL.nil ?_|refine AW.seq fun K hK => ?_|refine AW.region ?_|refine AL.no rfl rfl ?_|(refine hK _ ?_; clear hK)|(clear hK; refine hK _ ?_; clear hK)|(clear hK; clear hK; refine hK _ ?_; clear hK)|refine qaW ?_|refine qa1 tok ?_|refine qa2 tok ?_|refine qa3 tok ?_|refine AL.loadR tok rfl rfl rfl rfl rfl rfl ?_|refine qa4 tok ?_|refine qa5 tok ?_|refine AW.block ?_|refine AW.exit ?_|refine AW.skip ?_)
    refine ⟨rfl, ?_⟩
    (refine Imp.weakP id (fun _ _ _ _ h => h) (by simp only [List.map_cons, List.map_nil, net_rn]; rfl) (by first|(simp only [List.all_cons, List.all_nil, Bool.and_true]; exact net_lt _ _ _ (by decide))|(rw [List.all_cons, net_lt _ _ _ (by decide)]; rfl)) ?_ ?_ <;> (repeat' (first|exact trivial|exact Nat.lt_of_lt_of_le (Nat.lt_succ_self _) (Nat.le_of_ble_eq_true rfl)|exact rfl|exact Or.inl ⟨rfl, rfl⟩|exact Or.inr ⟨rfl, LF.fn _ _ ‹_›⟩|refine ⟨?_, ?_⟩)))
  rintro e a1 w1 ⟨σ, ⟨rfl, him⟩, hs1⟩
  obtain ⟨ρ1, O1, h1⟩ := him c a1 w1 hs1
  clear hs1 him σ
  obtain ⟨g, hg, hgb⟩ := box1_block h1 (i := .loc 3) (e := 24) (x := 0) rfl
  have hq : a1.eval (.tmp 6) = .pointer (some ⟨g, 0, none⟩) := by
    have := ev_sound h1 (x := .tmp 6) rfl
    generalize a1.eval (.tmp 6) = q at this
    cases this with
    | ptr _ _ g' hg' =>
      rw [hg] at hg'
      simp only [Option.bind_some, vblk, Option.some.injEq] at hg'
      rw [hg']
  refine wp_seq ?_
  refine wp_region ?_
  have hsz := h1.n
  have hdf := h1.defers.trans hi.df
  obtain ⟨tm, df⟩ := a1
  simp only at hsz hdf
  subst hdf
  have h7 : 7 < tm.size := by omega
  have hq6 : tm[6]?.getD undef = .pointer (some ⟨g, 0, none⟩) := by rw [← hq]; simp [Act.eval]
  simp [wpOps, go_sem, Oper.wp, h7, hq6, Exit.then, Oper.upon]
  refine .inl (.inl ?_)
  have h2 := dfr_sat (put_sat h1 (dst := some 7) (x := .junk) (v := .func (.func 27) #[] #[.pointer (some ⟨g, 0, none⟩)]) (.junk _) rfl) [{ target := .fn (.func 27) #[.pointer (some ⟨g, 0, none⟩)], args := #[] }]
  obtain ⟨Ow, h2w⟩ := within_sat (m := [.par 0, .loc 3, .loc 1, .loc 2, .par 1]) (is := [0]) h2 (HpC := hpT n 0 d f 0) (Hg := [wayR n]) (by simp only [List.map_cons, List.map_nil, net_map]; rfl) rfl (by rw [List.all_cons, net_ok _ _ _ (by simp)]; rfl) (by decide) (by decide) (by decide)
    (T' := [(0, .ptr (.par 0) 0), (6, .ptr (.par 1) 0), (4, .ptr (.par 2) 0), (5, .ptr (.par 3) 0)]) (fun t y ht => by
      have := lk_mem ht
      simp only [List.mem_cons, List.not_mem_nil, or_false, Prod.mk.injEq] at this
      rcases this with ⟨rfl, rfl⟩ | ⟨rfl, rfl⟩ | ⟨rfl, rfl⟩ | ⟨rfl, rfl⟩ <;> exact ⟨rfl, rfl⟩)
  have fin : ∀ n' code a' w'' ρv Ov ds, SatAt (ctxW ρ1 O1 w1 [.par 0, .loc 3, .loc 1, .loc 2, .par 1] [0] ds) (stF n' code d f) a' w'' ρv Ov → ∃ v, (results Try.f9 a'.tmps).run Try.prog w'' = .ok v w'' ∧ ∃ ρ' O', FinAt c (i64 code) [netB n' (.own (.loc 0)), rowB d.bytes] [wayR n'] v w'' ρ' O' := by
    intro n' code a' w'' ρv Ov ds h3
    obtain ⟨v, hv1, hv2⟩ := ares_sound tok h3 (fn := Try.f9) (y := i64 code) (by rw [Try.results9]; rfl)
    have hv3 := one_of hv2
    subst hv3
    obtain ⟨ρ', O', h4⟩ := within_fin h2 (HpC := hpT n 0 d f 0) (Hg := [wayR n]) (by simp only [List.map_cons, List.map_nil, net_map]; rfl) rfl (by decide) (by decide) h3 (Hp' := hpT n' code d f 0) (Hr := [wayR n']) (mm := [1])
      ⟨trivial, rfl, by simp, fun k i rw h1 h2 => by
        cases k with
        | zero => simp at h1 h2; subst h1; subst h2; rfl
        | succ k => simp at h1, by simp only [List.map_cons, List.map_nil, net_map]; rfl, by rw [List.all_cons, net_ok _ _ _ (by simp)]; rfl⟩ rfl (by rw [List.all_cons, net_ok _ _ _ (by simp)]; rfl) (by simp only [List.map_cons, List.map_nil, net_map]; rfl)
    exact ⟨_, hv1, _, _, dfr_fin (outX_fin h4 (R := fun _ _ => True) (net_outB (j := 4) rfl rfl trivial) (.d _ _ (.one _ rfl)))⟩
  by_cases hE : sendE n d f = 0
  · have kA : ACallNetB 28 [.ptr (.par 0) 0, .agg [i64 d.src, i64 d.dst, .own (.par 1)], aggF f] n d.bytes (.tup []) (sendS n d f) := by
      have h := ACallsXB.ret ks (fun ch Hp' Hr h => h.2.1 hE)
      refine ⟨h.1, fun c vs ρ hi => (h.2 c vs ρ hi).mono ?_⟩
      rintro e w ⟨r, Hp', Hr, v, ρ', O, ⟨_, h1⟩, h2, h3⟩
      exact ⟨r, Hp', Hr, v, ρ', O, h1, h2, h3⟩
    refine wp_mono ((?h1 : AW Try.prog _ (fun e σ => e = .ret ∧ Imp σ (stF (sendS n d f) 0 d f)) _) _ _ _ ⟨_, _, h2w⟩) ?_
    case h1 =>
      simp only [rowsH, Rw.blk, List.length_cons, List.length_nil]
      repeat (first|refine AL.do tok rfl rfl ?_|refine AL.nil ?_|refine AW.seq fun K hK => ?_|refine AW.region ?_|refine AL.no rfl rfl ?_|(refine hK _ ?_; clear hK)|(clear hK; refine hK _ ?_; clear hK)|(clear hK; clear hK; refine hK _ ?_; clear hK)|refine qaW ?_|refine qa1 tok ?_|refine qa2 tok ?_|refine qa3 tok ?_|refine AL.loadR tok rfl rfl rfl rfl rfl rfl ?_|refine qa4 tok ?_|refine qa5 tok ?_|refine AW.block ?_|refine AW.exit ?_|refine AW.skip ?_)
      refine AL.callNetB (.par 0) (.par 4) 0 kA rfl rfl rfl rfl rfl rfl (by decide) (by decide) (by decide) rfl rfl rfl rfl rfl rfl rfl ?_
      repeat (first|refine AL.do tok rfl rfl ?_|refine AL.nil ?_|refine AW.seq fun K hK => ?_|refine AW.region ?_|refine AL.no rfl rfl ?_|(refine hK _ ?_; clear hK)|(clear hK; refine hK _ ?_; clear hK)|(clear hK; clear hK; refine hK _ ?_; clear hK)|refine qaW ?_|refine qa1 tok ?_|refine qa2 tok ?_|refine qa3 tok ?_|refine AL.loadR tok rfl rfl rfl rfl rfl rfl ?_|refine qa4 tok ?_|refine qa5 tok ?_|refine AW.block ?_|refine AW.exit ?_|refine AW.skip ?_)
      refine AW.ret ?_
      refine ⟨rfl, ?_⟩
      (refine Imp.weakP id (fun _ _ _ _ h => h) (by simp only [List.map_cons, List.map_nil, net_rn]; rfl) (by first|(simp only [List.all_cons, List.all_nil, Bool.and_true]; exact net_lt _ _ _ (by decide))|(rw [List.all_cons, net_lt _ _ _ (by decide)]; rfl)) ?_ ?_ <;> (repeat' (first|exact trivial|exact Nat.lt_of_lt_of_le (Nat.lt_succ_self _) (Nat.le_of_ble_eq_true rfl)|exact rfl|exact Or.inl ⟨rfl, rfl⟩|exact Or.inr ⟨rfl, LF.fn _ _ ‹_›⟩|refine ⟨?_, ?_⟩)))
    rintro e a' w' ⟨σ, ⟨rfl, him⟩, hs3⟩
    obtain ⟨ρv, Ov, h3⟩ := him _ _ _ hs3
    show Leaves Try.prog Try.f9 a'.tmps Post a'.defers .returning w'
    rw [h3.defers]
    refine leaves_cons (f := 27) (args := #[.pointer (some ⟨g, 0, none⟩)]) (by simp) (by simp [go_sem]) ?_
    refine (catch_idle _ _).mono ?_
    rintro e u' w'' ⟨rfl, rfl, rfl⟩
    obtain ⟨v, hv, ρ', O', hf⟩ := fin _ _ _ _ _ _ _ h3
    rw [← hE] at hf
    exact ⟨v, hv, hPost v _ ρ' O' hf⟩
  · have kB : ACallsXP Try.prog 28 [.ptr (.par 0) 0, .agg [i64 d.src, i64 d.dst, .own (.par 1)], aggF f] [netB n (.own (.loc 0)), rowB d.bytes] [wayR n] (failCh (sendE n d f)) fun Hp' Hr => Hp' = [netB n (.own (.loc 0)), rowB d.bytes] ∧ Hr = [wayR n] := ACallsXB.pan ks (fun r Hp' Hr h => hE h.1) (fun ch Hp' Hr h => ⟨h.1, h.2.2⟩)
    have hS : sendS n d f = n := by unfold sendS; rw [if_neg (fun h => hE h.1)]
    rw [hS] at hPost
    refine wp_mono ((?h3 : AW Try.prog _ (fun e σ => e = .panic (failCh (sendE n d f)) ∧ Imp σ (stF n 0 d f)) _) _ _ _ ⟨_, _, h2w⟩) ?_
    case h3 =>
      simp only [rowsH, Rw.blk, List.length_cons, List.length_nil]
      repeat (first|refine AL.do tok rfl rfl ?_|refine AL.nil ?_|refine AW.seq fun K hK => ?_|refine AW.region ?_|refine AL.no rfl rfl ?_|(refine hK _ ?_; clear hK)|(clear hK; refine hK _ ?_; clear hK)|(clear hK; clear hK; refine hK _ ?_; clear hK)|refine qaW ?_|refine qa1 tok ?_|refine qa2 tok ?_|refine qa3 tok ?_|refine AL.loadR tok rfl rfl rfl rfl rfl rfl ?_|refine qa4 tok ?_|refine qa5 tok ?_|refine AW.block ?_|refine AW.exit ?_|refine AW.skip ?_)
      refine AL.callNetPB (.par 0) (.par 4) 0 kB rfl rfl rfl rfl rfl rfl (by decide) (by decide) (by decide) rfl rfl rfl rfl ?_
      refine ⟨rfl, ?_⟩
      (refine Imp.weakP id (fun _ _ _ _ h => h) (by simp only [List.map_cons, List.map_nil, net_rn]; rfl) (by first|(simp only [List.all_cons, List.all_nil, Bool.and_true]; exact net_lt _ _ _ (by decide))|(rw [List.all_cons, net_lt _ _ _ (by decide)]; rfl)) ?_ ?_ <;> (repeat' (first|exact trivial|exact Nat.lt_of_lt_of_le (Nat.lt_succ_self _) (Nat.le_of_ble_eq_true rfl)|exact rfl|exact Or.inl ⟨rfl, rfl⟩|exact Or.inr ⟨rfl, LF.fn _ _ ‹_›⟩|refine ⟨?_, ?_⟩)))
    rintro e a' w' ⟨σ, ⟨rfl, him⟩, hs3⟩
    obtain ⟨ρv, Ov, h3⟩ := him _ _ _ hs3
    show Leaves Try.prog Try.f9 a'.tmps Post a'.defers (.panicking (failCh (sendE n d f))) w'
    rw [h3.defers]
    have hgv : ρv (.par 1) = some (.pointer (some ⟨g, 0, none⟩)) := by rw [h3.par]; exact hg
    obtain ⟨g', hg', hgb'⟩ := box1_block h3 (i := .par 1) (e := 24) (x := 0) rfl
    rw [hgv] at hg'
    injection hg' with hg'
    injection hg' with hg'
    injection hg' with hg'
    injection hg' with hg'
    subst hg'
    have hlt : g < w'.heap.size := (Array.getElem?_eq_some_iff.1 hgb').1
    have hgo : ∀ o, (w'.alloc o).heap[g]? = some (.cells #[.int .i64 0] 24 (0, 0)) := fun o => by rw [Go.RowKit.Below.heap_alloc w' o g hlt, hgb']
    refine leaves_cons (f := 27) (args := #[.pointer (some ⟨g, 0, none⟩)]) (by simp) (by simp [go_sem]) ?_
    refine (catch_panicking ⟨g, 0, none⟩ 0 (sendE n d f) w' (fun o => by rw [cell_of_row _ g 0 _ _ _ (hgo o)]; rfl) (fun o => frozen_of_row _ g 0 _ _ (hgo o))).mono ?_
    rintro e u' w'' ⟨rfl, rfl, rfl⟩
    have h5 := grow_sat (w' := w'.alloc (.cells #[.int .i64 (sendE n d f)] 73)) h3 (by simp) (fun k hk => Go.RowKit.Below.heap_alloc w' _ k hk) rfl rfl rfl
    have h6 := box1_write h5 (i := .par 1) (e := 24) (x := 0) (y := sendE n d f) (σ' := stF n (sendE n d f) d f) rfl hgv rfl
    obtain ⟨v, hv, ρ', O', hf⟩ := fin _ _ _ _ _ _ _ h6
    exact ⟨v, hv, hPost v _ ρ' O' hf⟩
end Go.Proofs.Try
