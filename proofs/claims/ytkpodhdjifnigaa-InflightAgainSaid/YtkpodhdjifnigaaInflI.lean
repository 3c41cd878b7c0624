/- inflight: windows copied into rows of their own; valid windows. -/
import Derived.Test.YtkpodhdjifnigaaInflH
import Derived.Test.YtkpodhdjifnigaaAM48
set_option linter.unusedSimpArgs false
set_option linter.unusedVariables false
namespace Go.Proofs.Try
open Go Go.AM

set_option maxHeartbeats 8000000 in
set_option maxRecDepth 10000 in
theorem cloneO_calls (w : Wi) (hw : SmallW w) : ACalls Try.prog 37 [aggW w] [] fun r _ Hr => r = .agg [i64 w.limit, .own (.loc 0), rowI w.pool.used, i64 w.pool.last] ∧ Hr = [⟨75, 11, w.items.map encF⟩] := by
  obtain ⟨lim, l, ⟨u, la⟩⟩ := w
  obtain ⟨hl, hu, hp⟩ := hw
  simp only at hl hu hp
  have hcu := clone_calls u (by omega)
  have hlm : (l.map encF).length = l.length := List.length_map ..
  refine ACalls.body tok Try.func37 rfl (by kernel_rfl) (by rw [Try.ntmps37]; simp) ?_
  simp only [Try.ntmps37, Try.results37, argT]
  repeat (first|refine AL.do tok rfl rfl ?_|refine AL.nil ?_|refine AW.seq fun K hK => ?_|refine AW.region ?_|refine AL.no rfl rfl ?_|(refine hK _ ?_; clear hK)|(clear hK; refine hK _ ?_; clear hK)|(clear hK; clear hK; refine hK _ ?_; clear hK)|refine qa7 qv1 ?_|refine qa7 qv2 ?_|refine qa7 qv3 ?_|refine qa7 (qv4 tok) ?_|refine qa7 (qv5 tok) ?_|refine qa7 qv6 ?_|refine qa7 qv7 ?_|refine qa7 (qv8 tok) ?_|refine qa7 (qv9 tok) ?_|refine qa7 (qv10 tok) ?_|refine qa7 (qv11 tok) ?_|refine qa7 (qv12 tok) ?_|refine qa7 (qv13 tok) ?_|refine qa7 (qv14 tok) ?_|refine qa7 (qv15 tok) ?_|refine qa7 (qv16 tok) ?_|refine qa7 qv17 ?_|refine qa7 (qv18 tok) ?_|refine qa7 qv19 ?_|refine qa7 (qv20 tok) ?_|refine qa7 (qv21 tok) ?_|refine qa7 (qv22 tok) ?_|refine qa7 (qv23 tok) ?_|refine qa7 (qv24 tok) ?_|refine qa7 qv26 ?_|refine qa7 qv27 ?_|refine qa7 (qv28 tok) ?_|refine qa1 tok ?_|refine qa2 tok ?_|refine qa3 tok ?_|refine AL.loadR tok rfl rfl rfl rfl rfl rfl ?_|refine qa4 tok ?_|refine qa5 tok ?_|refine AW.block ?_|refine AW.exit ?_|refine AW.skip ?_)
  dsimp only
  simp only [hlm]
  repeat (first|refine AL.do tok rfl rfl ?_|refine AL.nil ?_|refine AW.seq fun K hK => ?_|refine AW.region ?_|refine AL.no rfl rfl ?_|(refine hK _ ?_; clear hK)|(clear hK; refine hK _ ?_; clear hK)|(clear hK; clear hK; refine hK _ ?_; clear hK)|refine qa7 qv1 ?_|refine qa7 qv2 ?_|refine qa7 qv3 ?_|refine qa7 (qv4 tok) ?_|refine qa7 (qv5 tok) ?_|refine qa7 qv6 ?_|refine qa7 qv7 ?_|refine qa7 (qv8 tok) ?_|refine qa7 (qv9 tok) ?_|refine qa7 (qv10 tok) ?_|refine qa7 (qv11 tok) ?_|refine qa7 (qv12 tok) ?_|refine qa7 (qv13 tok) ?_|refine qa7 (qv14 tok) ?_|refine qa7 (qv15 tok) ?_|refine qa7 (qv16 tok) ?_|refine qa7 qv17 ?_|refine qa7 (qv18 tok) ?_|refine qa7 qv19 ?_|refine qa7 (qv20 tok) ?_|refine qa7 (qv21 tok) ?_|refine qa7 (qv22 tok) ?_|refine qa7 (qv23 tok) ?_|refine qa7 (qv24 tok) ?_|refine qa7 qv26 ?_|refine qa7 qv27 ?_|refine qa7 (qv28 tok) ?_|refine qa1 tok ?_|refine qa2 tok ?_|refine qa3 tok ?_|refine AL.loadR tok rfl rfl rfl rfl rfl rfl ?_|refine qa4 tok ?_|refine qa5 tok ?_|refine AW.block ?_|refine AW.exit ?_|refine AW.skip ?_)
  dsimp only
  simp only [hlm]
  refine AW.loop (ι := Nat) (fun i => ⟨36, [(14, i64 i), (13, i64 l.length), (12, rowF l), (3, .own (.loc 2)), (1, .ptr (.loc 0) 0), (2, .ptr (.loc 1) 0)], [(2, some (.row 75 11 ((l.take i).map encF))), (0, some (.box 27 [i64 lim, rowF l, rowI u, i64 la])), (1, some (.box 27 [i64 0, .nilrow, .nilrow, i64 0]))], [], 3⟩)
    (fun i => i ≤ l.length) (fun i => l.length - i) 0 (Nat.zero_le _) ?_ ?_
  · (refine Imp.weak id (fun _ _ _ _ h => h) (by first|assumption|(intro b hb; cases hb)) ?_ ?_ <;> (repeat' (first|exact trivial|exact Nat.lt_of_lt_of_le (Nat.lt_succ_self _) (Nat.le_of_ble_eq_true rfl)|exact rfl|exact Or.inl ⟨rfl, rfl⟩|exact Or.inr ⟨rfl, LF.fn _ _ ‹_›⟩|refine ⟨?_, ?_⟩)))
  rintro i hi K1 hK1
  have hfl : ((l.take i).map encF).length = i := by rw [List.length_map, List.length_take]; omega
  have hfl2 : (l.take i).length = i := by rw [List.length_take]; omega
  by_cases hlt : i < l.length
  · have hcp := copied_calls l[i].msg (hp _ (List.getElem_mem _))
    repeat (first|refine AL.do tok rfl rfl ?_|refine AL.nil ?_|refine AW.seq fun K hK => ?_|refine AW.region ?_|refine AL.no rfl rfl ?_|(refine hK _ ?_; clear hK)|(clear hK; refine hK _ ?_; clear hK)|(clear hK; clear hK; refine hK _ ?_; clear hK)|refine qa7 qv1 ?_|refine qa7 qv2 ?_|refine qa7 qv3 ?_|refine qa7 (qv4 tok) ?_|refine qa7 (qv5 tok) ?_|refine qa7 qv6 ?_|refine qa7 qv7 ?_|refine qa7 (qv8 tok) ?_|refine qa7 (qv9 tok) ?_|refine qa7 (qv10 tok) ?_|refine qa7 (qv11 tok) ?_|refine qa7 (qv12 tok) ?_|refine qa7 (qv13 tok) ?_|refine qa7 (qv14 tok) ?_|refine qa7 (qv15 tok) ?_|refine qa7 (qv16 tok) ?_|refine qa7 qv17 ?_|refine qa7 (qv18 tok) ?_|refine qa7 qv19 ?_|refine qa7 (qv20 tok) ?_|refine qa7 (qv21 tok) ?_|refine qa7 (qv22 tok) ?_|refine qa7 (qv23 tok) ?_|refine qa7 (qv24 tok) ?_|refine qa7 qv26 ?_|refine qa7 qv27 ?_|refine qa7 (qv28 tok) ?_|refine qa1 tok ?_|refine qa2 tok ?_|refine qa3 tok ?_|refine AL.loadR tok rfl rfl rfl rfl rfl rfl ?_|refine qa4 tok ?_|refine qa5 tok ?_|refine AW.block ?_|refine AW.exit ?_|refine AW.skip ?_)
    refine AW.cond rfl (fun hg => ?_) (fun hg => by simp at hg; omega)
    repeat (first|refine AL.do tok rfl rfl ?_|refine AL.nil ?_|refine AW.seq fun K hK => ?_|refine AW.region ?_|refine AL.no rfl rfl ?_|(refine hK _ ?_; clear hK)|(clear hK; refine hK _ ?_; clear hK)|(clear hK; clear hK; refine hK _ ?_; clear hK)|refine qa7 qv1 ?_|refine qa7 qv2 ?_|refine qa7 qv3 ?_|refine qa7 (qv4 tok) ?_|refine qa7 (qv5 tok) ?_|refine qa7 qv6 ?_|refine qa7 qv7 ?_|refine qa7 (qv8 tok) ?_|refine qa7 (qv9 tok) ?_|refine qa7 (qv10 tok) ?_|refine qa7 (qv11 tok) ?_|refine qa7 (qv12 tok) ?_|refine qa7 (qv13 tok) ?_|refine qa7 (qv14 tok) ?_|refine qa7 (qv15 tok) ?_|refine qa7 (qv16 tok) ?_|refine qa7 qv17 ?_|refine qa7 (qv18 tok) ?_|refine qa7 qv19 ?_|refine qa7 (qv20 tok) ?_|refine qa7 (qv21 tok) ?_|refine qa7 (qv22 tok) ?_|refine qa7 (qv23 tok) ?_|refine qa7 (qv24 tok) ?_|refine qa7 qv26 ?_|refine qa7 qv27 ?_|refine qa7 (qv28 tok) ?_|refine qa1 tok ?_|refine qa2 tok ?_|refine qa3 tok ?_|refine AL.loadR tok rfl rfl rfl rfl rfl rfl ?_|refine qa4 tok ?_|refine qa5 tok ?_|refine AW.block ?_|refine AW.exit ?_|refine AW.skip ?_|refine qc1 (hcp ..) ?_|refine qc2 (hcp ..) ?_)
    refine qa6 tok ?_
    rw [encF_app, take_map encF hlt]
    repeat (first|refine AL.do tok rfl rfl ?_|refine AL.nil ?_|refine AW.seq fun K hK => ?_|refine AW.region ?_|refine AL.no rfl rfl ?_|(refine hK _ ?_; clear hK)|(clear hK; refine hK _ ?_; clear hK)|(clear hK; clear hK; refine hK _ ?_; clear hK)|refine qa7 qv1 ?_|refine qa7 qv2 ?_|refine qa7 qv3 ?_|refine qa7 (qv4 tok) ?_|refine qa7 (qv5 tok) ?_|refine qa7 qv6 ?_|refine qa7 qv7 ?_|refine qa7 (qv8 tok) ?_|refine qa7 (qv9 tok) ?_|refine qa7 (qv10 tok) ?_|refine qa7 (qv11 tok) ?_|refine qa7 (qv12 tok) ?_|refine qa7 (qv13 tok) ?_|refine qa7 (qv14 tok) ?_|refine qa7 (qv15 tok) ?_|refine qa7 (qv16 tok) ?_|refine qa7 qv17 ?_|refine qa7 (qv18 tok) ?_|refine qa7 qv19 ?_|refine qa7 (qv20 tok) ?_|refine qa7 (qv21 tok) ?_|refine qa7 (qv22 tok) ?_|refine qa7 (qv23 tok) ?_|refine qa7 (qv24 tok) ?_|refine qa7 qv26 ?_|refine qa7 qv27 ?_|refine qa7 (qv28 tok) ?_|refine qa1 tok ?_|refine qa2 tok ?_|refine qa3 tok ?_|refine AL.loadR tok rfl rfl rfl rfl rfl rfl ?_|refine qa4 tok ?_|refine qa5 tok ?_|refine AW.block ?_|refine AW.exit ?_|refine AW.skip ?_)
    refine hK1 _ (i + 1) (by omega) (by omega) ?_
    (refine Imp.weak (fun k => if k = 2 then 5 else k) (fun j k h1 h2 h => by by_cases e1 : j = 2 <;> by_cases e2 : k = 2 <;> simp [e1, e2] at h <;> omega) (by first|assumption|(intro b hb; cases hb)) ?_ ?_ <;> (repeat' (first|exact trivial|exact Nat.lt_of_lt_of_le (Nat.lt_succ_self _) (Nat.le_of_ble_eq_true rfl)|exact rfl|exact Or.inl ⟨rfl, rfl⟩|exact Or.inr ⟨rfl, LF.fn _ _ ‹_›⟩|refine ⟨?_, ?_⟩)))
  · obtain rfl : i = l.length := by omega
    rw [List.take_length] at *
    repeat (first|refine AL.do tok rfl rfl ?_|refine AL.nil ?_|refine AW.seq fun K hK => ?_|refine AW.region ?_|refine AL.no rfl rfl ?_|(refine hK _ ?_; clear hK)|(clear hK; refine hK _ ?_; clear hK)|(clear hK; clear hK; refine hK _ ?_; clear hK)|refine qa7 qv1 ?_|refine qa7 qv2 ?_|refine qa7 qv3 ?_|refine qa7 (qv4 tok) ?_|refine qa7 (qv5 tok) ?_|refine qa7 qv6 ?_|refine qa7 qv7 ?_|refine qa7 (qv8 tok) ?_|refine qa7 (qv9 tok) ?_|refine qa7 (qv10 tok) ?_|refine qa7 (qv11 tok) ?_|refine qa7 (qv12 tok) ?_|refine qa7 (qv13 tok) ?_|refine qa7 (qv14 tok) ?_|refine qa7 (qv15 tok) ?_|refine qa7 (qv16 tok) ?_|refine qa7 qv17 ?_|refine qa7 (qv18 tok) ?_|refine qa7 qv19 ?_|refine qa7 (qv20 tok) ?_|refine qa7 (qv21 tok) ?_|refine qa7 (qv22 tok) ?_|refine qa7 (qv23 tok) ?_|refine qa7 (qv24 tok) ?_|refine qa7 qv26 ?_|refine qa7 qv27 ?_|refine qa7 (qv28 tok) ?_|refine qa1 tok ?_|refine qa2 tok ?_|refine qa3 tok ?_|refine AL.loadR tok rfl rfl rfl rfl rfl rfl ?_|refine qa4 tok ?_|refine qa5 tok ?_|refine AW.block ?_|refine AW.exit ?_|refine AW.skip ?_)
    refine AW.cond rfl (fun hg => by simp at hg) (fun hg => ?_)
    repeat (first|refine AL.do tok rfl rfl ?_|refine AL.nil ?_|refine AW.seq fun K hK => ?_|refine AW.region ?_|refine AL.no rfl rfl ?_|(refine hK _ ?_; clear hK)|(clear hK; refine hK _ ?_; clear hK)|(clear hK; clear hK; refine hK _ ?_; clear hK)|refine qa7 qv1 ?_|refine qa7 qv2 ?_|refine qa7 qv3 ?_|refine qa7 (qv4 tok) ?_|refine qa7 (qv5 tok) ?_|refine qa7 qv6 ?_|refine qa7 qv7 ?_|refine qa7 (qv8 tok) ?_|refine qa7 (qv9 tok) ?_|refine qa7 (qv10 tok) ?_|refine qa7 (qv11 tok) ?_|refine qa7 (qv12 tok) ?_|refine qa7 (qv13 tok) ?_|refine qa7 (qv14 tok) ?_|refine qa7 (qv15 tok) ?_|refine qa7 (qv16 tok) ?_|refine qa7 qv17 ?_|refine qa7 (qv18 tok) ?_|refine qa7 qv19 ?_|refine qa7 (qv20 tok) ?_|refine qa7 (qv21 tok) ?_|refine qa7 (qv22 tok) ?_|refine qa7 (qv23 tok) ?_|refine qa7 (qv24 tok) ?_|refine qa7 qv26 ?_|refine qa7 qv27 ?_|refine qa7 (qv28 tok) ?_|refine qa1 tok ?_|refine qa2 tok ?_|refine qa3 tok ?_|refine AL.loadR tok rfl rfl rfl rfl rfl rfl ?_|refine qa4 tok ?_|refine qa5 tok ?_|refine AW.block ?_|refine AW.exit ?_|refine AW.skip ?_)
    refine AL.callO rfl rfl rfl rfl rfl hcu (fun xs hxs => ?_)
    subst hxs
    refine AL.frz 3 rfl rfl rfl ?_
    repeat (first|refine AL.do tok rfl rfl ?_|refine AL.nil ?_|refine AW.seq fun K hK => ?_|refine AW.region ?_|refine AL.no rfl rfl ?_|(refine hK _ ?_; clear hK)|(clear hK; refine hK _ ?_; clear hK)|(clear hK; clear hK; refine hK _ ?_; clear hK)|refine qa7 qv1 ?_|refine qa7 qv2 ?_|refine qa7 qv3 ?_|refine qa7 (qv4 tok) ?_|refine qa7 (qv5 tok) ?_|refine qa7 qv6 ?_|refine qa7 qv7 ?_|refine qa7 (qv8 tok) ?_|refine qa7 (qv9 tok) ?_|refine qa7 (qv10 tok) ?_|refine qa7 (qv11 tok) ?_|refine qa7 (qv12 tok) ?_|refine qa7 (qv13 tok) ?_|refine qa7 (qv14 tok) ?_|refine qa7 (qv15 tok) ?_|refine qa7 (qv16 tok) ?_|refine qa7 qv17 ?_|refine qa7 (qv18 tok) ?_|refine qa7 qv19 ?_|refine qa7 (qv20 tok) ?_|refine qa7 (qv21 tok) ?_|refine qa7 (qv22 tok) ?_|refine qa7 (qv23 tok) ?_|refine qa7 (qv24 tok) ?_|refine qa7 qv26 ?_|refine qa7 qv27 ?_|refine qa7 (qv28 tok) ?_|refine qa1 tok ?_|refine qa2 tok ?_|refine qa3 tok ?_|refine AL.loadR tok rfl rfl rfl rfl rfl rfl ?_|refine qa4 tok ?_|refine qa5 tok ?_|refine AW.block ?_|refine AW.exit ?_|refine AW.skip ?_)
    refine AW.ret ?_
    refine ⟨_, .agg [i64 lim, .own (.loc 0), rowI u, i64 la], [⟨75, 11, l.map encF⟩], [2], rfl, ⟨rfl, rfl⟩, rfl, rfl, rfl, by decide, fun k j rw h1 h2 => ?_, .inl rfl⟩
    cases k with
    | zero =>
      simp at h1 h2
      subst h1; subst h2
      rfl
    | succ k => simp at h1
/-- A call of clone, its window's row of the call's own. -/
theorem AL.callW {P : Program} {l rest : List Oper} {Q : Exit → St → Prop} {n d clk : Nat} {T : List (Nat × AV)} {H : List (Nat × Option Blk)} {Hp : List Blk} {x : Operand} {args : Array Operand} {tys : Array TypeId} {ty : TypeId} {pos : String} {aft : Array Edge} {g : Option (Nat × Bool)}
    (hw : wantedA l ⟨some d, .call ⟨.value x, args, tys⟩, ty, pos, aft, g⟩ ⟨n, T, H, Hp, clk⟩ = some true) (hd : Nat.blt d n = true) {f : FuncId} {caps as_ : List AV} (hx : ev ⟨n, T, H, Hp, clk⟩ x = some (.fn f caps))
    (ha : aevs ⟨n, T, H, Hp, clk⟩ args.toList some = some as_) (hpk : (as_ ++ caps).all (pk2 0) = true) {e sz : Nat} {xs : List (List D)} {a b c : D} (hc : ACalls P f (as_ ++ caps) [] fun r _ Hr => r = .agg [.d a, .own (.loc 0), .d b, .d c] ∧ Hr = [⟨e, sz, xs⟩])
    (h : AL P l Q rest ⟨n, (d, .agg [.d a, .own (.loc clk), .d b, .d c]) :: T, (clk, some (.row e sz xs)) :: H, Hp, clk + 1⟩) :
    AL P l Q (⟨some d, .call ⟨.value x, args, tys⟩, ty, pos, aft, g⟩ :: rest) ⟨n, T, H, Hp, clk⟩ :=
  AL.callR hw hd hx ha hpk hc (fun r Hr ⟨h2, h3⟩ => by
    subst h2; subst h3
    exact ⟨rfl, h⟩)
/-- A message of arguments: its texts and lists have room. -/
def OkM (m : Ms) : Prop := m.topic.size ≤ 140737488351232 ∧ m.props.length ≤ 4398046510976
def OkW (w : Wi) : Prop := ∀ f ∈ w.items, OkM f.msg
/-- A valid window. -/
structure GoodW (w : Wi) : Prop where
  l0 : 0 ≤ w.limit
  l1 : w.limit ≤ 32
  pool : Good w.pool
  len : w.items.length ≤ 32
  nodup : (w.items.map (·.id)).Nodup
  ok : ∀ f ∈ w.items, f.id ∈ w.pool.used ∧ restS f = 0
  used : w.pool.used.length ≤ w.items.length
theorem GoodW.small {w : Wi} (h : GoodW w) (ho : OkW w) : SmallW w := ⟨h.len, h.pool.len, fun f hf => (ho f hf).2⟩
def zeroW : Wi := ⟨0, [], zeroP⟩
def zeroK : Pk := ⟨0, 0, false, zeroM⟩
def startedS (w : Wi) (m : Ms) : Wi := ⟨w.limit, w.items ++ [⟨(takeS w.pool).1, 1, m⟩], (takeS w.pool).2.1⟩
def startS (w : Wi) (m : Ms) : Wi × Pk × Int :=
  if m.level = 0 then (zeroW, zeroK, 14) else if w.limit ≤ w.items.length then (zeroW, zeroK, 6) else if checkM m = 0 then (startedS w m, publishS ⟨(takeS w.pool).1, 1, m⟩ false, 0) else (zeroW, zeroK, checkM m)
abbrev startAV (r : Wi × Pk × Int) : AV := .tup [aggW r.1, aggK r.2.1, i64 r.2.2]
theorem app_map (l : List Fl) (f : Fl) : l.map encF ++ [encF f] = (l ++ [f]).map encF := by rw [List.map_append]; rfl
end Go.Proofs.Try
