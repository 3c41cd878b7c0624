/- links: the law LinksOnly. -/
import Derived.Test.YtefhpcaopchhgaaLnkN
import Derived.Test.YtefhpcaopchhgaaWk
set_option linter.unusedSimpArgs false
set_option linter.unusedVariables false
namespace Go.Proofs.Try
open Go Go.AM

set_option maxHeartbeats 4000000 in
set_option maxRecDepth 10000 in
theorem newBad_calls (nn : Int) (h : nn < 1 ∨ 7 < nn) : ACallP Try.prog 7 [i64 nn] (.tup [.d (.one (.pointer none)), i64 1]) := by
  refine ACalls.body tok Try.func7 rfl (by kernel_rfl) (by rw [Try.ntmps7]; simp) ?_
  simp only [Try.ntmps7, Try.results7, argT]
  repeat' (first|refine AL.do tok rfl rfl ?_|refine AL.nil ?_|refine AW.seq fun K hK => ?_|refine AW.region ?_|refine AL.no rfl rfl ?_|(refine hK _ ?_; clear hK)|(clear hK; refine hK _ ?_; clear hK)|(clear hK; clear hK; refine hK _ ?_; clear hK)|refine qaW ?_|refine qa1 tok ?_|refine qa2 tok ?_|refine qa3 tok ?_|refine AL.loadR tok rfl rfl rfl rfl rfl rfl ?_|refine qa4 tok ?_|refine qa5 tok ?_|refine AW.block ?_|refine AW.exit ?_|refine AW.skip ?_|((fail_if_success (refine AL.guard (b := true) rfl rfl ?_ ?_)); (fail_if_success (refine AL.guard (b := false) rfl rfl ?_ ?_)); refine AL.guard rfl rfl (fun hg => ?_) (fun hg => ?_) <;> ((try simp only [DX] at hg) <;> (try first|(exfalso; omega)|exact absurd trivial hg|exact False.elim hg|exact absurd rfl hg)))|refine AW.condT rfl ?_|refine AW.condF rfl ?_|(refine AW.cond rfl (fun hg => ?_) (fun hg => ?_) <;> ((try simp only [DX] at hg) <;> (try first|(exfalso; omega)|exact absurd trivial hg|exact False.elim hg|exact absurd rfl hg))))
  all_goals try (exfalso; omega)
  all_goals
    refine AW.ret ?_
    refine ⟨_, _, _, _, rfl, Out.pure rfl ⟨?_, rfl⟩ rfl⟩
    rfl
section
variable {l rest : List Oper} {Q : Exit → St → Prop} {nn clk : Nat} {T : List (Nat × AV)} {H : List (Nat × Option Blk)} {Hp : List Blk} {x : Operand} {args : Array Operand} {tys : Array TypeId} {ty : TypeId} {pos : String} {aft : Array Edge} {g : Option (Nat × Bool)} {o : Option Tmp}
theorem AL.callArr (i j : AM.Id) (k : Nat) {n n' : Nt} {a a' : List Sn} (hc : ACallArr n a n' a') (hw : wantedA l ⟨o, .call ⟨.value x, args, tys⟩, ty, pos, aft, g⟩ ⟨nn, T, H, Hp, clk⟩ = some true)
    (hx : ev ⟨nn, T, H, Hp, clk⟩ x = some (.fn 16 [])) (ha : aevs ⟨nn, T, H, Hp, clk⟩ args.toList some = some [.ptr i 0, .own j]) (hb : hk ⟨nn, T, H, Hp, clk⟩ i = some (netB n (.own (.loc k)))) (hj : hk ⟨nn, T, H, Hp, clk⟩ j = some (rowS a)) (hkw : hk ⟨nn, T, H, Hp, clk⟩ (.loc k) = some (wayR n).blk)
    (hij : i ≠ j) (hni : .loc k ≠ i) (hnj : .loc k ≠ j) {σ2 σ3 : St} (hset : asetL ⟨nn, T, (clk, some (wayR n').blk) :: (k, none) :: H, Hp, clk + 1⟩ [(i, netB n' (.own (.loc clk))), (j, rowS a')] = some σ2)
    (hput : put σ2 o (bo true) = some σ3) (h : AL Try.prog l Q rest σ3) : AL Try.prog l Q (⟨o, .call ⟨.value x, args, tys⟩, ty, pos, aft, g⟩ :: rest) ⟨nn, T, H, Hp, clk⟩ := by
  refine AL.callX [i, j] [k] hc hw hx ha (by simp only [List.map_cons, List.map_nil, hb, hj, net_map]; rfl) (by simp only [List.map_cons, List.map_nil, hkw]) (by rw [List.all_cons, net_ok _ _ _ (by simp)]; rfl) (by simpa using hij) (by simp) (by simpa using ⟨hni, hnj⟩) rfl rfl (fun r' Hp' Hr hr' => ?_)
  obtain ⟨rfl, rfl, rfl⟩ := hr'
  refine ⟨rfl, rfl, by rw [List.all_cons, net_ok _ _ _ (by simp)]; rfl, σ2, σ3, ?_, hput, h⟩
  simp only [List.map_cons, List.map_nil, net_map, List.zip_cons_cons, List.zip_nil_left]
  exact hset
end
theorem at_int {x : AV} (h : AT ts 3 x) : ∃ n, x = i64 n ∧ -9223372036854775808 ≤ n ∧ n ≤ 9223372036854775807 := by
  obtain ⟨y, rfl, hd⟩ := h
  obtain ⟨n, e, hn⟩ := DT.int_inv rfl hd
  cases e
  simp only [Lit.wf, Bool.and_eq_true, decide_eq_true_eq] at hn
  exact ⟨n, rfl, hn⟩
theorem dt_u {ds : List D} (h : DT ts 5 ds) : ∃ b, ds = encU b ∧ b < 256 := by
  obtain ⟨n, e, hn⟩ := DT.int_inv rfl h
  subst e
  simp only [Lit.wf, Bool.and_eq_true, decide_eq_true_eq] at hn
  have h2 : (0 : Int) ≤ n ∧ n ≤ 255 := hn
  exact ⟨n.toNat, by rw [encU, show ((n.toNat : Nat) : Int) = n by omega], by omega⟩
theorem dt_bytes {d : D} (h : DT ts 29 [d]) : ∃ b : List Nat, d = .row (b.map encU) ∧ (∀ x ∈ b, x < 256) ∧ b.length ≤ 9223372036854775807 := by
  obtain ⟨xs, e, hl, hx⟩ := DT.slice_inv rfl h
  obtain ⟨b, rfl, hb⟩ := list_decode xs (fun x hx' => dt_u (hx x hx'))
  simp at e
  exact ⟨b, e, hb, by rw [List.length_map] at hl; exact hl⟩
theorem dt_Dg {ds : List D} (h : DT ts 31 ds) : ∃ d, ds = encDg d ∧ d.bytes.length ≤ 9223372036854775807 := by
  obtain ⟨hl, hf⟩ := DT.strct_inv rfl h
  match ds, hl with
  | [a, b, c], _ =>
    obtain ⟨n0, q0, _⟩ := DT.int_inv rfl (hf 0 _ _ _ rfl rfl rfl)
    obtain ⟨n1, q1, _⟩ := DT.int_inv rfl (hf 1 _ _ _ rfl rfl rfl)
    obtain ⟨b2, q2, _, hb2⟩ := dt_bytes (hf 2 _ _ _ rfl rfl rfl)
    simp at q0 q1
    exact ⟨⟨n0, n1, b2⟩, by simp [encDg, q0, q1, q2], hb2⟩
theorem dt_On {ds : List D} (h : DT ts 45 ds) : ∃ o, ds = encOn o ∧ True := by
  obtain ⟨hl, hf⟩ := DT.strct_inv rfl h
  match ds, hl with
  | [a, b, c, d0, d1, d2, f0, f1, f2], _ =>
    obtain ⟨n0, q0, _⟩ := DT.int_inv rfl (hf 0 _ _ _ rfl rfl rfl)
    obtain ⟨n1, q1, _⟩ := DT.int_inv rfl (hf 1 _ _ _ rfl rfl rfl)
    obtain ⟨n2, q2, _⟩ := DT.int_inv rfl (hf 2 _ _ _ rfl rfl rfl)
    obtain ⟨d, q3, _⟩ := dt_Dg (hf 3 _ _ _ rfl rfl rfl)
    obtain ⟨hl4, hf4⟩ := DT.strct_inv rfl (hf 4 _ _ _ rfl rfl rfl)
    obtain ⟨n6, q6⟩ := DT.bool_inv rfl (hf4 0 _ _ _ rfl rfl rfl)
    obtain ⟨n7, q7, _⟩ := DT.int_inv rfl (hf4 1 _ _ _ rfl rfl rfl)
    obtain ⟨n8, q8, _⟩ := DT.int_inv rfl (hf4 2 _ _ _ rfl rfl rfl)
    simp [encDg] at q0 q1 q2 q3 q6 q7 q8
    exact ⟨⟨n0, n1, n2, d, ⟨n6, n7, n8⟩⟩, by simp [encOn, q0, q1, q2, q3, q6, q7, q8], trivial⟩
theorem at_On {x : AV} (h : AT ts 41 x) : ∃ l : List Opn, x = rowOn l ∧ l.length ≤ 9223372036854775807 := by
  obtain ⟨y, rfl, hd⟩ := h
  obtain ⟨xs, e, hl, hx⟩ := DT.slice_inv rfl hd
  cases e
  obtain ⟨l, rfl, _⟩ := list_decode xs (fun x hx' => dt_On (hx x hx'))
  exact ⟨l, rfl, by rw [List.length_map] at hl; exact hl⟩
structure OkN (n : Nt) : Prop where
  nodes : n.nodes ≤ 7
  cut : n.cut.length = 49
  len : n.way.length ≤ 4096
theorem OkN.send {n : Nt} (h : OkN n) (d : Dg) (f : Fa) : OkN (sendS n d f) := by
  obtain ⟨h1, h2⟩ := sendS_same n d f
  refine ⟨by rw [h1]; exact h.nodes, by rw [h2]; exact h.cut, ?_⟩
  rcases send_more n d f with ⟨_, _, _, q1, q2, q3, _, e⟩ | ⟨e, _⟩
  · rw [e]
    show (putI _ _ _ _).length ≤ 4096
    rw [putI_len]
    omega
  · rw [e]; exact h.len
theorem OkN.step {n : Nt} (h : OkN n) : OkN (stepS n) := ⟨h.nodes, h.cut, Nat.le_trans (leftS_len _) h.len⟩
theorem OkN.mend {n : Nt} (h : OkN n) (a b : Int) : OkN (mendS n a b) := by
  unfold mendS
  split
  · exact ⟨h.nodes, by simp [h.cut], h.len⟩
  · exact h
theorem OkN.cutC {n : Nt} (h : OkN n) (a b : Int) : OkN (cutS n a b) := by
  unfold cutS
  split
  · exact ⟨h.nodes, by simp [h.cut], Nat.le_trans (List.length_filter_le _ _) h.len⟩
  · exact h
theorem MaxW.okWay {b : Int} {n : Nt} (h : MaxW b n.way) (hn : OkN n) (hb : b ≤ 82) : OkWay n.way := ⟨by have := hn.len; omega, fun x hx => by have := h x hx; omega⟩
end Go.Proofs.Try
