/- inflight: the chapter's example; what arguments are. -/
import Derived.Test.YtkpodhdjifnigaaInflO
import Derived.Test.YtkpodhdjifnigaaAM49
set_option linter.unusedSimpArgs false
set_option linter.unusedVariables false
namespace Go.Proofs.Try
open Go Go.AM

theorem dt_Pr {ds : List D} (h : DT ts 97 ds) : ∃ p, ds = encP p ∧ True := by
  obtain ⟨hl, hf⟩ := DT.strct_inv rfl h
  match ds, hl with
  | [a, b], _ =>
    obtain ⟨n0, e0, _⟩ := DT.str_inv rfl (hf 0 _ _ _ rfl rfl rfl)
    obtain ⟨n1, e1, _⟩ := DT.str_inv rfl (hf 1 _ _ _ rfl rfl rfl)
    simp at e0 e1
    exact ⟨⟨n0, n1⟩, by simp [encP, e0, e1], trivial⟩
theorem dt_M {ds : List D} (h : DT ts 30 ds) : ∃ m, ds = encM m ∧ OkM m := by
  obtain ⟨hl, hf⟩ := DT.strct_inv rfl h
  match ds, hl with
  | [a, b, c, d, e, f, g, i, j], _ =>
    obtain ⟨n0, e0, h0⟩ := DT.str_invB rfl (hf 0 _ _ _ rfl rfl rfl)
    obtain ⟨n1, e1, _⟩ := DT.str_inv rfl (hf 1 _ _ _ rfl rfl rfl)
    obtain ⟨n2, e2, _⟩ := DT.int_inv rfl (hf 2 _ _ _ rfl rfl rfl)
    obtain ⟨n3, e3⟩ := DT.bool_inv rfl (hf 3 _ _ _ rfl rfl rfl)
    obtain ⟨n4, e4, _⟩ := DT.int_inv rfl (hf 4 _ _ _ rfl rfl rfl)
    obtain ⟨n5, e5, _⟩ := DT.int_inv rfl (hf 5 _ _ _ rfl rfl rfl)
    obtain ⟨n6, e6, _⟩ := DT.str_inv rfl (hf 6 _ _ _ rfl rfl rfl)
    obtain ⟨n7, e7, _⟩ := DT.int_inv rfl (hf 7 _ _ _ rfl rfl rfl)
    obtain ⟨xs, e8, hx, hd⟩ := DT.slice_invB rfl rfl (hf 8 _ _ _ rfl rfl rfl)
    obtain ⟨l, rfl, _⟩ := list_decode xs (fun x hx' => dt_Pr (hd x hx'))
    simp at e0 e1 e2 e3 e4 e5 e6 e7 e8
    rw [List.length_map] at hx
    exact ⟨⟨n0, n1, n2, n3, n4, n5, n6, n7, l⟩, by simp [encM, e0, e1, e2, e3, e4, e5, e6, e7, e8], h0, (by have hx2 : l.length * 32 ≤ 140737488351232 := hx; show l.length ≤ 4398046510976; omega)⟩
theorem at_M {x : AV} (h : AT ts 30 x) : ∃ m, x = aggM m ∧ OkM m := by
  obtain ⟨ds, rfl, hd⟩ := h
  obtain ⟨m, rfl, hm⟩ := dt_M hd
  exact ⟨m, rfl, hm⟩
theorem dt_F {ds : List D} (h : DT ts 75 ds) : ∃ f, ds = encF f ∧ OkM f.msg := by
  obtain ⟨hl, hf⟩ := DT.strct_inv rfl h
  match ds, hl with
  | [a, b, m0, m1, m2, m3, m4, m5, m6, m7, m8], _ =>
    obtain ⟨n0, e0, _⟩ := DT.int_inv rfl (hf 0 _ _ _ rfl rfl rfl)
    obtain ⟨n1, e1, _⟩ := DT.int_inv rfl (hf 1 _ _ _ rfl rfl rfl)
    obtain ⟨m, e2, hm⟩ := dt_M (hf 2 _ _ _ rfl rfl rfl)
    simp [encM] at e0 e1 e2
    exact ⟨⟨n0, n1, m⟩, by simp [encF, e0, e1, e2], hm⟩
theorem dt_Po {ds : List D} (h : DT ts 25 ds) : ∃ p : Po, ds = [.row (p.used.map encI), .one (.int .i64 p.last)] := by
  obtain ⟨hl, hf⟩ := DT.strct_inv rfl h
  match ds, hl with
  | [a, b], _ =>
    obtain ⟨xs, e0, hx, hd⟩ := DT.slice_inv rfl (hf 0 _ _ _ rfl rfl rfl)
    obtain ⟨n1, e1, _⟩ := DT.int_inv rfl (hf 1 _ _ _ rfl rfl rfl)
    obtain ⟨l, rfl, _⟩ := list_decode (p := fun _ => True) (e := encI) xs (fun x hx' => by
      obtain ⟨n, e, _⟩ := DT.int_inv rfl (hd x hx')
      exact ⟨n, e, trivial⟩)
    simp at e0 e1
    exact ⟨⟨l, n1⟩, by simp [e0, e1]⟩
theorem at_W {x : AV} (h : AT ts 27 x) : ∃ w, x = aggW w ∧ OkW w := by
  obtain ⟨ds, rfl, hd⟩ := h
  obtain ⟨hl, hf⟩ := DT.strct_inv rfl hd
  match ds, hl with
  | [a, b, c, d], _ =>
    obtain ⟨n0, e0, _⟩ := DT.int_inv rfl (hf 0 _ _ _ rfl rfl rfl)
    obtain ⟨xs, e1, hx, hd⟩ := DT.slice_inv rfl (hf 1 _ _ _ rfl rfl rfl)
    obtain ⟨p, e2⟩ := dt_Po (hf 2 _ _ _ rfl rfl rfl)
    obtain ⟨l, rfl, hp⟩ := list_decode xs (fun x hx' => dt_F (hd x hx'))
    simp at e0 e1 e2
    obtain ⟨e2, e3⟩ := e2
    subst e0; subst e1; subst e2; subst e3
    exact ⟨⟨n0, l, p⟩, rfl, hp⟩
theorem dt_O {ds : List D} (h : DT ts 64 ds) : ∃ o, ds = encO o ∧ OkM o.msg ∧ -9223372036854775808 ≤ o.id := by
  obtain ⟨hl, hf⟩ := DT.strct_inv rfl h
  match ds, hl with
  | [a, b, m0, m1, m2, m3, m4, m5, m6, m7, m8], _ =>
    obtain ⟨n0, e0, _⟩ := DT.int_inv rfl (hf 0 _ _ _ rfl rfl rfl)
    obtain ⟨n1, e1, h1⟩ := DT.int_inv rfl (hf 1 _ _ _ rfl rfl rfl)
    obtain ⟨m, e2, hm⟩ := dt_M (hf 2 _ _ _ rfl rfl rfl)
    simp only [Lit.wf, Bool.and_eq_true, decide_eq_true_eq] at h1
    simp [encM] at e0 e1 e2
    exact ⟨⟨n0, n1, m⟩, by simp [encO, e0, e1, e2], hm, h1.1⟩
theorem at_O {x : AV} (h : AT ts 56 x) : ∃ l : List OpI, x = rowO l ∧ (∀ o ∈ l, OkM o.msg ∧ -9223372036854775808 ≤ o.id) ∧ l.length ≤ 9223372036854775807 := by
  obtain ⟨y, rfl, hd⟩ := h
  obtain ⟨xs, e, hl, hx⟩ := DT.slice_inv rfl hd
  cases e
  obtain ⟨l, rfl, hp⟩ := list_decode xs (fun x hx' => dt_O (hx x hx'))
  exact ⟨l, rfl, hp, by rw [List.length_map] at hl; exact hl⟩
theorem at_int {x : AV} (h : AT ts 3 x) : ∃ n, x = i64 n ∧ -9223372036854775808 ≤ n ∧ n ≤ 9223372036854775807 := by
  obtain ⟨y, rfl, hd⟩ := h
  obtain ⟨n, e, hn⟩ := DT.int_inv rfl hd
  cases e
  simp only [Lit.wf, Bool.and_eq_true, decide_eq_true_eq] at hn
  exact ⟨n, rfl, hn⟩
theorem at_K {x : AV} (h : AT ts 39 x) : ∃ k q r, x = aggQ k q r := by
  obtain ⟨ds, rfl, hd⟩ := h
  obtain ⟨hl, hf⟩ := DT.strct_inv rfl hd
  match ds, hl with
  | a0 :: a1 :: a2 :: a3 :: a4 :: a5 :: a6 :: a7 :: a8 :: a9 :: a10 :: a11 :: a12 :: a13 :: a14 :: a15 :: a16 :: a17 :: a18 :: a19 :: a20 :: a21 :: a22 :: a23 :: a24 :: a25 :: a26 :: a27 :: a28 :: a29 :: a30 :: a31 :: a32 :: a33 :: [], _ =>
    obtain ⟨n0, e0, _⟩ := DT.int_inv rfl (hf 0 _ _ _ rfl rfl rfl)
    obtain ⟨n1, e1, _⟩ := DT.int_inv rfl (hf 1 _ _ _ rfl rfl rfl)
    simp at e0 e1
    subst e0; subst e1
    exact ⟨n0, n1, ⟨a2, a3, a4, a5, a6, a7, a8, a9, a10, a11, a12, a13, a14, a15, a16, a17, a18, a19, a20, a21, a22, a23, a24, a25, a26, a27, a28, a29, a30, a31, a32, a33⟩, rfl⟩

def exM : Ms := ⟨⟨#[116]⟩, ⟨#[]⟩, 2, false, 0, 0, ⟨#[]⟩, 0, []⟩
def exW1 : Wi := ⟨2, [], zeroP⟩
def exW2 : Wi := ⟨2, [⟨1, 1, exM⟩], ⟨[1], 1⟩⟩
def exW3 : Wi := ⟨2, [⟨1, 2, exM⟩], ⟨[1], 1⟩⟩
def exW4 : Wi := ⟨2, [], ⟨[], 1⟩⟩
theorem exOk (p : Po) (n s : Int) : OkW ⟨2, [⟨n, s, exM⟩], p⟩ := by
  intro f hf
  simp only [List.mem_singleton] at hf
  subst hf
  show OkM exM
  exact ⟨by decide, by decide⟩
set_option maxHeartbeats 16000000 in
set_option maxRecDepth 10000 in
theorem awake_calls : ACallP Try.prog 11 [] (bo true) := by
  have g1 : GoodW exW1 := goodW_iff.1 (by decide +kernel)
  have g2 : GoodW exW2 := goodW_iff.1 (by decide +kernel)
  have g3 : GoodW exW3 := goodW_iff.1 (by decide +kernel)
  have n1 : ACallP Try.prog 30 [i64 2] (aggW exW1) := new_calls 2
  have a1 : ACallP Try.prog 12 [aggW exW1, .agg [st ⟨#[116]⟩, st ⟨#[]⟩, i64 2, bo false, i64 0, i64 0, st ⟨#[]⟩, i64 0, .nilrow]] (startAV (exW2, publishS ⟨1, 1, exM⟩ false, 0)) := by
    have h := start_calls exW1 exM g1 (fun f hf => by simp [exW1] at hf) ⟨by decide, by decide⟩
    rw [show startS exW1 exM = (exW2, publishS ⟨1, 1, exM⟩ false, 0) by kernel_rfl] at h
    exact h.nilA rfl
  have a2 : ACallP Try.prog 16 [aggW exW2, aggQ0 5 1] (handleAV (exW3, [pubrelS 1], 0)) := by
    have h := handle0_calls exW2 5 1 g2 (exOk _ _ _)
    rwa [show handleS exW2 5 1 = (exW3, [pubrelS 1], 0) by kernel_rfl] at h
  have a3 : ACallP Try.prog 16 [aggW exW3, aggQ0 7 1] (handleAV (exW4, [], 0)) := by
    have h := handle0_calls exW3 7 1 g3 (exOk _ _ _)
    rwa [show handleS exW3 7 1 = (exW4, [], 0) by kernel_rfl] at h
  have r1 : ACallP Try.prog 24 [aggW exW3] (rowK [pubrelS 1]) := resend_calls exW3 (by decide) (exOk _ _ _)
  have l1 : ACallP Try.prog 22 [aggW exW3] (i64 1) := wleft_calls exW3 (by decide) (by decide) (by decide)
  have l2 : ACallP Try.prog 22 [aggW exW4] (i64 2) := wleft_calls exW4 (by decide) (by decide) (by decide)
  have m1 : ACallP Try.prog 19 [aggW exW3] (rowM [exM]) := messages_calls exW3 (by decide) (exOk _ _ _)
  refine ACalls.body tok Try.func11 rfl (by kernel_rfl) (by rw [Try.ntmps11]; simp) ?_
  simp only [Try.ntmps11, Try.results11, argT]
  repeat' (first|refine AL.do tok rfl rfl ?_|refine AL.nil ?_|refine AW.seq fun K hK => ?_|refine AW.region ?_|refine AL.no rfl rfl ?_|(refine hK _ ?_; clear hK)|(clear hK; refine hK _ ?_; clear hK)|(clear hK; clear hK; refine hK _ ?_; clear hK)|refine qa7 qv1 ?_|refine qa7 qv2 ?_|refine qa7 qv3 ?_|refine qa7 (qv4 tok) ?_|refine qa7 (qv5 tok) ?_|refine qa7 qv6 ?_|refine qa7 qv7 ?_|refine qa7 (qv8 tok) ?_|refine qa7 (qv9 tok) ?_|refine qa7 (qv10 tok) ?_|refine qa7 (qv11 tok) ?_|refine qa7 (qv12 tok) ?_|refine qa7 (qv13 tok) ?_|refine qa7 (qv14 tok) ?_|refine qa7 (qv15 tok) ?_|refine qa7 (qv16 tok) ?_|refine qa7 qv17 ?_|refine qa7 (qv18 tok) ?_|refine qa7 qv19 ?_|refine qa7 (qv20 tok) ?_|refine qa7 (qv21 tok) ?_|refine qa7 (qv22 tok) ?_|refine qa7 (qv23 tok) ?_|refine qa7 (qv24 tok) ?_|refine qa7 qv26 ?_|refine qa7 qv27 ?_|refine qa7 (qv28 tok) ?_|refine qa1 tok ?_|refine qa2 tok ?_|refine qa3 tok ?_|refine AL.loadR tok rfl rfl rfl rfl rfl rfl ?_|refine qa4 tok ?_|refine qa5 tok ?_|refine AW.block ?_|refine AW.exit ?_|refine AW.skip ?_|refine qc1 (n1 ..) ?_|refine qc2 (n1 ..) ?_|refine qc1 (a1 ..) ?_|refine qc2 (a1 ..) ?_|refine qc1 (a2 ..) ?_|refine qc2 (a2 ..) ?_|refine qc1 (a3 ..) ?_|refine qc2 (a3 ..) ?_|refine qc1 (r1 ..) ?_|refine qc2 (r1 ..) ?_|refine qc1 (l1 ..) ?_|refine qc2 (l1 ..) ?_|refine qc1 (l2 ..) ?_|refine qc2 (l2 ..) ?_|refine qc1 (m1 ..) ?_|refine qc2 (m1 ..) ?_|((fail_if_success (refine AL.guard (b := true) rfl rfl ?_ ?_)); (fail_if_success (refine AL.guard (b := false) rfl rfl ?_ ?_)); refine AL.guard rfl rfl (fun hg => ?_) (fun hg => ?_) <;> ((try simp only [DX] at hg) <;> (try first|(exfalso; omega)|exact absurd trivial hg|exact False.elim hg|exact absurd rfl hg)))|refine AW.condT rfl ?_|refine AW.condF rfl ?_|(refine AW.cond rfl (fun hg => ?_) (fun hg => ?_) <;> ((try simp only [DX] at hg) <;> (try first|(exfalso; omega)|exact absurd trivial hg|exact False.elim hg|exact absurd rfl hg))))
  all_goals
    refine AW.ret ?_
    refine ⟨_, _, _, _, rfl, Out.pure rfl ⟨?_, rfl⟩ rfl⟩
    rfl
end Go.Proofs.Try
