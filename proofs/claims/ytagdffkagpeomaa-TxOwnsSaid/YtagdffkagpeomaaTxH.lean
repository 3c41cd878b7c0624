/- tx: what arguments are. -/
import Derived.Test.YtagdffkagpeomaaTxE
import Derived.Test.YtagdffkagpeomaaWk
set_option linter.unusedSimpArgs false
set_option linter.unusedVariables false
namespace Go.Proofs.Try
open Go Go.AM

theorem dt_Pr {ds : List D} (h : DT ts 45 ds) : ∃ p, ds = encP p ∧ True := by
  obtain ⟨hl, hf⟩ := DT.strct_inv rfl h
  match ds, hl with
  | [a, b], _ =>
    obtain ⟨n0, e0, _⟩ := DT.str_inv rfl (hf 0 _ _ _ rfl rfl rfl)
    obtain ⟨n1, e1, _⟩ := DT.str_inv rfl (hf 1 _ _ _ rfl rfl rfl)
    simp at e0 e1
    exact ⟨⟨n0, n1⟩, by simp [encP, e0, e1], trivial⟩
def OkM (m : Ms) : Prop := m.topic.size ≤ 140737488351232 ∧ m.props.length ≤ 4398046510976
theorem dt_M {ds : List D} (h : DT ts 39 ds) : ∃ m, ds = encM m ∧ OkM m := by
  obtain ⟨hl, hf⟩ := DT.strct_inv rfl h
  match ds, hl with
  | [a, b, c, d, e, f, g, i, j], _ =>
    obtain ⟨n0, e0, h0⟩ := DT.str_invB rfl (hf 0 _ _ _ rfl rfl rfl)
    obtain ⟨n1, e1, _⟩ := DT.str_inv rfl (hf 1 _ _ _ rfl rfl rfl)
    obtain ⟨n2, e2, _⟩ := DT.int_inv rfl (hf 2 _ _ _ rfl rfl rfl)
    obtain ⟨n3, e3⟩ := DT.bool_inv rfl (hf 3 _ _ _ rfl rfl rfl)
    obtain ⟨n4, e4, _⟩ := DT.int_inv rfl (hf 4 _ _ _ rfl rfl rfl)
    obtain ⟨n5, e5, _⟩ := DT.int_inv rfl (hf 5 _ _ _ rfl rfl rfl)
    obtain ⟨n6, e6, _⟩ := DT.str_inv rfl (hf 6 _ _ _ rfl rfl rfl)
    obtain ⟨n7, e7, _⟩ := DT.int_inv rfl (hf 7 _ _ _ rfl rfl rfl)
    obtain ⟨xs, e8, hx, hd⟩ := DT.slice_invB rfl rfl (hf 8 _ _ _ rfl rfl rfl)
    obtain ⟨l, rfl, _⟩ := list_decode xs (fun x hx' => dt_Pr (hd x hx'))
    simp at e0 e1 e2 e3 e4 e5 e6 e7 e8
    rw [List.length_map] at hx
    exact ⟨⟨n0, n1, n2, n3, n4, n5, n6, n7, l⟩, by simp [encM, e0, e1, e2, e3, e4, e5, e6, e7, e8], h0, (by have hx2 : l.length * 32 ≤ 140737488351232 := hx; show l.length ≤ 4398046510976; omega)⟩
theorem dt_S {ds : List D} (h : DT ts 34 ds) : ∃ s : Sp, ds = [.one (.string s.name), .one (.int .i64 s.max), .one (.int .i64 s.ttl), .one (.int .i64 s.att), .one (.string s.dead)] := by
  obtain ⟨hl, hf⟩ := DT.strct_inv rfl h
  match ds, hl with
  | [a, b, c, d, e], _ =>
    obtain ⟨n0, e0, _⟩ := DT.str_inv rfl (hf 0 _ _ _ rfl rfl rfl)
    obtain ⟨n1, e1, _⟩ := DT.int_inv rfl (hf 1 _ _ _ rfl rfl rfl)
    obtain ⟨n2, e2, _⟩ := DT.int_inv rfl (hf 2 _ _ _ rfl rfl rfl)
    obtain ⟨n3, e3, _⟩ := DT.int_inv rfl (hf 3 _ _ _ rfl rfl rfl)
    obtain ⟨n4, e4, _⟩ := DT.str_inv rfl (hf 4 _ _ _ rfl rfl rfl)
    simp at e0 e1 e2 e3 e4
    exact ⟨⟨n0, n1, n2, n3, n4⟩, by simp [e0, e1, e2, e3, e4]⟩
theorem dt_X {ds : List D} (h : DT ts 32 ds) : ∃ x : Ex, ds = [.one (.string x.name), .one (.int .i64 x.kind), .one (.string x.alt)] := by
  obtain ⟨hl, hf⟩ := DT.strct_inv rfl h
  match ds, hl with
  | [a, b, c], _ =>
    obtain ⟨n0, e0, _⟩ := DT.str_inv rfl (hf 0 _ _ _ rfl rfl rfl)
    obtain ⟨n1, e1, _⟩ := DT.int_inv rfl (hf 1 _ _ _ rfl rfl rfl)
    obtain ⟨n2, e2, _⟩ := DT.str_inv rfl (hf 2 _ _ _ rfl rfl rfl)
    simp at e0 e1 e2
    exact ⟨⟨n0, n1, n2⟩, by simp [e0, e1, e2]⟩
theorem dt_B {ds : List D} (h : DT ts 37 ds) : ∃ b : Bi, ds = [.one (.string b.ex), .one (.string b.qu), .one (.string b.key), .one (.bool b.all), .row (b.mtc.map encP)] ∧ b.key.size ≤ 140737488351232 ∧ b.mtc.length ≤ 4398046510976 := by
  obtain ⟨hl, hf⟩ := DT.strct_inv rfl h
  match ds, hl with
  | [a, b, c, d, e], _ =>
    obtain ⟨n0, e0, _⟩ := DT.str_inv rfl (hf 0 _ _ _ rfl rfl rfl)
    obtain ⟨n1, e1, _⟩ := DT.str_inv rfl (hf 1 _ _ _ rfl rfl rfl)
    obtain ⟨n2, e2, h2⟩ := DT.str_invB rfl (hf 2 _ _ _ rfl rfl rfl)
    obtain ⟨n3, e3⟩ := DT.bool_inv rfl (hf 3 _ _ _ rfl rfl rfl)
    obtain ⟨xs, e4, hx, hd⟩ := DT.slice_invB rfl rfl (hf 4 _ _ _ rfl rfl rfl)
    obtain ⟨l, rfl, _⟩ := list_decode xs (fun x hx' => dt_Pr (hd x hx'))
    simp at e0 e1 e2 e3 e4
    rw [List.length_map] at hx
    exact ⟨⟨n0, n1, n2, n3, l⟩, by simp [e0, e1, e2, e3, e4], h2, (by have hx2 : l.length * 32 ≤ 140737488351232 := hx; show l.length ≤ 4398046510976; omega)⟩
set_option maxHeartbeats 4000000 in
theorem dt_R {ds : List D} (h : DT ts 41 ds) : ∃ r, ds = encR r ∧ OkR r := by
  obtain ⟨hl, hf⟩ := DT.strct_inv rfl h
  match ds, hl with
  | [a0, a1, a2, a3, a4, a5, a6, a7, x0, x1, x2, s0, s1, s2, s3, s4, b0, b1, b2, b3, b4, m0, m1, m2, m3, m4, m5, m6, m7, m8], _ =>
    obtain ⟨n0, e0, _⟩ := DT.int_inv rfl (hf 0 _ _ _ rfl rfl rfl)
    obtain ⟨n1, e1, _⟩ := DT.int_inv rfl (hf 1 _ _ _ rfl rfl rfl)
    obtain ⟨n2, e2, _⟩ := DT.int_inv rfl (hf 2 _ _ _ rfl rfl rfl)
    obtain ⟨n3, e3, _⟩ := DT.int_inv rfl (hf 3 _ _ _ rfl rfl rfl)
    obtain ⟨n4, e4, _⟩ := DT.int_inv rfl (hf 4 _ _ _ rfl rfl rfl)
    obtain ⟨n5, e5⟩ := DT.bool_inv rfl (hf 5 _ _ _ rfl rfl rfl)
    obtain ⟨n6, e6, _⟩ := DT.str_inv rfl (hf 6 _ _ _ rfl rfl rfl)
    obtain ⟨n7, e7, h7⟩ := DT.str_invB rfl (hf 7 _ _ _ rfl rfl rfl)
    obtain ⟨x, e8⟩ := dt_X (hf 8 _ _ _ rfl rfl rfl)
    obtain ⟨s, e9⟩ := dt_S (hf 9 _ _ _ rfl rfl rfl)
    obtain ⟨b, e10, hb⟩ := dt_B (hf 10 _ _ _ rfl rfl rfl)
    obtain ⟨m, e11, hm⟩ := dt_M (hf 11 _ _ _ rfl rfl rfl)
    simp [encM] at e0 e1 e2 e3 e4 e5 e6 e7 e8 e9 e10 e11
    exact ⟨⟨n0, n1, n2, n3, n4, n5, n6, n7, x, s, b, m⟩, by simp [encR, e0, e1, e2, e3, e4, e5, e6, e7, e8, e9, e10, e11], h7, hb.1, hb.2, hm.1, hm.2⟩
theorem at_R {x : AV} (h : AT ts 41 x) : ∃ r, x = aggR r ∧ OkR r := by
  obtain ⟨ds, rfl, hd⟩ := h
  obtain ⟨r, rfl, ho⟩ := dt_R hd
  exact ⟨r, rfl, ho⟩
theorem at_Rs {x : AV} (h : AT ts 24 x) : ∃ l, x = rowR l ∧ OkRs l ∧ l.length ≤ 9223372036854775807 := by
  obtain ⟨y, rfl, hd⟩ := h
  obtain ⟨xs, e, hl, hx⟩ := DT.slice_inv rfl hd
  cases e
  obtain ⟨l, rfl, hp⟩ := list_decode xs (fun x hx' => dt_R (hx x hx'))
  exact ⟨l, rfl, hp, by rw [List.length_map] at hl; exact hl⟩
theorem at_T {x : AV} (h : AT ts 26 x) : ∃ t, x = aggT t ∧ OkRs t.reqs := by
  obtain ⟨ds, rfl, hd⟩ := h
  obtain ⟨hl, hf⟩ := DT.strct_inv rfl hd
  match ds, hl with
  | [a, b], _ =>
    obtain ⟨n0, e0⟩ := DT.bool_inv rfl (hf 0 _ _ _ rfl rfl rfl)
    obtain ⟨xs, e1, hx, hd⟩ := DT.slice_inv rfl (hf 1 _ _ _ rfl rfl rfl)
    obtain ⟨l, rfl, hp⟩ := list_decode xs (fun x hx' => dt_R (hd x hx'))
    simp at e0 e1
    subst e0; subst e1
    exact ⟨⟨n0, l⟩, rfl, hp⟩
theorem at_int {x : AV} (h : AT ts 3 x) : ∃ n, x = i64 n ∧ -9223372036854775808 ≤ n ∧ n ≤ 9223372036854775807 := by
  obtain ⟨y, rfl, hd⟩ := h
  obtain ⟨n, e, hn⟩ := DT.int_inv rfl hd
  cases e
  simp only [Lit.wf, Bool.and_eq_true, decide_eq_true_eq] at hn
  exact ⟨n, rfl, hn⟩
theorem at_bool {x : AV} (h : AT ts 4 x) : ∃ b, x = bo b := by
  obtain ⟨y, rfl, hd⟩ := h
  obtain ⟨n, e⟩ := DT.bool_inv rfl hd
  cases e
  exact ⟨n, rfl⟩
theorem at_u8 {x : AV} (h : AT ts 5 x) : ∃ n : Nat, x = .d (.one (.int .u8 n)) ∧ n ≤ 255 := by
  obtain ⟨y, rfl, hd⟩ := h
  obtain ⟨n, e, hn⟩ := DT.int_inv rfl hd
  cases e
  simp only [Lit.wf, Bool.and_eq_true, decide_eq_true_eq] at hn
  have h2 : (0 : Int) ≤ n ∧ n ≤ 255 := hn
  exact ⟨n.toNat, by rw [show ((n.toNat : Nat) : Int) = n by omega], by omega⟩
structure OpT where
  kind : Int
  r : Rq
def encO (o : OpT) : List D := .one (.int .i64 o.kind) :: encR o.r
abbrev rowO (l : List OpT) : AV := .d (.row (l.map encO))
set_option maxHeartbeats 4000000 in
theorem dt_O {ds : List D} (h : DT ts 53 ds) : ∃ o, ds = encO o ∧ OkR o.r := by
  obtain ⟨hl, hf⟩ := DT.strct_inv rfl h
  obtain ⟨a, ds, rfl⟩ : ∃ a ds', ds = a :: ds' := by
    cases ds with
    | nil => cases hl
    | cons a d => exact ⟨a, d, rfl⟩
  obtain ⟨k0, e0, _⟩ := DT.int_inv rfl (hf 0 _ _ _ rfl rfl rfl)
  obtain ⟨r, e1, hr⟩ := dt_R (hf 1 _ _ _ rfl rfl rfl)
  have e1 : ds.take 30 = encR r := e1
  have hl2 : ds.length = 30 := by simpa using hl
  rw [List.take_of_length_le (by omega)] at e1
  simp at e0
  exact ⟨⟨k0, r⟩, by simp [encO, e0, e1], hr⟩
theorem at_O {x : AV} (h : AT ts 50 x) : ∃ l : List OpT, x = rowO l ∧ (∀ o ∈ l, OkR o.r) ∧ l.length ≤ 9223372036854775807 := by
  obtain ⟨y, rfl, hd⟩ := h
  obtain ⟨xs, e, hl, hx⟩ := DT.slice_inv rfl hd
  cases e
  obtain ⟨l, rfl, hp⟩ := list_decode xs (fun x hx' => dt_O (hx x hx'))
  exact ⟨l, rfl, hp, by rw [List.length_map] at hl; exact hl⟩
end Go.Proofs.Try
