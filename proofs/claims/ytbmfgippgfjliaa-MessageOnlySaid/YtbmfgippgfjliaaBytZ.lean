/- Numbers and texts in bytes: what is written is read back; what is read was written: plain laws. -/
import Derived.Test.YtbmfgippgfjliaaBytU
set_option linter.unusedSimpArgs false
set_option linter.unusedVariables false
namespace Go.Proofs.Try
open Go Go.AM

theorem pow7 (i : Nat) : 2 ^ (7 * (i + 1)) = 128 * 2 ^ (7 * i) := by rw [Nat.mul_add, Nat.pow_add, Nat.mul_comm]
theorem pow7_9 {i : Nat} (h : 9 ≤ i) : 9223372036854775808 ≤ 2 ^ (7 * i) := by
  have : 2 ^ 63 ≤ 2 ^ (7 * i) := Nat.pow_le_pow_right (by decide) (by omega)
  omega
theorem getD_drop {b : List Nat} {k : Nat} {x : Nat} {r : List Nat} (h : b.drop k = x :: r) : k < b.length ∧ b.getD k 0 = x ∧ b.drop (k + 1) = r := by
  have hk : k < b.length := by
    rcases Nat.lt_or_ge k b.length with h1 | h1
    · exact h1
    · rw [List.drop_eq_nil_of_le h1] at h; cases h
  rw [List.drop_eq_getElem_cons hk] at h
  injection h with h1 h2
  exact ⟨hk, by rw [List.getD_eq_getElem?_getD, List.getElem?_eq_getElem hk]; exact h1, h2⟩
/-- What is written is read. -/
theorem rdS_at (b : List Nat) (a : Nat) (post : List Nat) : ∀ (f i c v : Nat), f + i = 10 → c < 2 ^ (7 * i) → v * 2 ^ (7 * i) + c < 18446744073709551616 → (0 < i → 0 < v) → b.drop (a + i) = varS v ++ post →
    rdS b a f i c = (numS (c + v * 2 ^ (7 * i)), ((a + i + (varS v).length : Nat) : Int), 0)
  | 0, i, c, v, hi, hc, hv, h0, hd => by
    have h1 := pow7_9 (i := i) (by omega)
    have h2 := h0 (by omega)
    have h3 : 2 ^ (7 * 10) = 128 * 2 ^ (7 * 9) := pow7 9
    have hi' : i = 10 := by omega
    subst hi'
    have : 1 * 2 ^ (7 * 10) ≤ v * 2 ^ (7 * 10) := Nat.mul_le_mul_right _ h2
    have h4 : (2 : Nat) ^ (7 * 10) = 1180591620717411303424 := by decide
    omega
  | f + 1, i, c, v, hi, hc, hv, h0, hd => by
    by_cases hlt : v < 128
    · rw [varS_lt hlt] at hd ⊢
      obtain ⟨e1, e2, e3⟩ := getD_drop hd
      have hm : v % 128 = v := Nat.mod_eq_of_lt hlt
      have h9 : ¬ ((i = 9 ∧ 1 < v) ∨ (0 < i ∧ v = 0)) := by
        rintro (⟨rfl, h⟩ | ⟨h, h'⟩)
        · have : 2 * 2 ^ (7 * 9) ≤ v * 2 ^ (7 * 9) := Nat.mul_le_mul_right _ h
          have h4 : (2 : Nat) ^ (7 * 9) = 9223372036854775808 := by decide
          omega
        · have := h0 h
          omega
      rw [rdS, if_neg (by omega), e2, if_neg h9, if_pos hlt, hm]
      simp
    · rw [varS_ge hlt] at hd ⊢
      obtain ⟨e1, e2, e3⟩ := getD_drop hd
      have hi9 : i ≠ 9 := by
        rintro rfl
        have : 128 * 2 ^ (7 * 9) ≤ v * 2 ^ (7 * 9) := Nat.mul_le_mul_right _ (by omega)
        have h4 : (2 : Nat) ^ (7 * 9) = 9223372036854775808 := by decide
        omega
      have hm : (v % 128 + 128) % 128 = v % 128 := by omega
      rw [rdS, if_neg (by omega), e2, if_neg (by omega), if_neg (by omega), hm]
      have hp := pow7 i
      have hsum : c + v % 128 * 2 ^ (7 * i) + v / 128 * 2 ^ (7 * (i + 1)) = c + v * 2 ^ (7 * i) := by
        rw [hp, show v / 128 * (128 * 2 ^ (7 * i)) = (v / 128 * 128) * 2 ^ (7 * i) by rw [Nat.mul_assoc]]
        have e : v * 2 ^ (7 * i) = (v % 128 + v / 128 * 128) * 2 ^ (7 * i) := by rw [show v % 128 + v / 128 * 128 = v by omega]
        rw [e, Nat.add_mul]
        omega
      have := rdS_at b a post f (i + 1) (c + v % 128 * 2 ^ (7 * i)) (v / 128) (by omega) (sh_next (Nat.mod_lt _ (by decide)) hc) (by omega) (fun _ => by omega) (by rw [show a + (i + 1) = a + i + 1 by omega]; exact e3)
      rw [this, hsum, List.length_cons]
      simp only [Prod.mk.injEq, true_and, and_true]
      omega
theorem rNum_at {all pre post : List Nat} {n : Int} (h : all = pre ++ (nE n ++ post)) (hn : -9223372036854775808 ≤ n ∧ n ≤ 9223372036854775807) : rNum all ((pre.length : Int), 0) = (n, (((pre ++ nE n).length : Nat) : Int), 0) := by
  have hr : numR all pre.length = (n, (((pre ++ nE n).length : Nat) : Int), 0) := by
    have hlen : pre.length ≤ all.length := by rw [h, List.length_append]; omega
    rw [numR, if_neg (by omega), Int.toNat_natCast]
    have hc := codeS_lt hn
    rw [rdS_at all pre.length post 10 0 0 (codeS n) rfl (by decide) (by simpa using hc) (fun h => by omega) (by rw [h]; simp [nE])]
    simp only [Nat.mul_zero, Nat.pow_zero, Nat.mul_one, Nat.zero_add, numS_codeS, List.length_append, nE]
    simp
  rw [rNum, if_pos rfl, hr]
  simp
theorem strN_bytesOf (s : ByteArray) : strN (bytesOf s) = s := by
  unfold strN strOfNums bytesOf
  simp only [List.map_map]
  cases s with
  | mk d =>
    congr 1
    apply Array.toList_inj.1
    simp only [List.toList_toArray]
    refine (List.map_congr_left fun x hx => ?_).trans (List.map_id d.toList)
    simp
theorem rTxt_at {all pre post : List Nat} {s : ByteArray} {limit : Int} (h : all = pre ++ (tE s ++ post)) (hs : (s.size : Int) ≤ limit) (hl : limit ≤ 1000000) : rTxt all limit ((pre.length : Int), 0) = (s, (((pre ++ tE s).length : Nat) : Int), 0) := by
  have h' : all = pre ++ (nE s.size ++ (bytesOf s ++ post)) := by rw [h, tE, nE, List.append_assoc]
  have hnum := rNum_at h' (by omega)
  rw [rNum, if_pos rfl] at hnum
  generalize hr : numR all pre.length = r at hnum
  obtain ⟨n, nx, e⟩ := r
  simp only [Prod.mk.injEq] at hnum
  obtain ⟨rfl, e2, rfl⟩ := hnum
  rw [if_pos rfl] at e2
  subst e2
  have hc : cntR all pre.length limit = ((s.size : Int), (((pre ++ nE s.size).length : Nat) : Int), 0) := by
    unfold cntR
    rw [hr]
    simp only [if_true]
    rw [if_neg (by omega), if_neg (by omega)]
  have hb := bytesOf_len s
  have ht : txtR all pre.length limit = (s, (((pre ++ tE s).length : Nat) : Int), 0) := by
    unfold txtR
    rw [hc]
    simp only [if_true, Int.toNat_natCast]
    rw [if_neg (by rw [h']; simp only [List.length_append]; omega)]
    have e3 : (all.drop (pre ++ nE s.size).length).take s.size = bytesOf s := by
      rw [h', ← List.append_assoc, List.drop_left, ← hb, List.take_left]
    rw [e3, strN_bytesOf]
    simp only [Prod.mk.injEq, true_and, and_true, tE, nE, List.length_append, hb]
    omega
  rw [rTxt, if_pos rfl]
  simp only [ht, if_true]
theorem rdPs_at {all post : List Nat} : ∀ {l : List Pr} {pre : List Nat}, all = pre ++ (propsE l ++ post) → (∀ p ∈ l, p.key.size ≤ 16 ∧ p.value.size ≤ 160) → rdPs all l.length ((pre.length : Int), 0) = (l, (((pre ++ propsE l).length : Nat) : Int), 0)
  | [], pre, h, _ => by simp [rdPs, propsE]
  | p :: l, pre, h, hp => by
    obtain ⟨h1, h2⟩ := hp p List.mem_cons_self
    have a1 : rTxt all 16 ((pre.length : Int), 0) = (p.key, (((pre ++ tE p.key).length : Nat) : Int), 0) := rTxt_at (post := tE p.value ++ (propsE l ++ post)) (by rw [h, propsE]; simp only [List.append_assoc]) (by omega) (by omega)
    have a2 : rTxt all 160 ((((pre ++ tE p.key).length : Nat) : Int), 0) = (p.value, (((pre ++ tE p.key ++ tE p.value).length : Nat) : Int), 0) := rTxt_at (post := propsE l ++ post) (by rw [h, propsE]; simp only [List.append_assoc]) (by omega) (by omega)
    have ih := rdPs_at (all := all) (post := post) (l := l) (pre := pre ++ tE p.key ++ tE p.value) (by rw [h, propsE]; simp only [List.append_assoc]) (fun q hq => hp q (List.mem_cons_of_mem _ hq))
    rw [List.length_cons, rdPs, if_pos rfl, a1]
    simp only
    rw [a2]
    simp only
    rw [ih]
    simp only [propsE, List.append_assoc]
/-- What a valid message is bounded by. -/
structure ValM (m : Ms) : Prop where
  topic : m.topic.size ≤ 64
  payload : m.payload.size ≤ 256
  level : 0 ≤ m.level ∧ m.level ≤ 2
  prio : 0 ≤ m.prio ∧ m.prio ≤ 9
  expires : 0 ≤ m.expires ∧ m.expires ≤ 1099511627776
  sender : m.sender.size ≤ 16
  seq : 0 ≤ m.seq ∧ m.seq ≤ 1099511627776
  few : m.props.length ≤ 8
  props : ∀ p ∈ m.props, p.key.size ≤ 16 ∧ p.value.size ≤ 160
theorem valM {m : Ms} (h : checkM m = 0) : ValM m := by
  unfold checkM at h
  split at h
  · rename_i ht
    split at h
    · cases h
    · split at h
      · cases h
      · split at h
        · cases h
        · split at h
          · cases h
          · split at h
            · cases h
            · rename_i h1 h2 h3 h4 h5
              have hC := canon_iff.1 h
              refine ⟨?_, by omega, by omega, by omega, by omega, ?_, by omega, hC.len, fun p hp => ⟨?_, (hC.ok p hp).2⟩⟩
              · simp only [validT, sizedS, Bool.and_eq_true, decide_eq_true_eq] at ht
                exact ht.1.1.1.1.2
              · by_cases e : m.sender = ⟨#[]⟩
                · rw [e]; decide
                · have : nameS m.sender = true := by
                    cases h6 : nameS m.sender with
                    | true => rfl
                    | false => exact absurd (fun hh => hh.elim e (fun h7 => by rw [h6] at h7; cases h7)) h4
                  simp only [nameS, Bool.and_eq_true, decide_eq_true_eq] at this
                  exact this.1.2
              · have := (hC.ok p hp).1
                simp only [keyS, Bool.and_eq_true, decide_eq_true_eq] at this
                exact this.1.2
  · cases h
theorem valM_ok {m : Ms} (h : ValM m) : PutOk m :=
  ⟨by have := h.topic; omega, by have := h.payload; omega, by have := h.sender; omega, by have := h.level; omega, by have := h.prio; omega, by have := h.expires; omega, by have := h.seq; omega, by have := h.few; omega, fun p hp => by have := h.props p hp; omega⟩
/-- A valid message is read back, whatever stands ahead and behind. -/
theorem take_put {m : Ms} (hm : checkM m = 0) (pre post : List Nat) : takeS (pre ++ putE m ++ post) pre.length = (m, (((pre ++ putE m).length : Nat) : Int), 0) := by
  have hv := valM hm
  have ht := hv.topic
  have hp := hv.payload
  have hs := hv.sender
  have hf := hv.few
  generalize hall : pre ++ putE m ++ post = all
  have e0 : all = pre ++ (tE m.topic ++ (tE m.payload ++ (nE m.level ++ (nE (if m.retain then 1 else 0) ++ (nE m.prio ++ (nE m.expires ++ (tE m.sender ++ (nE m.seq ++ (nE m.props.length ++ (propsE m.props ++ post)))))))))) := by
    rw [← hall, putE, headE]
    simp only [List.append_assoc]
  have a1 : rTxt all 64 ((pre.length : Int), 0) = (m.topic, (((pre ++ tE m.topic).length : Nat) : Int), 0) := rTxt_at e0 (by omega) (by omega)
  generalize hp1 : pre ++ tE m.topic = p1 at a1
  have e1 : all = p1 ++ (tE m.payload ++ (nE m.level ++ (nE (if m.retain then 1 else 0) ++ (nE m.prio ++ (nE m.expires ++ (tE m.sender ++ (nE m.seq ++ (nE m.props.length ++ (propsE m.props ++ post))))))))) := by rw [e0, ← hp1]; simp only [List.append_assoc]
  have a2 : rTxt all 256 ((p1.length : Int), 0) = (m.payload, (((p1 ++ tE m.payload).length : Nat) : Int), 0) := rTxt_at e1 (by omega) (by omega)
  generalize hp2 : p1 ++ tE m.payload = p2 at a2
  have e2 : all = p2 ++ (nE m.level ++ (nE (if m.retain then 1 else 0) ++ (nE m.prio ++ (nE m.expires ++ (tE m.sender ++ (nE m.seq ++ (nE m.props.length ++ (propsE m.props ++ post)))))))) := by rw [e1, ← hp2]; simp only [List.append_assoc]
  have a3 := rNum_at e2 (by have := hv.level; omega)
  generalize hp3 : p2 ++ nE m.level = p3 at a3
  have e3 : all = p3 ++ (nE (if m.retain then 1 else 0) ++ (nE m.prio ++ (nE m.expires ++ (tE m.sender ++ (nE m.seq ++ (nE m.props.length ++ (propsE m.props ++ post))))))) := by rw [e2, ← hp3]; simp only [List.append_assoc]
  have a4 := rNum_at e3 (by split <;> decide)
  generalize hp4 : p3 ++ nE (if m.retain then 1 else 0) = p4 at a4
  have e4 : all = p4 ++ (nE m.prio ++ (nE m.expires ++ (tE m.sender ++ (nE m.seq ++ (nE m.props.length ++ (propsE m.props ++ post)))))) := by rw [e3, ← hp4]; simp only [List.append_assoc]
  have a5 := rNum_at e4 (by have := hv.prio; omega)
  generalize hp5 : p4 ++ nE m.prio = p5 at a5
  have e5 : all = p5 ++ (nE m.expires ++ (tE m.sender ++ (nE m.seq ++ (nE m.props.length ++ (propsE m.props ++ post))))) := by rw [e4, ← hp5]; simp only [List.append_assoc]
  have a6 := rNum_at e5 (by have := hv.expires; omega)
  generalize hp6 : p5 ++ nE m.expires = p6 at a6
  have e6 : all = p6 ++ (tE m.sender ++ (nE m.seq ++ (nE m.props.length ++ (propsE m.props ++ post)))) := by rw [e5, ← hp6]; simp only [List.append_assoc]
  have a7 : rTxt all 16 ((p6.length : Int), 0) = (m.sender, (((p6 ++ tE m.sender).length : Nat) : Int), 0) := rTxt_at e6 (by omega) (by omega)
  generalize hp7 : p6 ++ tE m.sender = p7 at a7
  have e7 : all = p7 ++ (nE m.seq ++ (nE m.props.length ++ (propsE m.props ++ post))) := by rw [e6, ← hp7]; simp only [List.append_assoc]
  have a8 := rNum_at e7 (by have := hv.seq; omega)
  generalize hp8 : p7 ++ nE m.seq = p8 at a8
  have e8 : all = p8 ++ (nE m.props.length ++ (propsE m.props ++ post)) := by rw [e7, ← hp8]; simp only [List.append_assoc]
  have a9 := rNum_at e8 (by omega)
  generalize hp9 : p8 ++ nE m.props.length = p9 at a9
  have e9 : all = p9 ++ (propsE m.props ++ post) := by rw [e8, ← hp9]; simp only [List.append_assoc]
  have a10 := rdPs_at e9 hv.props
  have hlen : (((pre ++ putE m).length : Nat) : Int) = (((p9 ++ propsE m.props).length : Nat) : Int) := by
    rw [← hp9, ← hp8, ← hp7, ← hp6, ← hp5, ← hp4, ← hp3, ← hp2, ← hp1, putE, headE]
    simp only [List.append_assoc]
  have m1 : mustR (is01 (if m.retain then 1 else 0) 1) 2 ((p4.length : Int), 0) = ((p4.length : Int), 0) := by
    unfold mustR is01
    cases m.retain <;> simp
  have m2 : mustR (decide ((m.props.length : Int) ≤ 8)) 5 (mustR (decide (0 ≤ (m.props.length : Int))) 2 ((p9.length : Int), 0)) = ((p9.length : Int), 0) := by
    have h1 : (m.props.length : Int) ≤ 8 := by omega
    simp [mustR, h1]
  have m3 : decide ((if m.retain then (1 : Int) else 0) = 1) = m.retain := by cases m.retain <;> rfl
  have hfin : finR m ((((p9 ++ propsE m.props).length : Nat) : Int), 0) = (m, (((p9 ++ propsE m.props).length : Nat) : Int), 0) := by
    simp [finR, hm]
  unfold takeS
  simp only [a1, a2, a3, a4, m1, a5, a6, a7, a8, a9, m2, Int.toNat_natCast, a10, m3]
  rw [hlen]
  exact hfin
end Go.Proofs.Try
