/- A machine over pure data: part 73: an element of any row, written. -/
import Derived.Test.YtagdffkagpeomaaAM72
set_option linter.unusedVariables false
set_option linter.unusedSimpArgs false
namespace Go.AM
open Go Go.RowKit

section
variable {P : Program} {l rest : List Oper} {Q : Exit → St → Prop} {n d clk : Nat} {T : List (Nat × AV)} {H : List (Nat × Option Blk)} {Hp : List Blk} {x y : Operand} {args : Array Operand} {tys : Array TypeId} {t t2 ty : TypeId} {pos : String} {aft : Array Edge} {g : Option (Nat × Bool)}
theorem AL.storeRP {ts : List (Nat × TI)} (hT : TOK P ts) (hw : wantedA l ⟨none, .store t x y, ty, pos, aft, g⟩ ⟨n, T, H, Hp, clk⟩ = some true) {id : Id} {σ' : St} {e sz j f : Nat} {xs xs' : List (List D)} (hx : ev ⟨n, T, H, Hp, clk⟩ x = some (.rptr id sz j f))
    (hid : hk ⟨n, T, H, Hp, clk⟩ id = some (.row e sz xs)) {el : List D} (hel : xs[j]? = some el) {i : TI} (hi : lk ts t = some i) {v : AV} (hv : ev ⟨n, T, H, Hp, clk⟩ y = some v) {nd : List D} (hnd : toDs (cellsV v) some = some nd) (hl : Nat.beq nd.length i.size = true)
    (hfl : f + nd.length ≤ sz) (hxs' : xs.set j (el.take f ++ nd ++ el.drop (f + nd.length)) = xs')
    (hset : aset ⟨n, T, H, Hp, clk⟩ id (.row e sz xs') = some σ') (h : AL P l Q rest σ') : AL P l Q (⟨none, .store t x y, ty, pos, aft, g⟩ :: rest) ⟨n, T, H, Hp, clk⟩ := by
  refine AL.step (σ' := σ') hw ?_ h
  rintro c a w ⟨ρ, O, hs⟩ K Q hK
  subst hxs'
  have hl := Nat.eq_of_beq_eq_true hl
  have hj : j < xs.length := (List.getElem?_eq_some_iff.1 hel).1
  have hne : xs ≠ [] := fun e => by rw [e] at hel; simp at hel
  obtain ⟨nd', hnd0, hndl, hndc, hndv⟩ := toDs_spec hnd
  cases hnd0
  obtain ⟨hv1, hv2⟩ := (ev_sound hs hv).cells hndc
  obtain ⟨v0, vs0, k1, k2, k3, k4⟩ := hs.H.ok id _ hid
  rcases k2.2 with ⟨_, h5⟩ | ⟨gb, cap, cur, rfl, hbase, hh, hnc, hcm, hcs, htk⟩
  · exact absurd (List.eq_nil_of_length_eq_zero h5) hne
  have hell : el.length = sz := k3 el (List.mem_of_getElem? hel)
  have hxp := ev_sound hs hx
  generalize hq : a.eval x = q at hxp
  cases hxp with
  | rptr _ _ _ _ g' hg =>
    rw [k1] at hg
    simp [vblk] at hg
    subst hg
    have hseg : (j + 1) * sz ≤ xs.length * sz := Nat.mul_le_mul_right _ hj
    have hseg2 : xs.length * sz ≤ cap * sz := Nat.mul_le_mul_right _ hnc
    have hjs : (j + 1) * sz = j * sz + sz := Nat.succ_mul j sz
    obtain ⟨cur', e1, e2, e3⟩ := run_storeSeg (P := P) gb (j * sz + f) e (a.eval y).cells.toList 0 cur w hh (by simp [hv1]; omega) (fun u hu => by
      obtain ⟨k, hk⟩ := List.getElem?_of_mem hu
      have hk' : k < (cellsV v).length := by
        have := (List.getElem?_eq_some_iff.1 hk).1
        rw [← hv1]
        simpa using this
      exact (hv2 k _ u (List.getElem?_eq_getElem hk') (by simpa using hk)).2)
    have hO : O gb := (hs.H.own id _ gb hid (by rw [k1]; rfl)).1
    have hk0 : Keeps O w O (w.setRow gb cur') := ⟨by simp, fun k _ hO' => setRow_other w gb k cur' (fun e => hO' (e ▸ hO)), fun k hk => .inl hk⟩
    have hrun : (Instr.storeAt t (.pointer (some ⟨gb, j * sz + f, none⟩)) (a.eval y)).run P w = .ok () (w.setRow gb cur') := by
      have hsz : (a.eval y).cells.size = i.size := by rw [hv1]; omega
      simp [Instr.storeAt, Instr.sureAddr, storeVar, (hT.facts hi).sizeOf, hsz, e1]
    have hget : ∀ (j' k : Nat) x d, (xs.set j (el.take f ++ nd ++ el.drop (f + nd.length)))[j']? = some x → x[k]? = some d → ∃ u, cur'[j' * sz + k]? = some u ∧ Reads O (w.setRow gb cur') d u := by
      intro j' k x d hx' hd'
      by_cases hjj : j' = j
      · subst hjj
        rw [List.getElem?_set_self hj] at hx'
        cases hx'
        have hkl : k < sz := by
          have := (List.getElem?_eq_some_iff.1 hd').1
          simp only [List.length_append, List.length_take, List.length_drop] at this
          omega
        by_cases hin : f ≤ k ∧ k < f + nd.length
        · have h1 : nd[k - f]? = some d := by
            rw [List.append_assoc, List.getElem?_append_right (by simp; omega), List.getElem?_append_left (by simp; omega)] at hd'
            rw [← hd']; congr 1; simp; omega
          have h2 : k - f < (cellsV v).length := by omega
          have h3 : k - f < (a.eval y).cells.size := by omega
          refine ⟨(a.eval y).cells[k - f], ?_, ?_⟩
          · rw [e3, if_pos (by simp [hv1]; omega)]
            rw [show j' * sz + k - (j' * sz + f + 0) = k - f by omega]
            simp [h3]
          · exact (hndv ρ O w (k - f) _ d _ (List.getElem?_eq_getElem h2) h1 (hv2 (k - f) _ _ (List.getElem?_eq_getElem h2) (by simp [h3])).1).keep hk0
        · have h1 : el[k]? = some d := by
            by_cases hlt : k < f
            · rw [List.append_assoc, List.getElem?_append_left (by simp; omega), List.getElem?_take, if_pos hlt] at hd'
              exact hd'
            · rw [List.getElem?_append_right (by simp; omega), List.getElem?_drop] at hd'
              rw [← hd']; congr 1; simp; omega
          obtain ⟨u, u1, u2⟩ := k4 j' k el d hel h1
          refine ⟨u, ?_, u2.keep hk0⟩
          rw [e3, if_neg (by simp [hv1]; omega)]
          rw [← htk, List.getElem?_take] at u1
          split at u1
          · simpa using u1
          · cases u1
      · rw [List.getElem?_set_ne (Ne.symm hjj)] at hx'
        obtain ⟨u, u1, u2⟩ := k4 j' k x d hx' hd'
        have hkl : k < sz := by
          have := (List.getElem?_eq_some_iff.1 hd').1
          rw [k3 x (List.mem_of_getElem? hx')] at this
          exact this
        refine ⟨u, ?_, u2.keep hk0⟩
        rw [e3, if_neg (by
          simp only [Nat.add_zero, Array.length_toList, hv1]
          rcases Nat.lt_or_gt_of_ne hjj with hlt | hgt
          · have := Nat.mul_le_mul_right sz (show j' + 1 ≤ j from hlt)
            rw [Nat.succ_mul] at this
            omega
          · have := Nat.mul_le_mul_right sz (show j + 1 ≤ j' from hgt)
            omega)]
        rw [← htk, List.getElem?_take] at u1
        split at u1
        · simpa using u1
        · cases u1
    have hlen' : (xs.set j (el.take f ++ nd ++ el.drop (f + nd.length))).length = xs.length := by simp
    have hsat := chg_sat (σ' := σ') (b := .row e sz (xs.set j (el.take f ++ nd ++ el.drop (f + nd.length)))) hs hid hset (g := gb) (w' := w.setRow gb cur') (by rw [k1]; rfl) (fun k hk => setRow_other w gb k cur' hk) (by simp) rfl rfl rfl
      ⟨_, cur'.toList.take (xs.length * sz), k1, ⟨by rw [hlen', List.length_take, show cur'.toList.length = cap * sz by rw [Array.length_toList, e2, hcs]]; exact Nat.min_eq_left hseg2, .inr ⟨gb, cap, cur', by rw [hlen'], hbase, setRow_heap w gb cur cur' e (0, 0) hh, by rw [hlen']; exact hnc, hcm, by rw [e2, hcs], by rw [hlen']⟩⟩, fun x hx' => by
        rcases List.mem_or_eq_of_mem_set hx' with h | h
        · exact k3 x h
        · subst h
          simp
          omega, fun j' k x d hx' hd' => by
        obtain ⟨u, u1, u2⟩ := hget j' k x d hx' hd'
        refine ⟨u, ?_, u2⟩
        have hj' : j' < xs.length := by
          have := (List.getElem?_eq_some_iff.1 hx').1
          simpa using this
        have hxl : x.length = sz := by
          rcases List.mem_or_eq_of_mem_set (List.mem_of_getElem? hx') with h | h
          · exact k3 x h
          · subst h
            simp
            omega
        have hkl : k < sz := by
          have := (List.getElem?_eq_some_iff.1 hd').1
          omega
        have := Nat.mul_le_mul_right sz (show j' + 1 ≤ xs.length from hj')
        rw [Nat.succ_mul] at this
        rw [List.getElem?_take, if_pos (by omega)]
        simpa using u1⟩
    unfold Oper.wp
    simp only [execOp, hq, Sem.run_bind, hrun, Result.andThen_ok, Sem.run_pure]
    exact hK _ _ ⟨ρ, O, hsat⟩
theorem AL.storeRPM {ts : List (Nat × TI)} (hT : TOK P ts) {α : Type} {fn : α → List D} {xs : List α} (c' : α) (hw : wantedA l ⟨none, .store t x y, ty, pos, aft, g⟩ ⟨n, T, H, Hp, clk⟩ = some true) {id : Id} {σ' : St} {e sz j f : Nat} (hx : ev ⟨n, T, H, Hp, clk⟩ x = some (.rptr id sz j f))
    (hid : hk ⟨n, T, H, Hp, clk⟩ id = some (.row e sz (xs.map fn))) (hj : j < xs.length) {i : TI} (hi : lk ts t = some i) {v : AV} (hv : ev ⟨n, T, H, Hp, clk⟩ y = some v) {nd : List D} (hnd : toDs (cellsV v) some = some nd) (hl : Nat.beq nd.length i.size = true)
    (hfl : f + nd.length ≤ sz) (hc : (fn (xs[j]'hj)).take f ++ nd ++ (fn (xs[j]'hj)).drop (f + nd.length) = fn c')
    (hset : aset ⟨n, T, H, Hp, clk⟩ id (.row e sz ((xs.set j c').map fn)) = some σ') (h : AL P l Q rest σ') : AL P l Q (⟨none, .store t x y, ty, pos, aft, g⟩ :: rest) ⟨n, T, H, Hp, clk⟩ :=
  AL.storeRP hT hw hx hid (el := fn (xs[j]'hj)) (by simp [hj]) hi hv hnd hl hfl (by rw [hc, List.map_set]) hset h
end
end Go.AM
