/- A machine over pure data: part 43: what slices.Insert does: rows of known capacity, lengthened in place, or moved. -/
import Derived.Test.YtagdffkagpeomaaAM42
import Derived.Lib.Overlaps
import Derived.Lib.AppendZerosOnto
set_option linter.unusedVariables false
set_option linter.unusedSimpArgs false
namespace Go.AM
open Go Go.RowKit

section
variable {P : Program} {l rest : List Oper} {Q : Exit → St → Prop} {n d clk : Nat} {T : List (Nat × AV)} {H : List (Nat × Option Blk)} {Hp : List Blk} {x y lo hi : Operand} {t t2 ty : TypeId} {tys : Array TypeId} {pos : String} {aft : Array Edge} {g : Option (Nat × Bool)} {ts : List (Nat × TI)}

theorem rowc_back {i e sz C : Nat} {xs : List (List D)} {ρ : Env} {O : Nat → Prop} {w : World} {id : Id} (h : BOK ρ O w id (.rowc e sz xs xs.length C)) : BOK ρ O w id (.row e sz xs) := by
  obtain ⟨g, cur, h1, h2, h3, h4, h5, h6, h7, h8⟩ := h
  have hle : xs.length * sz ≤ C * sz := Nat.mul_le_mul_right _ h5
  refine ⟨_, cur.toList.take (xs.length * sz), h1, ⟨by
    have h9 : cur.toList.length = C * sz := by simpa using h3
    rw [List.length_take, h9]; omega, .inr ⟨g, C, cur, rfl, Nat.zero_le _, h2, h5, h6, h3, rfl⟩⟩, h7, fun j k x d hx hd => ?_⟩
  obtain ⟨u, u1, u2⟩ := h8 j k x d hx hd
  have hj : j < xs.length := (List.getElem?_eq_some_iff.1 hx).1
  have hk : k < sz := by
    have := (List.getElem?_eq_some_iff.1 hd).1
    rw [h7 x (List.mem_of_getElem? hx)] at this
    exact this
  have h9 : (j + 1) * sz ≤ xs.length * sz := Nat.mul_le_mul_right _ (by omega)
  rw [Nat.succ_mul] at h9
  exact ⟨u, by rw [List.getElem?_take, if_pos (by omega), Array.getElem?_toList]; exact u1, u2⟩
/-- A block told otherwise, where it is so. -/
theorem retell {i : Nat} {b b' : Blk} (hi : hk ⟨n, T, H, Hp, clk⟩ (.loc i) = some b) (hb : ∀ ρ O w, BOK ρ O w (.loc i) b → BOK ρ O w (.loc i) b') : Imp ⟨n, T, H, Hp, clk⟩ ⟨n, T, (i, some b') :: H, Hp, clk⟩ := by
  rintro c a w ⟨ρ, O, h⟩
  have hlk : ∀ j bj, hk ⟨n, T, (i, some b') :: H, Hp, clk⟩ j = some bj → (j = .loc i ∧ bj = b') ∨ hk ⟨n, T, H, Hp, clk⟩ j = some bj := by
    intro j bj hj
    cases j with
    | par k => exact .inr hj
    | loc k =>
      by_cases e : i = k
      · subst e
        simp only [hk, lk_cons_self] at hj
        exact .inl ⟨rfl, by cases hj; rfl⟩
      · simp only [hk, lk_cons_ne e] at hj
        exact .inr hj
  have hany : ∀ j bj, hk ⟨n, T, (i, some b') :: H, Hp, clk⟩ j = some bj → ∃ b0, hk ⟨n, T, H, Hp, clk⟩ j = some b0 := fun j bj hj => by
    rcases hlk j bj hj with ⟨rfl, _⟩ | h
    · exact ⟨_, hi⟩
    · exact ⟨_, h⟩
  refine ⟨ρ, O, h.defers, h.n, h.par, h.fresh, h.T, ⟨fun j bj hj => ?_, fun j bj g hj hg => ?_, fun j k bj bk g hj hk' hgj hgk => ?_⟩, h.F⟩
  · rcases hlk j bj hj with ⟨rfl, rfl⟩ | hj
    · exact hb ρ O w (h.H.ok _ _ hi)
    · exact h.H.ok _ _ hj
  · obtain ⟨b0, h0⟩ := hany j bj hj
    exact h.H.own j b0 g h0 hg
  · obtain ⟨b0, h0⟩ := hany j bj hj
    obtain ⟨b1, h1⟩ := hany k bk hk'
    exact h.H.inj j k b0 b1 g h0 h1 hgj hgk
theorem AW.uncap {code : Code} {i e sz C : Nat} {xs : List (List D)} (hi : hk ⟨n, T, H, Hp, clk⟩ (.loc i) = some (.rowc e sz xs xs.length C)) (h : AW P code Q ⟨n, T, (i, some (.row e sz xs)) :: H, Hp, clk⟩) : AW P code Q ⟨n, T, H, Hp, clk⟩ := AW.imp (retell hi fun _ _ _ h => rowc_back (i := i) h) h

/-- cap(x), x a row of the call's own. -/
theorem AL.cap (hT : TOK P ts) (hw : wantedA l ⟨some d, .call ⟨.builtin .cap, #[x], #[t]⟩, ty, pos, aft, g⟩ ⟨n, T, H, Hp, clk⟩ = some true) (hd : Nat.blt d n = true) {i e sz : Nat} {xs : List (List D)} (hx : ev ⟨n, T, H, Hp, clk⟩ x = some (.own (.loc i))) (hi : hk ⟨n, T, H, Hp, clk⟩ (.loc i) = some (.row e sz xs)) (hne : xs ≠ [])
    {e' s b : Nat} {z : List AV} (ht : lk ts t = some ⟨.slice e', s, b, z⟩) (hr : ∀ C : Nat, xs.length ≤ C → C ≤ 9223372036854775807 → AL P l Q rest ⟨n, (d, i64 C) :: T, (i, some (.rowc e sz xs xs.length C)) :: H, Hp, clk⟩) :
    AL P l Q (⟨some d, .call ⟨.builtin .cap, #[x], #[t]⟩, ty, pos, aft, g⟩ :: rest) ⟨n, T, H, Hp, clk⟩ := by
  rintro c a w ⟨ρ, O, hs⟩
  refine wpList_step fun K hK => ?_
  rw [if_pos (wantedA_sound hw ⟨ρ, O, hs⟩)]
  have hxv := ev_sound hs hx
  obtain ⟨v, vs, hv, hown, hxl, hxc⟩ := hs.H.ok (.loc i) _ hi
  rcases hown with ⟨hvl, ⟨_, h0⟩ | ⟨gb, cap, cur, rfl, _, hh, hnc, hcm, hcs, htk⟩⟩
  · exact absurd (List.eq_nil_of_length_eq_zero h0) hne
  have hax : a.eval x = .slice (some ⟨gb, 0, none⟩) xs.length cap := by
    generalize a.eval x = q at hxv
    cases hxv with
    | own _ _ h1 _ => rw [hv] at h1; injection h1 with h1; exact h1.symm
  have hrun : (Builtin.cap_ #[t] ty #[.slice (some ⟨gb, 0, none⟩) xs.length cap]).run P w = .ok (goInt cap) w := by
    simp [Builtin.cap_, run_underlying (und_slice hT ht)]
  unfold Oper.wp
  have hex : (execOp a.eval ⟨some d, .call ⟨.builtin .cap, #[x], #[t]⟩, ty, pos, aft, g⟩).run P w = .ok (.value (goInt cap)) w := by
    simp [execOp, resolve, invoke, builtin, hax, hrun]
  rw [hex]
  have hs2 : SatAt c ⟨n, T, (i, some (.rowc e sz xs xs.length cap)) :: H, Hp, clk⟩ a w ρ O := by
    have hlk : ∀ j bj, hk ⟨n, T, (i, some (.rowc e sz xs xs.length cap)) :: H, Hp, clk⟩ j = some bj → (j = .loc i ∧ bj = .rowc e sz xs xs.length cap) ∨ hk ⟨n, T, H, Hp, clk⟩ j = some bj := by
      intro j bj hj
      cases j with
      | par k => exact .inr hj
      | loc k =>
        by_cases e : i = k
        · subst e
          simp only [hk, lk_cons_self] at hj
          exact .inl ⟨rfl, by cases hj; rfl⟩
        · simp only [hk, lk_cons_ne e] at hj
          exact .inr hj
    have hany : ∀ j bj, hk ⟨n, T, (i, some (.rowc e sz xs xs.length cap)) :: H, Hp, clk⟩ j = some bj → ∃ b0, hk ⟨n, T, H, Hp, clk⟩ j = some b0 := fun j bj hj => by
      rcases hlk j bj hj with ⟨rfl, _⟩ | h
      · exact ⟨_, hi⟩
      · exact ⟨_, h⟩
    refine ⟨hs.defers, hs.n, hs.par, hs.fresh, hs.T, ⟨fun j bj hj => ?_, fun j bj g hj hg => ?_, fun j k bj bk g hj hk' hgj hgk => ?_⟩, hs.F⟩
    · rcases hlk j bj hj with ⟨rfl, rfl⟩ | hj
      · refine ⟨gb, cur, hv, hh, hcs, Nat.le_refl _, hnc, hcm, hxl, fun j k x d hx hd => ?_⟩
        obtain ⟨u, u1, u2⟩ := hxc j k x d hx hd
        rw [← htk, List.getElem?_take] at u1
        split at u1
        · exact ⟨u, by simpa using u1, u2⟩
        · cases u1
      · exact hs.H.ok _ _ hj
    · obtain ⟨b0, h0⟩ := hany j bj hj
      exact hs.H.own j b0 g h0 hg
    · obtain ⟨b0, h0⟩ := hany j bj hj
      obtain ⟨b1, h1⟩ := hany k bk hk'
      exact hs.H.inj j k b0 b1 g h0 h1 hgj hgk
  exact hK _ _ (hr cap hnc hcm c _ w ⟨ρ, O, put_sat hs2 (v := goInt cap) (x := i64 (cap : Int)) (.d _ _ (.one _ rfl)) (by simp [put, hd])⟩)

/-- A part of a row of known capacity. -/
theorem VOp.cutC (hT : TOK P ts) {lo hi : Option Operand} {o : Option Tmp} {σ : St} {id : Id} {e sz L C : Nat} {xs : List (List D)} (hx : ev σ x = some (.own id)) (hid : hk σ id = some (.rowc e sz xs L C))
    {e' s b' : Nat} {z : List AV} (ht : lk ts t = some ⟨.slice e', s, b', z⟩) {ie : TI} (he : lk ts e' = some ie) (hsz : Nat.beq ie.size sz = true) {i j : Nat} (hlo : bnd σ lo 0 = some (i : Int)) (hhi : bnd σ hi (L : Nat) = some (j : Int)) (h1 : i ≤ j) (h2 : j ≤ L) :
    VOp P σ ⟨o, .slice t x lo hi none, ty, pos, aft, g⟩ (.sub id sz i (j - i) true) := by
  refine VOp.mk fun c ac w ρ O hs => ?_
  have hsz := Nat.eq_of_beq_eq_true hsz
  have e1 := ev_sound hs hx
  have hsize := (hT.facts he).sizeOf (P := P)
  obtain ⟨gb, cur, k1, k2, k3, k4, k5, k6, k7, k8⟩ := hs.H.ok id _ hid
  have hv : ac.eval x = .slice (some ⟨gb, 0, none⟩) L C := by
    generalize ac.eval x = q at e1
    cases e1 with
    | own _ _ h1 _ => rw [k1] at h1; injection h1 with h1; exact h1.symm
  have run : ∀ w, (Instr.sliceBounds true L C (lo.map ac.eval) (hi.map ac.eval) none).run P w = .ok (i, j, C) w := by
    intro w
    rcases bnd_sound hs hlo with ⟨rfl, h0⟩ | ⟨k1, hk1⟩ <;> rcases bnd_sound hs hhi with ⟨rfl, h3⟩ | ⟨k2, hk2⟩
    · have : i = 0 := by omega
      have : j = L := by omega
      simp [Instr.sliceBounds, *]
    · have a0 : i = 0 := by omega
      have hjc : j ≤ C := by omega
      have : (0 : Int) ≤ j ∧ (j : Int) ≤ (C : Int) := ⟨by omega, by omega⟩
      simp [Instr.sliceBounds, hk2, Instr.sliceBound, asIntOf, hjc, a0]
    · have a0 : j = L := by omega
      have : (0 : Int) ≤ i ∧ (i : Int) ≤ (L : Int) := ⟨by omega, by omega⟩
      have hil : i ≤ L := by omega
      simp [Instr.sliceBounds, hk1, Instr.sliceBound, asIntOf, hil, a0]
    · have a1 : (0 : Int) ≤ j ∧ (j : Int) ≤ (C : Int) := ⟨by omega, by omega⟩
      have a2 : (0 : Int) ≤ i ∧ (i : Int) ≤ ((Int.toNat (j : Int) : Nat) : Int) := ⟨by omega, by omega⟩
      simp only [Instr.sliceBounds, hk1, hk2, Instr.sliceBound, asIntOf, a1, a2, Option.map_none, Sem.run_bind, Sem.run_pure, Result.andThen_ok, and_self, if_true, Sem.run_ite]
      rfl
  refine ⟨.slice (some ⟨gb, if C = i then 0 else i * sz, none⟩) (j - i) (C - i), fun w' _ => ?_, ?_⟩
  · have hq : Value.slice (some ⟨gb, if C = i then 0 else i * sz, none⟩) (j - i) (C - i) = .slice (if C = i then some ⟨gb, 0, none⟩ else (some (⟨gb, 0, none⟩ : Addr)).map (·.add (i * ie.size))) (j - i) (C - i) := by
      by_cases hci : C = i
      · simp [hci]
      · simp [hci, add_ptr, hsz]
    rw [hq]
    simp only [execOp, hv, Instr.sliceAt, Sem.run_bind, run_underlying (und_slice hT ht), Result.andThen_ok, Instr.slice, Option.map_none, run, hsize, Sem.run_pure]
  · refine .sub _ _ _ _ _ gb L C (C - i) _ k1 (by omega) (by omega) (by omega) (fun _ => by omega) (fun hne => ?_)
    have h5 : C ≠ i := by omega
    rw [if_neg h5]

/-- x[:j], j past its length, within its capacity. -/
theorem AL.ext (hT : TOK P ts) (hw : wantedA l ⟨some d, .slice t x none (some hi) none, ty, pos, aft, g⟩ ⟨n, T, H, Hp, clk⟩ = some true) (hd : Nat.blt d n = true) {i e sz L C : Nat} {xs : List (List D)} (hx : ev ⟨n, T, H, Hp, clk⟩ x = some (.own (.loc i))) (hid : hk ⟨n, T, H, Hp, clk⟩ (.loc i) = some (.rowc e sz xs L C))
    {e' s b' : Nat} {z : List AV} (ht : lk ts t = some ⟨.slice e', s, b', z⟩) {ie : TI} (he : lk ts e' = some ie) {j : Nat} (hhi : bnd ⟨n, T, H, Hp, clk⟩ (some hi) 0 = some (j : Int)) (h1 : L ≤ j) (h2 : j ≤ C)
    (h : AL P l Q rest ⟨n, (d, .own (.loc clk)) :: T, (clk, some (.rowc e sz xs j C)) :: (i, none) :: H, Hp, clk + 1⟩) :
    AL P l Q (⟨some d, .slice t x none (some hi) none, ty, pos, aft, g⟩ :: rest) ⟨n, T, H, Hp, clk⟩ := by
  refine AL.step (σ' := ⟨n, (d, .own (.loc clk)) :: T, (clk, some (.rowc e sz xs j C)) :: (i, none) :: H, Hp, clk + 1⟩) hw ?_ h
  rintro c a w ⟨ρ, O, hs⟩ K Q hK
  have e1 := ev_sound hs hx
  have hsize := (hT.facts he).sizeOf (P := P)
  obtain ⟨gb, cur, k1, k2, k3, k4, k5, k6, k7, k8⟩ := hs.H.ok (.loc i) _ hid
  have hv : a.eval x = .slice (some ⟨gb, 0, none⟩) L C := by
    generalize a.eval x = q at e1
    cases e1 with
    | own _ _ h1 _ => rw [k1] at h1; injection h1 with h1; exact h1.symm
  have run : ∀ w, (Instr.sliceBounds true L C none (some (a.eval hi)) none).run P w = .ok (0, j, C) w := by
    intro w
    rcases bnd_sound hs hhi with ⟨h, _⟩ | ⟨k2, hk2⟩
    · cases h
    simp only [Option.map_some, Option.some.injEq] at hk2
    have : (0 : Int) ≤ j ∧ (j : Int) ≤ (C : Int) := ⟨by omega, by omega⟩
    simp [Instr.sliceBounds, hk2, Instr.sliceBound, asIntOf, h2]
  have hex : (execOp a.eval ⟨some d, .slice t x none (some hi) none, ty, pos, aft, g⟩).run P w = .ok (.value (.slice (some ⟨gb, 0, none⟩) j C)) w := by
    have hq : Value.slice (some ⟨gb, 0, none⟩) j C = .slice (if C = 0 then some ⟨gb, 0, none⟩ else (some (⟨gb, 0, none⟩ : Addr)).map (·.add (0 * ie.size))) (j - 0) (C - 0) := by
      by_cases hci : C = 0
      · simp [hci]
      · simp [hci, add_ptr]
    rw [hq]
    simp only [execOp, hv, Instr.sliceAt, Sem.run_bind, run_underlying (und_slice hT ht), Result.andThen_ok, Instr.slice, Option.map_none, Option.map_some, run, hsize, Sem.run_pure]
  have hO : ∀ k, (O k ∨ (k = w.heap.size ∧ k < w.heap.size)) ↔ O k := fun k => ⟨fun h => h.elim id (fun h => by omega), .inl⟩
  have hsat := rerow_sat hs hid k1 (v1 := .slice (some ⟨gb, 0, none⟩) j C) (w1 := w) (b := .rowc e sz xs j C) (fun g hg => .inl hg) (Nat.le_refl _) (fun _ _ _ => rfl) rfl rfl rfl
    ⟨gb, cur, upd_self _ _ _, k2, k3, by omega, h2, k6, k7, fun j k x d hx hd => by
      obtain ⟨u, u1, u2⟩ := k8 j k x d hx hd
      exact ⟨u, u1, u2.keep ⟨Nat.le_refl _, fun _ _ _ => rfl, fun k hk => .inl ((hO k).1 hk)⟩⟩⟩
  unfold Oper.wp
  rw [hex]
  exact hK _ _ ⟨_, _, put_sat hsat (v := .slice (some ⟨gb, 0, none⟩) j C) (x := .own (.loc clk)) (.own _ _ (upd_self _ _ _) rfl) (by simp [put, hd])⟩
end
end Go.AM
