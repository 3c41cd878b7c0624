/- A machine over pure data: part 22: more comparisons; the smaller, the greater; a row's element written; a call's rows handed back as data. -/
import Derived.Test.YtpohebmofcdeiaaAM21
namespace Go.AM
open Go Go.RowKit

section
variable {P : Program} {l rest : List Oper} {Q : Exit → St → Prop} {n d clk : Nat} {T : List (Nat × AV)} {H : List (Nat × Option Blk)} {Hp : List Blk} {x y : Operand} {args : Array Operand} {tys : Array TypeId} {t t2 ty : TypeId} {pos : String} {aft : Array Edge} {g : Option (Nat × Bool)}

theorem VOp.neq {ts : List (Nat × TI)} (hT : TOK P ts) {o : Option Tmp} {σ : St} {vx vy : AV} (hx : ev σ x = some vx) (hy : ev σ y = some vy) {b : Bool} (h : aeq ts t vx vy some = some b) (hE : eqOK P t = true) : VOp P σ ⟨o, .binOp .neq t x y t2, ty, pos, aft, g⟩ (bo (!b)) := by
  refine VOp.mk fun c ac w ρ O hs => ?_
  obtain ⟨b', e1, e2⟩ := aeq_run hT hE h (ev_sound hs hx) (ev_sound hs hy) x y .neq
  cases e1
  refine ⟨.bool (!b), fun w' _ => ?_, .d _ _ (.one _ rfl)⟩
  obtain ⟨f1, f2, f3, f4, f5, f6⟩ := e2 w'
  have hb : (binOp .neq t (ac.eval x) (ac.eval y)).run P w' = .ok (.bool (!b)) w' := by
    unfold binOp
    split <;> first | (exfalso; simp_all; done) | skip
    all_goals first
      | (rename_i hq; exact absurd hq (f3 _ _))
      | simp_all
  simp only [execOp]
  rw [Sem.run_bind, Sem.run_bind, f1]
  simp only [Result.andThen_ok, hb]
  rfl
theorem AL.eq {ts : List (Nat × TI)} (hT : TOK P ts) (hw : wantedA l ⟨some d, .binOp .eql t x y t2, ty, pos, aft, g⟩ ⟨n, T, H, Hp, clk⟩ = some true) (hd : Nat.blt d n = true) {vx vy : AV} (hx : ev ⟨n, T, H, Hp, clk⟩ x = some vx) (hy : ev ⟨n, T, H, Hp, clk⟩ y = some vy) {b : Bool} (h : aeq ts t vx vy some = some b) (hE : eqOK P t = true)
    (hr : AL P l Q rest ⟨n, (d, bo b) :: T, H, Hp, clk⟩) : AL P l Q (⟨some d, .binOp .eql t x y t2, ty, pos, aft, g⟩ :: rest) ⟨n, T, H, Hp, clk⟩ := AL.v hw hd (.eq hT hx hy h hE) hr
theorem AL.neq {ts : List (Nat × TI)} (hT : TOK P ts) (hw : wantedA l ⟨some d, .binOp .neq t x y t2, ty, pos, aft, g⟩ ⟨n, T, H, Hp, clk⟩ = some true) (hd : Nat.blt d n = true) {vx vy : AV} (hx : ev ⟨n, T, H, Hp, clk⟩ x = some vx) (hy : ev ⟨n, T, H, Hp, clk⟩ y = some vy) {b : Bool} (h : aeq ts t vx vy some = some b) (hE : eqOK P t = true)
    (hr : AL P l Q rest ⟨n, (d, bo (!b)) :: T, H, Hp, clk⟩) : AL P l Q (⟨some d, .binOp .neq t x y t2, ty, pos, aft, g⟩ :: rest) ⟨n, T, H, Hp, clk⟩ := AL.v hw hd (.neq hT hx hy h hE) hr

/-! ### a slice, asked for nil -/
theorem run_equalIn_slice_nil' (w : World) (d : Nat) {e : TypeId} (v : Option Addr) (n c : Nat) (h : P.underlying t = some (.slice e)) : (Op.equalIn (d + 1) t (.slice v n c) (.slice none 0 0)).run P w = .ok v.isNone w := by
  cases v <;> simp [Op.equalIn, run_underlying h]
theorem run_eq_slice_nil (w : World) {e : TypeId} (v : Option Addr) (n c : Nat) (h : P.underlying t = some (.slice e)) (ox oy : Operand) :
    (do eqGuard .eql t ox oy (.slice v n c) (.slice none 0 0); binOp .eql t (.slice v n c) (.slice none 0 0) : Sem Value).run P w = .ok (.bool v.isNone) w ∧
    (do eqGuard .neq t ox oy (.slice v n c) (.slice none 0 0); binOp .neq t (.slice v n c) (.slice none 0 0) : Sem Value).run P w = .ok (.bool (!v.isNone)) w := by
  have h1 := run_equalIn_slice_nil' (P := P) w 9999 v n c h
  have h2 : (Op.equal t (.slice v n c) (.slice none 0 0)).run P w = .ok v.isNone w := h1
  constructor
  · have hg : (eqGuard .eql t ox oy (.slice v n c) (.slice none 0 0)).run P w = .ok () w := by simp [eqGuard]
    rw [Sem.run_bind, hg]
    simp only [Result.andThen_ok, binOp, Sem.run_bind, h2, Sem.run_pure]
  · have hg : (eqGuard .neq t ox oy (.slice v n c) (.slice none 0 0)).run P w = .ok () w := by simp [eqGuard]
    rw [Sem.run_bind, hg]
    simp only [Result.andThen_ok, binOp, Sem.run_bind, h2, Sem.run_pure]
theorem nil_eval {c : Ctx} {σ : St} {a : Act} {w : World} {ρ : Env} {O : Nat → Prop} (hs : SatAt c σ a w ρ O) (hy : ev σ y = some .nilrow) : a.eval y = .slice none 0 0 := by
  have h := ev_sound hs hy
  generalize a.eval y = q at h
  cases h
  rfl
theorem row_nil {w : World} {xs : List (List D)} {v : Value} (hv : Reads (fun _ => False) w (.row xs) v) : ∃ A n c, v = .slice A n c ∧ (A.isNone = true → xs = []) := by
  cases hv with
  | none a c => exact ⟨a, 0, c, rfl, fun _ => rfl⟩
  | row _ sz c ad u hlen hc hm hO hb hcell hsub => exact ⟨_, _, _, rfl, fun h => by cases h⟩
theorem AL.eqNil {ts : List (Nat × TI)} (hT : TOK P ts) (hw : wantedA l ⟨some d, .binOp .eql t x y t2, ty, pos, aft, g⟩ ⟨n, T, H, Hp, clk⟩ = some true) (hd : Nat.blt d n = true) {vx : AV} {xs : List (List D)} (hx : ev ⟨n, T, H, Hp, clk⟩ x = some vx) (hxs : rowOf ⟨n, T, H, Hp, clk⟩ vx = some xs) (hy : ev ⟨n, T, H, Hp, clk⟩ y = some .nilrow)
    {e s b : Nat} {z : List AV} (ht : lk ts t = some ⟨.slice e, s, b, z⟩) (hr : ∀ b : Bool, (b = true → xs = []) → AL P l Q rest ⟨n, (d, bo b) :: T, H, Hp, clk⟩) : AL P l Q (⟨some d, .binOp .eql t x y t2, ty, pos, aft, g⟩ :: rest) ⟨n, T, H, Hp, clk⟩ := by
  intro c a w hsat
  obtain ⟨ρ, O, hs⟩ := hsat
  obtain ⟨A, m, cc, e1, e2⟩ := row_nil (row_reads hs hxs (ev_sound hs hx))
  refine wpList_step fun K hK => ?_
  rw [if_pos (wantedA_sound hw ⟨ρ, O, hs⟩)]
  unfold Oper.wp
  have h3 := (run_eq_slice_nil (P := P) w A m cc (und_slice hT ht) x y).1
  have : (execOp a.eval ⟨some d, .binOp .eql t x y t2, ty, pos, aft, g⟩).run P w = .ok (.value (.bool A.isNone)) w := by
    simp only [execOp, e1, nil_eval hs hy]
    rw [Sem.run_bind, h3]
    rfl
  rw [this]
  exact hK _ _ (hr _ e2 c _ w ⟨ρ, O, put_sat hs (v := .bool A.isNone) (x := bo A.isNone) (.d _ _ (.one _ rfl)) (by simp [put, hd])⟩)
theorem AL.neqNil {ts : List (Nat × TI)} (hT : TOK P ts) (hw : wantedA l ⟨some d, .binOp .neq t x y t2, ty, pos, aft, g⟩ ⟨n, T, H, Hp, clk⟩ = some true) (hd : Nat.blt d n = true) {vx : AV} {xs : List (List D)} (hx : ev ⟨n, T, H, Hp, clk⟩ x = some vx) (hxs : rowOf ⟨n, T, H, Hp, clk⟩ vx = some xs) (hy : ev ⟨n, T, H, Hp, clk⟩ y = some .nilrow)
    {e s b : Nat} {z : List AV} (ht : lk ts t = some ⟨.slice e, s, b, z⟩) (hr : ∀ b : Bool, (b = false → xs = []) → AL P l Q rest ⟨n, (d, bo b) :: T, H, Hp, clk⟩) : AL P l Q (⟨some d, .binOp .neq t x y t2, ty, pos, aft, g⟩ :: rest) ⟨n, T, H, Hp, clk⟩ := by
  intro c a w hsat
  obtain ⟨ρ, O, hs⟩ := hsat
  obtain ⟨A, m, cc, e1, e2⟩ := row_nil (row_reads hs hxs (ev_sound hs hx))
  refine wpList_step fun K hK => ?_
  rw [if_pos (wantedA_sound hw ⟨ρ, O, hs⟩)]
  unfold Oper.wp
  have h3 := (run_eq_slice_nil (P := P) w A m cc (und_slice hT ht) x y).2
  have : (execOp a.eval ⟨some d, .binOp .neq t x y t2, ty, pos, aft, g⟩).run P w = .ok (.value (.bool (!A.isNone))) w := by
    simp only [execOp, e1, nil_eval hs hy]
    rw [Sem.run_bind, h3]
    rfl
  rw [this]
  exact hK _ _ (hr (!A.isNone) (fun h => e2 (by simpa using h)) c _ w ⟨ρ, O, put_sat hs (v := .bool (!A.isNone)) (x := bo (!A.isNone)) (.d _ _ (.one _ rfl)) (by simp [put, hd])⟩)

/-! ### the smaller, the greater -/
theorem VOp.max {o : Option Tmp} {σ : St} {k : IntKind} {a b : Int} (hx : ev σ x = some (.d (.one (.int k a)))) (hy : ev σ y = some (.d (.one (.int k b)))) : VOp P σ ⟨o, .call ⟨.builtin .max, #[x, y], tys⟩, ty, pos, aft, g⟩ (.d (.one (.int k (if b > a then b else a)))) := by
  refine VOp.mk fun c ac w ρ O hs => ?_
  have e1 := one_of (ev_sound hs hx)
  have e2 := one_of (ev_sound hs hy)
  exact ⟨_, fun w' _ => by simp [execOp, resolve, invoke, builtin, Builtin.max_, Builtin.max2, e1, e2], .d _ _ (.one _ rfl)⟩
theorem VOp.min {o : Option Tmp} {σ : St} {k : IntKind} {a b : Int} (hx : ev σ x = some (.d (.one (.int k a)))) (hy : ev σ y = some (.d (.one (.int k b)))) : VOp P σ ⟨o, .call ⟨.builtin .min, #[x, y], tys⟩, ty, pos, aft, g⟩ (.d (.one (.int k (if b < a then b else a)))) := by
  refine VOp.mk fun c ac w ρ O hs => ?_
  have e1 := one_of (ev_sound hs hx)
  have e2 := one_of (ev_sound hs hy)
  exact ⟨_, fun w' _ => by simp [execOp, resolve, invoke, builtin, Builtin.min_, Builtin.min2, e1, e2], .d _ _ (.one _ rfl)⟩
theorem AL.max (hw : wantedA l ⟨some d, .call ⟨.builtin .max, #[x, y], tys⟩, ty, pos, aft, g⟩ ⟨n, T, H, Hp, clk⟩ = some true) (hd : Nat.blt d n = true) {k : IntKind} {a b : Int} (hx : ev ⟨n, T, H, Hp, clk⟩ x = some (.d (.one (.int k a)))) (hy : ev ⟨n, T, H, Hp, clk⟩ y = some (.d (.one (.int k b))))
    (h : AL P l Q rest ⟨n, (d, .d (.one (.int k (if b > a then b else a)))) :: T, H, Hp, clk⟩) : AL P l Q (⟨some d, .call ⟨.builtin .max, #[x, y], tys⟩, ty, pos, aft, g⟩ :: rest) ⟨n, T, H, Hp, clk⟩ := AL.v hw hd (.max hx hy) h
theorem AL.min (hw : wantedA l ⟨some d, .call ⟨.builtin .min, #[x, y], tys⟩, ty, pos, aft, g⟩ ⟨n, T, H, Hp, clk⟩ = some true) (hd : Nat.blt d n = true) {k : IntKind} {a b : Int} (hx : ev ⟨n, T, H, Hp, clk⟩ x = some (.d (.one (.int k a)))) (hy : ev ⟨n, T, H, Hp, clk⟩ y = some (.d (.one (.int k b))))
    (h : AL P l Q rest ⟨n, (d, .d (.one (.int k (if b < a then b else a)))) :: T, H, Hp, clk⟩) : AL P l Q (⟨some d, .call ⟨.builtin .min, #[x, y], tys⟩, ty, pos, aft, g⟩ :: rest) ⟨n, T, H, Hp, clk⟩ := AL.v hw hd (.min hx hy) h

/-! ### a row's element, written -/
theorem AL.storeR {ts : List (Nat × TI)} (hT : TOK P ts) (hw : wantedA l ⟨none, .store t x y, ty, pos, aft, g⟩ ⟨n, T, H, Hp, clk⟩ = some true) {id : Nat} {e sz j f : Nat} {xs xs' : List (List D)} (hx : ev ⟨n, T, H, Hp, clk⟩ x = some (.rptr (.loc id) sz j f))
    (hid : hk ⟨n, T, H, Hp, clk⟩ (.loc id) = some (.row e sz xs)) {el : List D} (hel : xs[j]? = some el) {i : TI} (hi : lk ts t = some i) {v : AV} (hv : ev ⟨n, T, H, Hp, clk⟩ y = some v) {nd : List D} (hnd : toDs (cellsV v) some = some nd) (hl : Nat.beq nd.length i.size = true)
    (hfl : f + nd.length ≤ sz) (hxs' : xs.set j (el.take f ++ nd ++ el.drop (f + nd.length)) = xs')
    (h : AL P l Q rest ⟨n, T, (id, some (.row e sz xs')) :: H, Hp, clk⟩) : AL P l Q (⟨none, .store t x y, ty, pos, aft, g⟩ :: rest) ⟨n, T, H, Hp, clk⟩ := by
  refine AL.step (σ' := ⟨n, T, (id, some (.row e sz xs')) :: H, Hp, clk⟩) hw ?_ h
  rintro c a w ⟨ρ, O, hs⟩ K Q hK
  subst hxs'
  have hl := Nat.eq_of_beq_eq_true hl
  have hj : j < xs.length := (List.getElem?_eq_some_iff.1 hel).1
  have hne : xs ≠ [] := fun e => by rw [e] at hel; simp at hel
  obtain ⟨nd', hnd0, hndl, hndc, hndv⟩ := toDs_spec hnd
  cases hnd0
  obtain ⟨hv1, hv2⟩ := (ev_sound hs hv).cells hndc
  obtain ⟨v0, vs0, k1, k2, k3, k4⟩ := hs.H.ok (.loc id) _ hid
  rcases k2.2 with ⟨_, h5⟩ | ⟨gb, cap, cur, rfl, hbase, hh, hnc, hcm, hcs, htk⟩
  · exact absurd (List.eq_nil_of_length_eq_zero h5) hne
  have hell : el.length = sz := k3 el (List.mem_of_getElem? hel)
  have hxp := ev_sound hs hx
  generalize hq : a.eval x = q at hxp
  cases hxp with
  | rptr _ _ _ _ g' hg =>
    rw [k1] at hg
    simp [vblk] at hg
    subst hg
    have hseg : (j + 1) * sz ≤ xs.length * sz := Nat.mul_le_mul_right _ hj
    have hseg2 : xs.length * sz ≤ cap * sz := Nat.mul_le_mul_right _ hnc
    have hjs : (j + 1) * sz = j * sz + sz := Nat.succ_mul j sz
    obtain ⟨cur', e1, e2, e3⟩ := run_storeSeg (P := P) gb (j * sz + f) e (a.eval y).cells.toList 0 cur w hh (by simp [hv1]; omega) (fun u hu => by
      obtain ⟨k, hk⟩ := List.getElem?_of_mem hu
      have hk' : k < (cellsV v).length := by
        have := (List.getElem?_eq_some_iff.1 hk).1
        rw [← hv1]
        simpa using this
      exact (hv2 k _ u (List.getElem?_eq_getElem hk') (by simpa using hk)).2)
    have hO : O gb := (hs.H.own (.loc id) _ gb hid (by rw [k1]; rfl)).1
    have hk0 : Keeps O w O (w.setRow gb cur') := ⟨by simp, fun k _ hO' => setRow_other w gb k cur' (fun e => hO' (e ▸ hO)), fun k hk => .inl hk⟩
    have hrun : (Instr.storeAt t (.pointer (some ⟨gb, j * sz + f, none⟩)) (a.eval y)).run P w = .ok () (w.setRow gb cur') := by
      have hsz : (a.eval y).cells.size = i.size := by rw [hv1]; omega
      simp [Instr.storeAt, Instr.sureAddr, storeVar, (hT.facts hi).sizeOf, hsz, e1]
    have hget : ∀ (j' k : Nat) x d, (xs.set j (el.take f ++ nd ++ el.drop (f + nd.length)))[j']? = some x → x[k]? = some d → ∃ u, cur'[j' * sz + k]? = some u ∧ Reads O (w.setRow gb cur') d u := by
      intro j' k x d hx' hd'
      by_cases hjj : j' = j
      · subst hjj
        rw [List.getElem?_set_self hj] at hx'
        cases hx'
        have hkl : k < sz := by
          have := (List.getElem?_eq_some_iff.1 hd').1
          simp only [List.length_append, List.length_take, List.length_drop] at this
          omega
        by_cases hin : f ≤ k ∧ k < f + nd.length
        · have h1 : nd[k - f]? = some d := by
            rw [List.append_assoc, List.getElem?_append_right (by simp; omega), List.getElem?_append_left (by simp; omega)] at hd'
            rw [← hd']; congr 1; simp; omega
          have h2 : k - f < (cellsV v).length := by omega
          have h3 : k - f < (a.eval y).cells.size := by omega
          refine ⟨(a.eval y).cells[k - f], ?_, ?_⟩
          · rw [e3, if_pos (by simp [hv1]; omega)]
            rw [show j' * sz + k - (j' * sz + f + 0) = k - f by omega]
            simp [h3]
          · exact (hndv ρ O w (k - f) _ d _ (List.getElem?_eq_getElem h2) h1 (hv2 (k - f) _ _ (List.getElem?_eq_getElem h2) (by simp [h3])).1).keep hk0
        · have h1 : el[k]? = some d := by
            by_cases hlt : k < f
            · rw [List.append_assoc, List.getElem?_append_left (by simp; omega), List.getElem?_take, if_pos hlt] at hd'
              exact hd'
            · rw [List.getElem?_append_right (by simp; omega), List.getElem?_drop] at hd'
              rw [← hd']; congr 1; simp; omega
          obtain ⟨u, u1, u2⟩ := k4 j' k el d hel h1
          refine ⟨u, ?_, u2.keep hk0⟩
          rw [e3, if_neg (by simp [hv1]; omega)]
          rw [← htk, List.getElem?_take] at u1
          split at u1
          · simpa using u1
          · cases u1
      · rw [List.getElem?_set_ne (Ne.symm hjj)] at hx'
        obtain ⟨u, u1, u2⟩ := k4 j' k x d hx' hd'
        have hkl : k < sz := by
          have := (List.getElem?_eq_some_iff.1 hd').1
          rw [k3 x (List.mem_of_getElem? hx')] at this
          exact this
        refine ⟨u, ?_, u2.keep hk0⟩
        rw [e3, if_neg (by
          simp only [Nat.add_zero, Array.length_toList, hv1]
          rcases Nat.lt_or_gt_of_ne hjj with hlt | hgt
          · have := Nat.mul_le_mul_right sz (show j' + 1 ≤ j from hlt)
            rw [Nat.succ_mul] at this
            omega
          · have := Nat.mul_le_mul_right sz (show j + 1 ≤ j' from hgt)
            omega)]
        rw [← htk, List.getElem?_take] at u1
        split at u1
        · simpa using u1
        · cases u1
    have hlen' : (xs.set j (el.take f ++ nd ++ el.drop (f + nd.length))).length = xs.length := by simp
    have hsat := chg_sat (σ' := ⟨n, T, (id, some (.row e sz (xs.set j (el.take f ++ nd ++ el.drop (f + nd.length))))) :: H, Hp, clk⟩) (b := .row e sz (xs.set j (el.take f ++ nd ++ el.drop (f + nd.length)))) hs hid rfl (g := gb) (w' := w.setRow gb cur') (by rw [k1]; rfl) (fun k hk => setRow_other w gb k cur' hk) (by simp) rfl rfl rfl
      ⟨_, cur'.toList.take (xs.length * sz), k1, ⟨by rw [hlen', List.length_take, show cur'.toList.length = cap * sz by rw [Array.length_toList, e2, hcs]]; exact Nat.min_eq_left hseg2, .inr ⟨gb, cap, cur', by rw [hlen'], hbase, setRow_heap w gb cur cur' e (0, 0) hh, by rw [hlen']; exact hnc, hcm, by rw [e2, hcs], by rw [hlen']⟩⟩, fun x hx' => by
        rcases List.mem_or_eq_of_mem_set hx' with h | h
        · exact k3 x h
        · subst h
          simp
          omega, fun j' k x d hx' hd' => by
        obtain ⟨u, u1, u2⟩ := hget j' k x d hx' hd'
        refine ⟨u, ?_, u2⟩
        have hj' : j' < xs.length := by
          have := (List.getElem?_eq_some_iff.1 hx').1
          simpa using this
        have hxl : x.length = sz := by
          rcases List.mem_or_eq_of_mem_set (List.mem_of_getElem? hx') with h | h
          · exact k3 x h
          · subst h
            simp
            omega
        have hkl : k < sz := by
          have := (List.getElem?_eq_some_iff.1 hd').1
          omega
        have := Nat.mul_le_mul_right sz (show j' + 1 ≤ xs.length from hj')
        rw [Nat.succ_mul] at this
        rw [List.getElem?_take, if_pos (by omega)]
        simpa using u1⟩
    unfold Oper.wp
    simp only [execOp, hq, Sem.run_bind, hrun, Result.andThen_ok, Sem.run_pure]
    exact hK _ _ ⟨ρ, O, hsat⟩
end
end Go.AM
