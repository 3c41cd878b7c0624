/- A machine over pure data: part 11: the rules for calls; what may be forgotten. -/
import Derived.Test.YtpohebmofcdeiaaAM10
namespace Go.AM
open Go Go.RowKit

theorem rp1_nil (x : AV) : rp1 [] x = x := by
  cases x <;> first | rfl | (rename_i i _; cases i <;> rfl) | (rename_i i; cases i <;> rfl) | (rename_i i _ _ _; cases i <;> rfl)
theorem rp2_nil (x : AV) : rp2 [] x = x := by
  have h : rp1 [] = id := funext rp1_nil
  cases x <;> first | (simp [rp2, h]; done) | exact rp1_nil _

theorem run_call {P : Program} {o : Oper} {x : Operand} {args : Array Operand} {tys : Array TypeId} (hop : o.op = .call ⟨.value x, args, tys⟩) {a : Act} {f : FuncId} {cvs : Array Value} (hx : a.eval x = .func (.func f) #[] cvs)
    (hc : Callable P f) (w : World) : (execOp a.eval o).run P w = .ok (.enter f (args.map a.eval ++ cvs)) w := by
  obtain ⟨fn, h1, h2, h3⟩ := hc
  simp [execOp, hop, resolve, hx, Deferred.ofValue, invoke, callFunc, h1]
  rw [if_neg (by simpa using h2)]
  rw [if_neg (fun h => by rw [h] at h3; simp at h3)]

theorem aevs_vals {c : Ctx} {σ : St} {a : Act} {w : World} {ρ : Env} {O : Nat → Prop} (hs : SatAt c σ a w ρ O) {args : Array Operand} {as_ : List AV} (ha : aevs σ args.toList some = some as_) :
    as_.length = args.size ∧ ∀ (k : Nat) x v, as_[k]? = some x → (args.map a.eval)[k]? = some v → VR ρ O w x v := by
  obtain ⟨xs, h1, h2, h3⟩ := aevs_spec ha
  cases h1
  refine ⟨by simpa using h2, fun k x v hx hv => ?_⟩
  rw [Array.getElem?_map, Option.map_eq_some_iff] at hv
  obtain ⟨y, hy, rfl⟩ := hv
  exact ev_sound hs (h3 k x y hx (by simpa using hy))

section
variable {P : Program} {l rest : List Oper} {Q : Exit → St → Prop} {σ : St} {o : Oper}

/-- A call, at its most general: m are the caller's blocks that it is handed. -/
theorem AL.callG {x : Operand} {args : Array Operand} {tys : Array TypeId} (hop : o.op = .call ⟨.value x, args, tys⟩) (hw : wantedA l o σ = some true) {f : FuncId} {caps as_ ys : List AV} (hx : ev σ x = some (.fn f caps))
    (ha : aevs σ args.toList some = some as_) (m : List Id) {HpC : List Blk} (hHp : m.map (hk σ) = HpC.map some) (hcl : HpC.all blkC = true) (hnd : m.Nodup) (hys : ys.map (rp2 m) = as_ ++ caps) (hpk : ys.all (pk2 m.length) = true)
    {R : AV → List Blk → List Rw → Prop} (hc : ACalls P f ys HpC R)
    (h : ∀ c a w ρ O r Hp' Hr v w2 ρ2 O2, R r Hp' Hr → SatAt c σ a w ρ O → FinAt (ctxOf ρ O w m) r Hp' Hr v w2 ρ2 O2 → ∃ σ', Sat c σ' (a.put o.dst v) w2 ∧ AL P l Q rest σ') : AL P l Q (o :: rest) σ := by
  rintro c a w ⟨ρ, O, hs⟩
  refine wpList_step fun K hK => ?_
  rw [if_pos (wantedA_sound hw ⟨ρ, O, hs⟩)]
  have hxv := ev_sound hs hx
  generalize hq : a.eval x = q at hxv
  cases hxv with
  | fn _ _ cvs hcl' hcv =>
    obtain ⟨ha1, ha2⟩ := aevs_vals hs ha
    unfold Oper.wp
    rw [run_call hop hq hc.1 w]
    rw [Oper.upon_enter]
    have hm : ∀ k, ρ0 (ctxOf ρ O w m) (.par k) = (m[k]?).bind ρ := fun _ => rfl
    have hblk : ∀ (k : Nat) b, HpC[k]? = some b → ∃ i, m[k]? = some i ∧ hk σ i = some b := by
      intro k b hb
      have e := congrArg (fun l => l[k]?) hHp
      simp only [List.getElem?_map, hb, Option.map_some] at e
      rw [Option.map_eq_some_iff] at e
      exact e
    have hini : Ini (ctxOf ρ O w m) ys HpC (args.map a.eval ++ cvs) := by
      have hlen : ys.length = as_.length + caps.length := by
        have := congrArg List.length hys
        simpa using this
      refine ⟨by simp [hlen, ha1, hcl'], fun k y v hy hv => ?_, ⟨fun i b hb => ?_, fun i b g hb hg => ?_, fun i j bi bj g hbi hbj hgi hgj => ?_⟩, ?_, ?_⟩
      · refine rp2_vr (ρ := ρ) hm (List.all_eq_true.1 hpk y (List.mem_of_getElem? hy)) ?_
        have e := congrArg (fun l => l[k]?) hys
        simp only [List.getElem?_map, hy, Option.map_some] at e
        rw [Array.getElem?_append] at hv
        simp only [Array.size_map] at hv
        rw [List.getElem?_append] at e
        by_cases hk' : k < args.size
        · rw [if_pos hk'] at hv
          rw [if_pos (by omega)] at e
          exact ha2 k _ v e.symm hv
        · rw [if_neg hk'] at hv
          rw [if_neg (by omega)] at e
          rw [ha1] at e
          exact hcv _ _ v e.symm hv
      · cases i with
        | loc k => cases hb
        | par k =>
          obtain ⟨i, e1, e2⟩ := hblk k b hb
          exact blkC_bok (ρ := ρ) (i := i) (by rw [hm, e1]; rfl) (List.all_eq_true.1 hcl b (List.mem_of_getElem? hb)) (hs.H.ok i b e2)
      · cases i with
        | loc k => cases hb
        | par k =>
          obtain ⟨i, e1, e2⟩ := hblk k b hb
          rw [hm, e1] at hg
          obtain ⟨f1, f2, _⟩ := hs.H.own i b g e2 hg
          exact ⟨f1, f2, ⟨i, List.mem_of_getElem? e1, hg⟩⟩
      · cases i with
        | loc k => cases hbi
        | par k =>
          cases j with
          | loc k' => cases hbj
          | par k' =>
            obtain ⟨i, e1, e2⟩ := hblk k bi hbi
            obtain ⟨j, e3, e4⟩ := hblk k' bj hbj
            rw [hm, e1] at hgi
            rw [hm, e3] at hgj
            have := hs.H.inj i j bi bj g e2 e4 hgi hgj
            subst this
            have hk1 : k < m.length := (List.getElem?_eq_some_iff.1 e1).1
            rw [(List.getElem?_inj hk1 hnd).1 (e1.trans e3.symm)]
      · rintro g ⟨i, hi, hg⟩
        have : hk σ i ∈ HpC.map some := by rw [← hHp]; exact List.mem_map_of_mem hi
        obtain ⟨b, _, hb⟩ := List.mem_map.1 this
        have e := hs.H.own i b g hb.symm hg
        exact ⟨e.1, e.2.1⟩
      · exact hs.F.olt
    refine (hc.2 (ctxOf ρ O w m) _ hini).mono ?_
    rintro e w2 ⟨r, Hp', Hr, v, ρ2, O2, hR, rfl, hf⟩
    obtain ⟨σ', h1, h2⟩ := h c a w ρ O r Hp' Hr v w2 ρ2 O2 hR hs hf
    exact hK _ _ (h2 c _ _ h1)

theorem hp_nil {c : Ctx} {r : AV} {Hp : List Blk} {Hr : List Rw} {v : Value} {w : World} {ρ : Env} {O : Nat → Prop} (hf : FinAt c r Hp Hr v w ρ O) (hn : ∀ k, c.ρp k = none) : Hp = [] := by
  match Hp with
  | [] => rfl
  | b :: l =>
    have h0 : ρ (.par 0) = none := by rw [hf.par]; exact hn 0
    have hB := hf.H.ok (.par 0) b rfl
    exfalso
    cases b with
    | box => obtain ⟨g, vs, e, _⟩ := hB; rw [h0] at e; cases e
    | row => obtain ⟨g, vs, e, _⟩ := hB; rw [h0] at e; cases e
    | iter => obtain ⟨g, e, _⟩ := hB; rw [h0] at e; cases e

/-- rows that a call made: their numbers at the caller's. -/
def iota (k : Nat) : Nat → List Nat
  | 0 => []
  | n + 1 => k :: iota (k + 1) n
theorem iota_length : ∀ (n k : Nat), (iota k n).length = n
  | 0, _ => rfl
  | n + 1, k => by simp [iota, iota_length n]
theorem iota_get : ∀ (n k j : Nat), j < n → (iota k n).getD j 0 = k + j
  | 0, _, _, h => by omega
  | n + 1, k, 0, _ => rfl
  | n + 1, k, j + 1, h => by
    have := iota_get n (k + 1) j (by omega)
    simp only [iota, List.getD_cons_succ, this]
    omega

/-- A call that is handed pure data alone. -/
theorem AL.callR {n d clk : Nat} {T : List (Nat × AV)} {H : List (Nat × Option Blk)} {Hp : List Blk} {x : Operand} {args : Array Operand} {tys : Array TypeId} {ty : TypeId} {pos : String} {aft : Array Edge} {g : Option (Nat × Bool)}
    (hw : wantedA l ⟨some d, .call ⟨.value x, args, tys⟩, ty, pos, aft, g⟩ ⟨n, T, H, Hp, clk⟩ = some true) (hd : Nat.blt d n = true) {f : FuncId} {caps as_ : List AV} (hx : ev ⟨n, T, H, Hp, clk⟩ x = some (.fn f caps))
    (ha : aevs ⟨n, T, H, Hp, clk⟩ args.toList some = some as_) (hpk : (as_ ++ caps).all (pk2 0) = true) {R : AV → List Blk → List Rw → Prop} (hc : ACalls P f (as_ ++ caps) [] R)
    (h : ∀ r Hr, R r [] Hr → ok3 Hr.length r = true ∧ AL P l Q rest ⟨n, (d, ren3 (iota clk Hr.length) r) :: T, rowsH clk Hr ++ H, Hp, clk + Hr.length⟩) :
    AL P l Q (⟨some d, .call ⟨.value x, args, tys⟩, ty, pos, aft, g⟩ :: rest) ⟨n, T, H, Hp, clk⟩ := by
  refine AL.callG rfl hw hx ha [] (HpC := []) rfl rfl List.nodup_nil (by rw [List.map_congr_left (fun x _ => rp2_nil x)]; simp) hpk hc ?_
  intro c a w ρ O r Hp' Hr v w2 ρ2 O2 hR hs hf
  obtain rfl := hp_nil hf (fun _ => rfl)
  obtain ⟨hok, h⟩ := h r Hr hR
  have hcore := call_core (σ' := ⟨n, T, rowsH clk Hr ++ H, Hp, clk + Hr.length⟩) hs (fun i hi => by cases hi) hf rfl rfl rfl rfl (fun i b hb => by
    cases i with
    | par k => exact .inr (.inl ⟨by simp, hb⟩)
    | loc k =>
      simp only [hk, lk_rowsH] at hb
      by_cases hk' : clk ≤ k ∧ k < clk + Hr.length
      · rw [if_pos hk'] at hb
        have hlt : k - clk < Hr.length := by omega
        simp [hlt] at hb
        exact .inr (.inr ⟨k - clk, Hr[k - clk], by congr 1; simp only; omega, by simp [hlt], hb.symm⟩)
      · rw [if_neg hk'] at hb
        exact .inr (.inl ⟨by simp, hb⟩))
  refine ⟨⟨n, (d, ren3 (iota clk Hr.length) r) :: T, rowsH clk Hr ++ H, Hp, clk + Hr.length⟩, ⟨_, _, put_sat hcore.1 (v := v) (x := ren3 (iota clk Hr.length) r) ?_ (by simp [put, hd])⟩, h⟩
  refine (ren3_iff (ρ' := ρ2) (fun j hj => ?_) (by rw [iota_length]; exact hok)).2 hf.r
  rw [iota_length] at hj
  rw [iota_get _ _ _ hj]
  simp only [merge]
  rw [if_neg (by omega), Nat.add_sub_cancel_left]

end

def ACallP (P : Program) (f : FuncId) (args : List AV) (r : AV) : Prop := ACalls P f args [] fun r' _ Hr => r' = r ∧ Hr = []
def ACallPR (P : Program) (f : FuncId) (args : List AV) (R : AV → Prop) : Prop := ACalls P f args [] fun r' _ Hr => R r' ∧ Hr = []
def ACallO (P : Program) (f : FuncId) (args : List AV) (e sz : Nat) (R : List (List D) → Prop) : Prop := ACalls P f args [] fun r' _ Hr => ∃ xs, R xs ∧ r' = .own (.loc 0) ∧ Hr = [⟨e, sz, xs⟩]

section
variable {P : Program} {l rest : List Oper} {Q : Exit → St → Prop} {n d clk : Nat} {T : List (Nat × AV)} {H : List (Nat × Option Blk)} {Hp : List Blk} {x : Operand} {args : Array Operand} {tys : Array TypeId} {ty : TypeId} {pos : String} {aft : Array Edge} {g : Option (Nat × Bool)}
/-- A result that is pure needs no telling where it lies. -/
theorem AL.callPR (hw : wantedA l ⟨some d, .call ⟨.value x, args, tys⟩, ty, pos, aft, g⟩ ⟨n, T, H, Hp, clk⟩ = some true) (hd : Nat.blt d n = true) {f : FuncId} {caps as_ : List AV} (hx : ev ⟨n, T, H, Hp, clk⟩ x = some (.fn f caps))
    (ha : aevs ⟨n, T, H, Hp, clk⟩ args.toList some = some as_) (hpk : (as_ ++ caps).all (pk2 0) = true) {R : AV → Prop} (hc : ACallPR P f (as_ ++ caps) R)
    (h : ∀ r, R r → AL P l Q rest ⟨n, (d, r) :: T, H, Hp, clk⟩) :
    AL P l Q (⟨some d, .call ⟨.value x, args, tys⟩, ty, pos, aft, g⟩ :: rest) ⟨n, T, H, Hp, clk⟩ := by
  refine AL.callG rfl hw hx ha [] (HpC := []) rfl rfl List.nodup_nil (by rw [List.map_congr_left (fun x _ => rp2_nil x)]; simp) hpk hc ?_
  intro c a w ρ O r Hp' Hr v w2 ρ2 O2 hR hs hf
  obtain ⟨hR, rfl⟩ := hR
  obtain rfl := hp_nil hf (fun _ => rfl)
  have hcore := call_core (σ' := ⟨n, T, H, Hp, clk⟩) hs (fun i hi => by cases hi) hf rfl rfl rfl rfl (fun i b hb => .inr (.inl ⟨by simp, hb⟩))
  refine ⟨⟨n, (d, r) :: T, H, Hp, clk⟩, ⟨_, _, put_sat hcore.1 (v := v) (x := r) ?_ (by simp [put, hd])⟩, h r hR⟩
  refine hf.r.keep (fun i u hu => ?_) (Keeps.refl _ _)
  cases i with
  | par k => rw [hf.par] at hu; cases hu
  | loc k => rw [hf.fresh k (Nat.zero_le _)] at hu; cases hu
theorem AL.callP (hw : wantedA l ⟨some d, .call ⟨.value x, args, tys⟩, ty, pos, aft, g⟩ ⟨n, T, H, Hp, clk⟩ = some true) (hd : Nat.blt d n = true) {f : FuncId} {caps as_ : List AV} (hx : ev ⟨n, T, H, Hp, clk⟩ x = some (.fn f caps))
    (ha : aevs ⟨n, T, H, Hp, clk⟩ args.toList some = some as_) (hpk : (as_ ++ caps).all (pk2 0) = true) {r : AV} (hc : ACallP P f (as_ ++ caps) r)
    (h : AL P l Q rest ⟨n, (d, r) :: T, H, Hp, clk⟩) :
    AL P l Q (⟨some d, .call ⟨.value x, args, tys⟩, ty, pos, aft, g⟩ :: rest) ⟨n, T, H, Hp, clk⟩ :=
  AL.callPR hw hd hx ha hpk (R := (· = r)) hc (fun r' e => by subst e; exact h)
theorem AL.callO (hw : wantedA l ⟨some d, .call ⟨.value x, args, tys⟩, ty, pos, aft, g⟩ ⟨n, T, H, Hp, clk⟩ = some true) (hd : Nat.blt d n = true) {f : FuncId} {caps as_ : List AV} (hx : ev ⟨n, T, H, Hp, clk⟩ x = some (.fn f caps))
    (ha : aevs ⟨n, T, H, Hp, clk⟩ args.toList some = some as_) (hpk : (as_ ++ caps).all (pk2 0) = true) {e sz : Nat} {R : List (List D) → Prop} (hc : ACallO P f (as_ ++ caps) e sz R)
    (h : ∀ xs, R xs → AL P l Q rest ⟨n, (d, .own (.loc clk)) :: T, (clk, some (.row e sz xs)) :: H, Hp, clk + 1⟩) :
    AL P l Q (⟨some d, .call ⟨.value x, args, tys⟩, ty, pos, aft, g⟩ :: rest) ⟨n, T, H, Hp, clk⟩ :=
  AL.callR hw hd hx ha hpk hc (fun r Hr ⟨xs, h1, h2, h3⟩ => by
    subst h2; subst h3
    exact ⟨rfl, h xs h1⟩)

/-- A call that is handed blocks, and leaves them as they were. -/
theorem AL.callU (hw : wantedA l ⟨some d, .call ⟨.value x, args, tys⟩, ty, pos, aft, g⟩ ⟨n, T, H, Hp, clk⟩ = some true) (hd : Nat.blt d n = true) {f : FuncId} {caps as_ ys : List AV} (hx : ev ⟨n, T, H, Hp, clk⟩ x = some (.fn f caps))
    (ha : aevs ⟨n, T, H, Hp, clk⟩ args.toList some = some as_) (m : List Id) {HpC : List Blk} (hHp : m.map (hk ⟨n, T, H, Hp, clk⟩) = HpC.map some) (hcl : HpC.all blkC = true) (hnd : m.Nodup) (hys : ys.map (rp2 m) = as_ ++ caps) (hpk : ys.all (pk2 m.length) = true)
    {R : AV → Prop} (hc : ACalls P f ys HpC fun r Hp' Hr => R r ∧ ok3 0 r = true ∧ Hp' = HpC ∧ Hr = []) (h : ∀ r, R r → AL P l Q rest ⟨n, (d, r) :: T, H, Hp, clk⟩) :
    AL P l Q (⟨some d, .call ⟨.value x, args, tys⟩, ty, pos, aft, g⟩ :: rest) ⟨n, T, H, Hp, clk⟩ := by
  refine AL.callG rfl hw hx ha m hHp hcl hnd hys hpk hc ?_
  intro c a w ρ O r Hp' Hr v w2 ρ2 O2 hR hs hf
  obtain ⟨hR, hok, rfl, rfl⟩ := hR
  have hmb : ∀ i ∈ m, ∃ b, hk ⟨n, T, H, Hp, clk⟩ i = some b := by
    intro i hi
    have : hk ⟨n, T, H, Hp, clk⟩ i ∈ Hp'.map some := by rw [← hHp]; exact List.mem_map_of_mem hi
    obtain ⟨b, _, hb⟩ := List.mem_map.1 this
    exact ⟨b, hb.symm⟩
  have hcore := call_core (σ' := ⟨n, T, H, Hp, clk⟩) hs hmb hf hcl rfl rfl rfl (fun i b hb => by
    by_cases hi : i ∈ m
    · obtain ⟨k, hk'⟩ := List.getElem?_of_mem hi
      refine .inl ⟨k, hk', ?_⟩
      have e := congrArg (fun l => l[k]?) hHp
      simp only [List.getElem?_map, hk', Option.map_some, hb] at e
      rw [eq_comm, Option.map_eq_some_iff] at e
      obtain ⟨b', e1, e2⟩ := e
      injection e2 with e2
      rw [e1, e2]
    · exact .inr (.inl ⟨hi, hb⟩))
  refine ⟨⟨n, (d, r) :: T, H, Hp, clk⟩, ⟨_, _, put_sat hcore.1 (v := v) (x := r) ?_ (by simp [put, hd])⟩, h r hR⟩
  have := (ren3_iff (m := []) (ρ := merge clk ρ ρ2) (ρ' := ρ2) (O := O2) (w := w2) (fun j hj => by simp at hj) hok (v := v)).2 hf.r
  rw [ren3_nil hok] at this
  exact this
end

end Go.AM
