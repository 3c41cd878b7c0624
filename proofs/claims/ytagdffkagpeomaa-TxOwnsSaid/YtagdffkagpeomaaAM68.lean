/- A machine over pure data: part 68: cells of a variable that are told by their place; texts as fresh bytes; arrays of two numbers; a call that makes a variable. -/
import Derived.Test.YtagdffkagpeomaaAM67
import Derived.Laws.IdiomStrings
set_option linter.unusedVariables false
set_option linter.unusedSimpArgs false
namespace Go.AM
open Go Go.RowKit

theorem nthK_of {α β : Type} {k : α → Option β} : ∀ {xs : List α} {n : Nat} {v : α}, xs[n]? = some v → nthK xs n k = k v
  | x :: xs, 0, v, h => by simp at h; subst h; rfl
  | x :: xs, n + 1, v, h => by
    rw [nthK]
    exact nthK_of (by simpa using h)
  | [], n, v, h => by simp at h
theorem putK_of {β : Type} {v : AV} : ∀ {xs : List AV} {n : Nat} {k : List AV → Option β}, n < xs.length → putK xs n [v] k = k (xs.set n v)
  | x :: xs, 0, k, h => by cases xs <;> rfl
  | x :: xs, n + 1, k, h => by
    rw [putK]
    rw [putK_of (n := n) (by simpa using h)]
    rfl
  | [], n, k, h => by simp at h
section
variable {P : Program} {l rest : List Oper} {Q : Exit → St → Prop} {n d clk : Nat} {T : List (Nat × AV)} {H : List (Nat × Option Blk)} {Hp : List Blk} {x y : Operand} {args : Array Operand} {tys : Array TypeId} {t t2 ty : TypeId} {pos : String} {aft : Array Edge} {g : Option (Nat × Bool)} {ts : List (Nat × TI)} {o : Option Tmp} {σ : St}
/-- A cell of a variable. -/
theorem VOp.loadC (hT : TOK P ts) {id : Id} {off : Nat} {e : TypeId} {cells : List AV} {v : AV} {i : TI} (hx : ev σ x = some (.ptr id off)) (hid : hk σ id = some (.box e cells)) (hc : cells[off]? = some v) (hi : lk ts t = some i) (hs : szAgg i = false) : VOp P σ ⟨o, .load t x, ty, pos, aft, g⟩ v := by
  refine VOp.mk fun c ac w ρ O hs' => ?_
  have e1 := ev_sound hs' hx
  obtain ⟨u, h1, h2⟩ := aload_sound (P := P) (t := t) (y := v) hT hs' e1 (by unfold aload; rw [hi]; simp only [hid, hs, cond_false]; exact nthK_of hc)
  exact ⟨u, fun w' hw' => by simp only [execOp, Sem.run_bind, h1 w' hw', Result.andThen_ok, Sem.run_pure], h2⟩
/-- A cell of a variable is written. -/
theorem AL.storeC (hT : TOK P ts) {id : Id} {off : Nat} {e : TypeId} {cells : List AV} {v : AV} {i : TI} {σ' : St} (hx : ev σ x = some (.ptr id off)) (hid : hk σ id = some (.box e cells)) (ho : off < cells.length) (hv : ev σ y = some v) (hcv : cellsV v = [v]) (hcell : isCell v = true) (hi : lk ts t = some i) (hs : Nat.beq i.size 1 = true)
    (hset : aset σ id (.box e (cells.set off v)) = some σ') (hw : wantedA l ⟨none, .store t x y, ty, pos, aft, g⟩ σ = some true) (h : AL P l Q rest σ') : AL P l Q (⟨none, .store t x y, ty, pos, aft, g⟩ :: rest) σ := by
  refine AL.step hw (astore_step hT hi hx hid hv (by rw [hcv]; simp [Nat.eq_of_beq_eq_true hs]) (by rw [hcv]; simp [hcell]) ?_) h
  rw [hcv, putK_of ho]
  exact hset
/-- The heap grows by a block that nobody owns. -/
theorem grow_sat {c : Ctx} {a : Act} {w w' : World} {ρ : Env} {O : Nat → Prop} (hs : SatAt c σ a w ρ O) (hsz : w.heap.size ≤ w'.heap.size) (hold : ∀ k, k < w.heap.size → w'.heap[k]? = w.heap[k]?) (hos : w'.os = w.os) (htape : w'.tape = w.tape) (hout : w'.output = w.output) : SatAt c σ a w' ρ O := by
  have hk0 : Keeps O w O w' := ⟨hsz, fun k hk _ => hold k hk, fun k hk => .inl hk⟩
  have hF := hs.F
  refine ⟨hs.defers, hs.n, hs.par, hs.fresh, fun t x ht => ?_, ⟨fun i b hb => ?_, fun i b g hb hg => ?_, hs.H.inj⟩, ?_⟩
  · obtain ⟨u, e1, e2⟩ := hs.T t x ht
    exact ⟨u, e1, e2.keep (Ext.refl ρ) hk0⟩
  · exact (hs.H.ok i b hb).keep (Ext.refl ρ) hk0 fun g hg => hold g (hs.H.own i b g hb hg).2.1
  · obtain ⟨e1, e2, e3⟩ := hs.H.own i b g hb hg
    exact ⟨e1, by omega, e3⟩
  · exact ⟨hos.trans hF.os, htape.trans hF.tape, hout.trans hF.output, by have := hF.size; omega, fun k hk hW hG => (hold k (by have := hF.size; omega)).trans (hF.same k hk hW hG), hF.mono, hF.news, hF.wlt, fun k hk => by have := hF.olt k hk; omega, hF.olt0, hF.glt⟩
/-- []byte(s): pure data. -/
theorem AL.convB (hT : TOK P ts) {q : ByteArray} {e s b s1 b1 s2 b2 : Nat} {z z1 z2 : List AV} (hsz : q.size ≤ 9223372036854775807)
    (h : AL P l Q rest ⟨n, (d, .d (.row (strD q))) :: T, H, Hp, clk⟩)
    (hw : wantedA l ⟨some d, .convert t t2 x, ty, pos, aft, g⟩ ⟨n, T, H, Hp, clk⟩ = some true := by rfl) (hd : Nat.blt d n = true := by rfl) (hx : ev ⟨n, T, H, Hp, clk⟩ x = some (st q) := by rfl)
    (ht : lk ts t = some ⟨.str, s, b, z⟩ := by rfl) (ht2 : lk ts t2 = some ⟨.slice e, s1, b1, z1⟩ := by rfl) (he : lk ts e = some ⟨.int .u8, s2, b2, z2⟩ := by rfl) : AL P l Q (⟨some d, .convert t t2 x, ty, pos, aft, g⟩ :: rest) ⟨n, T, H, Hp, clk⟩ := by
  rintro c a w ⟨ρ, O, hs⟩
  refine wpList_step fun K hK => ?_
  rw [if_pos (wantedA_sound hw ⟨ρ, O, hs⟩)]
  have e1 := one_of (ev_sound hs hx)
  have hrun := run_bytes_of_string (P := P) w t t2 e q (und_str hT ht) (und_slice hT ht2) (und_int hT he)
  generalize hB : bytesRow q (grownCap w q.size 0 e) = B at hrun
  generalize hw' : (w.drew.alloc (.cells B e (B.size, B.size + 1))) = w' at hrun
  have hsz' : w'.heap.size = w.heap.size + 1 := by
    rw [← hw']
    show (w.heap.push _).size = _
    simp
  have hold : ∀ k, k < w.heap.size → w'.heap[k]? = w.heap[k]? := by
    intro k hk
    rw [← hw']
    exact Below.heap_alloc w.drew _ k hk
  have hnew : w'.heap[w.heap.size]? = some (.cells B e (B.size, B.size + 1)) := by
    rw [← hw']
    exact heap_alloc_new w.drew _
  have hBl : ∀ (j : Nat) u, q.data.toList[j]? = some u → B[j]? = some (.int .u8 ((u.toNat : Nat) : Int)) := by
    intro j u hj
    rw [← hB]
    unfold bytesRow
    have hj' : q.data[j]? = some u := by simpa using hj
    have hlt : j < q.data.size := (Array.getElem?_eq_some_iff.1 hj').1
    rw [Array.getElem?_append_left (by simpa using hlt)]
    simp [hj']
  have hrd : Reads O w' (.row (strD q)) (.slice (some ⟨w.heap.size, 0, none⟩) q.size (grownCap w q.size 0 e)) := by
    have hl := strD_len q
    rw [← hl]
    refine .row (strD q) 1 _ ⟨w.heap.size, 0, none⟩ (fun j i => B.getD (j + i) undef) (fun x hx => ?_) ?_ (by rw [hl]; exact hsz) (fun hO => by have := hs.F.olt _ hO; simp only at this; omega) (by simp only; omega) (fun j i x dd hj hi => ?_) (fun j i x dd hj hi => ?_)
    · obtain ⟨_, _, rfl⟩ := List.mem_map.1 hx
      rfl
    · rw [hl]
      exact grownCap_ge w q.size 0 e
    · obtain ⟨u, hu, rfl⟩ := Option.map_eq_some_iff.1 (by rw [strD, List.getElem?_map] at hj; exact hj)
      cases i with
      | succ i => simp at hi
      | zero =>
        simp only [Nat.mul_one, Nat.add_zero]
        have hadd : ((⟨w.heap.size, 0, none⟩ : Addr).add j) = ⟨w.heap.size, j, none⟩ := by unfold Addr.add; split <;> simp_all
        rw [hadd, cell_of_row w' w.heap.size j B e (B.size, B.size + 1) hnew]
        simp [hBl j u hu]
    · obtain ⟨u, hu, rfl⟩ := Option.map_eq_some_iff.1 (by rw [strD, List.getElem?_map] at hj; exact hj)
      cases i with
      | succ i => simp at hi
      | zero =>
        simp at hi
        subst hi
        have : B.getD (j + 0) undef = .int .u8 ((u.toNat : Nat) : Int) := by simp [Array.getD_eq_getD_getElem?, hBl j u hu]
        show Reads O w' _ (B.getD (j + 0) undef)
        rw [this]
        exact .one _ rfl
  unfold Oper.wp
  have hex : (execOp a.eval ⟨some d, .convert t t2 x, ty, pos, aft, g⟩).run P w = .ok (.value (.slice (some ⟨w.heap.size, 0, none⟩) q.size (grownCap w q.size 0 e))) w' := by
    simp only [execOp, e1, Sem.run_bind, hrun, Result.andThen_ok, Sem.run_pure]
  rw [hex]
  have hsat := grow_sat (w' := w') hs (by omega) hold (by rw [← hw']; rfl) (by rw [← hw']; rfl) (by rw [← hw']; rfl)
  exact hK _ _ (h c _ _ ⟨ρ, O, put_sat hsat (.d _ _ hrd) (by simp [put, hd])⟩)

/-- Arrays of two numbers compared. -/
theorem agg2_of {O : Nat → Prop} {w : World} {ρ : Env} {a b : Int} {v : Value} (h : VR ρ O w (.agg [i64 a, i64 b]) v) : v = .agg #[.int .i64 a, .int .i64 b] := by
  cases h with
  | agg _ vs hl hc =>
    obtain ⟨l⟩ := vs
    match l, hl with
    | [u, v], _ =>
      have h0 := hc 0 _ u rfl rfl
      have h1 := hc 1 _ v rfl rfl
      rw [one_of h0, one_of h1]
theorem eq2_run {e : TypeId} {a b c e1 : Int} (hun : P.underlying t = some (.array 2 e)) (hue : P.underlying e = some (.int .i64)) (hsize : ∀ w, (sizeOf e).run P w = .ok 1 w) (hagg : ∀ w, (isAgg e).run P w = .ok false w) (dd : Nat) (w' : World) : (Op.equalIn (dd + 2) t (.agg #[.int .i64 a, .int .i64 b]) (.agg #[.int .i64 c, .int .i64 e1])).run P w' = .ok (decide (a = c) && decide (b = e1)) w' := by
  have hi : ∀ (p q : Int) (w : World), (Op.equalIn (dd + 1) e (.int .i64 p) (.int .i64 q)).run P w = .ok (p == q) w := fun p q w => run_equalIn_int w dd e .i64 .i64 p q hue
  rw [Op.equalIn]
  simp only [Sem.run_bind, run_underlying hun, Result.andThen_ok, hsize]
  by_cases h0 : a = c
  · by_cases h1 : b = e1
    · simp [Std.Legacy.Range.forIn_eq_forIn_range', List.range', part, hagg, hi, Result.andThen, h0, h1]
    · simp [Std.Legacy.Range.forIn_eq_forIn_range', List.range', part, hagg, hi, Result.andThen, h0, h1]
  · simp [Std.Legacy.Range.forIn_eq_forIn_range', List.range', part, hagg, hi, Result.andThen, h0]
theorem VOp.eqA2 (hT : TOK P ts) {a b c e1 : Int} {e s s0 b1 : Nat} {z z1 : List AV} (hx : ev σ x = some (.agg [i64 a, i64 b]) := by rfl) (hy : ev σ y = some (.agg [i64 c, i64 e1]) := by rfl)
    (ht : lk ts t = some ⟨.arr 2 e, s, s0, z⟩ := by rfl) (he : lk ts e = some ⟨.int .i64, 1, b1, z1⟩ := by rfl) (hE : P.eqGuardType P.depth t = false := by first | rfl | decide +kernel) : VOp P σ ⟨o, .binOp .eql t x y t2, ty, pos, aft, g⟩ (bo (decide (a = c) && decide (b = e1))) := by
  refine VOp.mk fun cc ac w ρ O hs => ⟨.bool (decide (a = c) && decide (b = e1)), fun w' _ => ?_, .d _ _ (.one _ rfl)⟩
  have q1 := agg2_of (ev_sound hs hx)
  have q2 := agg2_of (ev_sound hs hy)
  have hue := und_int hT he
  have heq : (Op.equalIn 10000 t (.agg #[.int .i64 a, .int .i64 b]) (.agg #[.int .i64 c, .int .i64 e1])).run P w' = .ok (decide (a = c) && decide (b = e1)) w' := eq2_run (und_arr hT ht) hue (hT.facts he).sizeOf (fun w => by simp [isAgg, run_underlying hue]) 9998 w'
  simp only [execOp, q1, q2]
  have hg : (eqGuard .eql t x y (.agg #[.int .i64 a, .int .i64 b]) (.agg #[.int .i64 c, .int .i64 e1])).run P w' = .ok () w' := run_eqGuard_agg w' .eql t x y _ _ hE
  have hb := run_eql_struct (P := P) w' t #[.int .i64 a, .int .i64 b] #[.int .i64 c, .int .i64 e1]
  rw [heq] at hb
  rw [Sem.run_bind, Sem.run_bind, hg]
  simp only [Result.andThen_ok]
  rw [hb]
  rfl
/-- A call that makes a variable, and answers a pointer to it and 0. -/
theorem AL.callNew {f : FuncId} {nn : Int} {vs : Array Value} {bt : TypeId} {cells : List AV} (hf : Callable P f) (hc : ∀ w, Calls P f #[.int .i64 nn] w fun e w' => e = .returned (.tuple #[.pointer (some ⟨w.heap.size, 0, none⟩), .int .i64 0]) ∧ w' = w.alloc (.cells vs bt)) (hz : zall vs.toList cells = true)
    (hw : wantedA l ⟨some d, .call ⟨.value x, args, tys⟩, ty, pos, aft, g⟩ ⟨n, T, H, Hp, clk⟩ = some true) (hd : Nat.blt d n = true) (hx : ev ⟨n, T, H, Hp, clk⟩ x = some (.fn f [])) (ha : aevs ⟨n, T, H, Hp, clk⟩ args.toList some = some [i64 nn])
    (h : AL P l Q rest ⟨n, (d, .tup [.ptr (.loc clk) 0, i64 0]) :: T, (clk, some (.box bt cells)) :: H, Hp, clk + 1⟩) : AL P l Q (⟨some d, .call ⟨.value x, args, tys⟩, ty, pos, aft, g⟩ :: rest) ⟨n, T, H, Hp, clk⟩ := by
  rintro c a w ⟨ρ, O, hs⟩
  refine wpList_step fun K hK => ?_
  rw [if_pos (wantedA_sound hw ⟨ρ, O, hs⟩)]
  have hxv := ev_sound hs hx
  generalize hq : a.eval x = q at hxv
  cases hxv with
  | fn _ _ cvs hcl hcv =>
    obtain ⟨ha1, ha2⟩ := aevs_vals hs ha
    have hcvs : cvs = #[] := by
      obtain ⟨l⟩ := cvs
      cases l with
      | nil => rfl
      | cons => simp at hcl
    have hargs : args.map a.eval ++ cvs = #[.int .i64 nn] := by
      rw [hcvs]
      obtain ⟨l⟩ := args
      match l, ha1 with
      | [p], _ =>
        have := ha2 0 (i64 nn) (a.eval p) rfl (by simp)
        simp [one_of this]
    unfold Oper.wp
    rw [run_call rfl hq hf w]
    rw [Oper.upon_enter, hargs]
    refine (hc w).mono ?_
    rintro e w2 ⟨rfl, rfl⟩
    obtain ⟨z1, z2⟩ := zall_sound hz
    have hk0 : Keeps O w (fun k => O k ∨ k = w.heap.size) (w.alloc (.cells vs bt)) := ⟨by simp, fun k hk _ => Below.heap_alloc w _ k hk, fun k hk => by
      rcases hk with hk | hk
      · exact .inl hk
      · exact .inr (by omega)⟩
    have hm := mk_sat hs (.box bt cells) (.pointer (some ⟨w.heap.size, 0, none⟩)) (.inl rfl) hk0 (by simp) (fun k hk => Below.heap_alloc w _ k hk) rfl rfl rfl
      ⟨w.heap.size, vs, upd_self _ _ _, heap_alloc_new w _, by simpa using z1, fun k x v hx hv => z2 _ _ _ k x v hx (by simpa using hv)⟩
    refine hK _ _ (h c _ _ ⟨_, _, put_sat hm (x := .tup [.ptr (.loc clk) 0, i64 0]) (v := .tuple #[.pointer (some ⟨w.heap.size, 0, none⟩), .int .i64 0]) ?_ (by simp [put, mk, hd])⟩)
    refine .tup _ _ rfl fun k x v hx hv => ?_
    match k with
    | 0 =>
      simp at hx hv
      subst hx; subst hv
      exact .ptr _ _ w.heap.size (by rw [show (upd ρ clk (Value.pointer (some ⟨w.heap.size, 0, none⟩))) (.loc clk) = some (Value.pointer (some ⟨w.heap.size, 0, none⟩)) from upd_self _ _ _]; rfl)
    | 1 =>
      simp at hx hv
      subst hx; subst hv
      exact .d _ _ (.one _ rfl)
    | k + 2 => simp at hx
end
end Go.AM
