/- A machine over pure data: part 12: sums within their range; an element's address; a function value that came in; what may be forgotten. -/
import Derived.Test.YtpohebmofcdeiaaAM11
namespace Go.AM
open Go Go.RowKit

abbrev i64 (a : Int) : AV := .d (.one (.int .i64 a))
abbrev bo (b : Bool) : AV := .d (.one (.bool b))
abbrev st (s : ByteArray) : AV := .d (.one (.string s))

theorem wrap_i64 {x : Int} (h0 : -9223372036854775808 ≤ x) (h1 : x ≤ 9223372036854775807) : IntKind.i64.wrap x = x := by
  simp only [IntKind.wrap, IntKind.bits, IntKind.signed]
  simp only [Bool.true_and]
  split
  · rename_i h
    simp at h
    omega
  · rename_i h
    simp at h
    omega

section
variable {P : Program} {l rest : List Oper} {Q : Exit → St → Prop} {n d clk : Nat} {T : List (Nat × AV)} {H : List (Nat × Option Blk)} {Hp : List Blk} {x y : Operand} {t t2 ty : TypeId} {pos : String} {aft : Array Edge} {g : Option (Nat × Bool)}

theorem AL.v {op : Op} {v : AV} (hw : wantedA l ⟨some d, op, ty, pos, aft, g⟩ ⟨n, T, H, Hp, clk⟩ = some true) (hd : Nat.blt d n = true) (hv : VOp P ⟨n, T, H, Hp, clk⟩ ⟨some d, op, ty, pos, aft, g⟩ v)
    (h : AL P l Q rest ⟨n, (d, v) :: T, H, Hp, clk⟩) : AL P l Q (⟨some d, op, ty, pos, aft, g⟩ :: rest) ⟨n, T, H, Hp, clk⟩ :=
  AL.step hw (hv.step (by simp [put, hd])) h

theorem bin_run {o : Option Tmp} {op : BinOp} {a b : Int} {k : IntKind} {r : Int} {c : Ctx} {σ : St} {ac : Act} {w : World} {ρ : Env} {O : Nat → Prop} (hs : SatAt c σ ac w ρ O) (hx : ev σ x = some (.d (.one (.int k a)))) (hy : ev σ y = some (.d (.one (.int k b))))
    (hr : aari op (.int k a) (.int k b) = some (.int k r)) (w' : World) : (execOp ac.eval ⟨o, .binOp op t x y t2, ty, pos, aft, g⟩).run P w' = .ok (.value (.int k r)) w' := by
  have e1 := one_of (ev_sound hs hx)
  have e2 := one_of (ev_sound hs hy)
  obtain ⟨h1, _⟩ := aari_sound (P := P) (t := t) x y hr w'
  simp only [execOp, e1, e2]
  rw [Sem.run_bind, h1]
  rfl

theorem VOp.add {o : Option Tmp} {σ : St} {a b : Int} (hx : ev σ x = some (i64 a)) (hy : ev σ y = some (i64 b)) (h0 : -9223372036854775808 ≤ a + b ∧ a + b ≤ 9223372036854775807) : VOp P σ ⟨o, .binOp .add t x y t2, ty, pos, aft, g⟩ (i64 (a + b)) :=
  VOp.mk fun _ _ _ _ _ hs => ⟨_, fun w' _ => bin_run hs hx hy (by simp [aari, wrap_i64 h0.1 h0.2]) w', .d _ _ (.one _ rfl)⟩
theorem VOp.sub {o : Option Tmp} {σ : St} {a b : Int} (hx : ev σ x = some (i64 a)) (hy : ev σ y = some (i64 b)) (h0 : -9223372036854775808 ≤ a - b ∧ a - b ≤ 9223372036854775807) : VOp P σ ⟨o, .binOp .sub t x y t2, ty, pos, aft, g⟩ (i64 (a - b)) :=
  VOp.mk fun _ _ _ _ _ hs => ⟨_, fun w' _ => bin_run hs hx hy (by simp [aari, wrap_i64 h0.1 h0.2]) w', .d _ _ (.one _ rfl)⟩
theorem VOp.mul {o : Option Tmp} {σ : St} {a b : Int} (hx : ev σ x = some (i64 a)) (hy : ev σ y = some (i64 b)) (h0 : -9223372036854775808 ≤ a * b ∧ a * b ≤ 9223372036854775807) : VOp P σ ⟨o, .binOp .mul t x y t2, ty, pos, aft, g⟩ (i64 (a * b)) :=
  VOp.mk fun _ _ _ _ _ hs => ⟨_, fun w' _ => bin_run hs hx hy (by simp [aari, wrap_i64 h0.1 h0.2]) w', .d _ _ (.one _ rfl)⟩
theorem VOp.neg {o : Option Tmp} {σ : St} {a : Int} (hx : ev σ x = some (i64 a)) (h0 : -9223372036854775807 ≤ a ∧ a ≤ 9223372036854775807) : VOp P σ ⟨o, .unOp .neg t x, ty, pos, aft, g⟩ (i64 (-a)) :=
  VOp.mk fun _ _ _ _ _ hs => ⟨.int .i64 (-a), fun w' _ => by
    have e1 := one_of (ev_sound hs hx)
    have e2 : IntKind.i64.wrap (0 - a) = -a := by rw [wrap_i64 (by omega) (by omega)]; omega
    simp [execOp, e1, Op.unary, Op.intArith] at e2 ⊢
    exact e2, .d _ _ (.one _ rfl)⟩

theorem VOp.bin {o : Option Tmp} {op : BinOp} {σ : St} {k : IntKind} {a b r : Int} (hx : ev σ x = some (.d (.one (.int k a)))) (hy : ev σ y = some (.d (.one (.int k b)))) (hr : aari op (.int k a) (.int k b) = some (.int k r)) :
    VOp P σ ⟨o, .binOp op t x y t2, ty, pos, aft, g⟩ (.d (.one (.int k r))) :=
  VOp.mk fun _ _ _ _ _ hs => ⟨_, fun w' _ => bin_run hs hx hy hr w', .d _ _ (.one _ rfl)⟩
/-- A sum that may wrap. -/
theorem AL.bin {op : BinOp} (hw : wantedA l ⟨some d, .binOp op t x y t2, ty, pos, aft, g⟩ ⟨n, T, H, Hp, clk⟩ = some true) (hd : Nat.blt d n = true) {k : IntKind} {a b r : Int} (hx : ev ⟨n, T, H, Hp, clk⟩ x = some (.d (.one (.int k a)))) (hy : ev ⟨n, T, H, Hp, clk⟩ y = some (.d (.one (.int k b))))
    (hr : aari op (.int k a) (.int k b) = some (.int k r)) (h : AL P l Q rest ⟨n, (d, .d (.one (.int k r))) :: T, H, Hp, clk⟩) : AL P l Q (⟨some d, .binOp op t x y t2, ty, pos, aft, g⟩ :: rest) ⟨n, T, H, Hp, clk⟩ :=
  AL.v hw hd (.bin hx hy hr) h

theorem AL.add (hw : wantedA l ⟨some d, .binOp .add t x y t2, ty, pos, aft, g⟩ ⟨n, T, H, Hp, clk⟩ = some true) (hd : Nat.blt d n = true) {a b : Int} (hx : ev ⟨n, T, H, Hp, clk⟩ x = some (i64 a)) (hy : ev ⟨n, T, H, Hp, clk⟩ y = some (i64 b))
    (h0 : -9223372036854775808 ≤ a + b ∧ a + b ≤ 9223372036854775807) (h : AL P l Q rest ⟨n, (d, i64 (a + b)) :: T, H, Hp, clk⟩) : AL P l Q (⟨some d, .binOp .add t x y t2, ty, pos, aft, g⟩ :: rest) ⟨n, T, H, Hp, clk⟩ :=
  AL.v hw hd (.add hx hy h0) h
theorem AL.sub (hw : wantedA l ⟨some d, .binOp .sub t x y t2, ty, pos, aft, g⟩ ⟨n, T, H, Hp, clk⟩ = some true) (hd : Nat.blt d n = true) {a b : Int} (hx : ev ⟨n, T, H, Hp, clk⟩ x = some (i64 a)) (hy : ev ⟨n, T, H, Hp, clk⟩ y = some (i64 b))
    (h0 : -9223372036854775808 ≤ a - b ∧ a - b ≤ 9223372036854775807) (h : AL P l Q rest ⟨n, (d, i64 (a - b)) :: T, H, Hp, clk⟩) : AL P l Q (⟨some d, .binOp .sub t x y t2, ty, pos, aft, g⟩ :: rest) ⟨n, T, H, Hp, clk⟩ :=
  AL.v hw hd (.sub hx hy h0) h
theorem AL.mul (hw : wantedA l ⟨some d, .binOp .mul t x y t2, ty, pos, aft, g⟩ ⟨n, T, H, Hp, clk⟩ = some true) (hd : Nat.blt d n = true) {a b : Int} (hx : ev ⟨n, T, H, Hp, clk⟩ x = some (i64 a)) (hy : ev ⟨n, T, H, Hp, clk⟩ y = some (i64 b))
    (h0 : -9223372036854775808 ≤ a * b ∧ a * b ≤ 9223372036854775807) (h : AL P l Q rest ⟨n, (d, i64 (a * b)) :: T, H, Hp, clk⟩) : AL P l Q (⟨some d, .binOp .mul t x y t2, ty, pos, aft, g⟩ :: rest) ⟨n, T, H, Hp, clk⟩ :=
  AL.v hw hd (.mul hx hy h0) h
theorem AL.neg (hw : wantedA l ⟨some d, .unOp .neg t x, ty, pos, aft, g⟩ ⟨n, T, H, Hp, clk⟩ = some true) (hd : Nat.blt d n = true) {a : Int} (hx : ev ⟨n, T, H, Hp, clk⟩ x = some (i64 a))
    (h0 : -9223372036854775807 ≤ a ∧ a ≤ 9223372036854775807) (h : AL P l Q rest ⟨n, (d, i64 (-a)) :: T, H, Hp, clk⟩) : AL P l Q (⟨some d, .unOp .neg t x, ty, pos, aft, g⟩ :: rest) ⟨n, T, H, Hp, clk⟩ :=
  AL.v hw hd (.neg hx h0) h

/-! ### an element's address -/
/-- An index as it stands. -/
def idxOf : AV → Option (IntKind × Int)
  | .d (.one (.int k i)) => some (k, i)
  | _ => none

theorem VOp.idx {ts : List (Nat × TI)} (hT : TOK P ts) {o : Option Tmp} {σ : St} {xs : List (List D)} (hx : ev σ x = some (.d (.row xs)))
    {k : IntKind} {i : Int} (hy : ev σ y = some (.d (.one (.int k i)))) {e s b : Nat} {z : List AV} (ht : lk ts t = some ⟨.slice e, s, b, z⟩) {ie : TI} (he : lk ts e = some ie) {el : List D} (h0 : 0 ≤ i) (hel : xs[i.toNat]? = some el)
    (hlen : el.length = ie.size) : VOp P σ ⟨o, .indexAddr t x y, ty, pos, aft, g⟩ (.eptr el) := by
  refine VOp.mk fun c ac w ρ O hs => ?_
  have e1 := ev_sound hs hx
  have e2 := one_of (ev_sound hs hy)
  obtain ⟨du, hu1, hu2⟩ := (hT.facts ht).und
  have hsz := (hT.facts he).sizeOf (P := P)
  have hu3 : du = .slice e := by
    cases du <;> simp [tkOf] at hu2
    rw [hu2]
  subst hu3
  generalize hq : ac.eval x = q at e1
  cases e1 with
  | d _ _ hr =>
    cases hr with
    | none a c' => simp at hel
    | row _ sz c' ad u hl hc hm hO hb hcell hsub =>
      have hlt : i.toNat < xs.length := (List.getElem?_eq_some_iff.1 hel).1
      have hsz' : sz = ie.size := by rw [← hlen]; exact (hl el (List.mem_of_getElem? hel)).symm
      refine ⟨.pointer (some (ad.add (i.toNat * ie.size))), fun w' _ => ?_, ?_⟩
      · have hcond : 0 ≤ i ∧ i < (xs.length : Int) := ⟨h0, by omega⟩
        simp [execOp, hq, e2, Instr.indexAt, asIntOf, run_underlying hu1, hsz, hcond]
      · subst hsz'
        refine .eptr el _ (fun k => u i.toNat k) (by rw [block_add]; exact hO) (by rw [block_add]; exact hb) (fun k' d' hd' => ?_) (fun k' d' hd' => hsub _ _ _ d' hel hd')
        rw [add_add]
        exact hcell _ _ _ d' hel hd'
theorem AL.idx {ts : List (Nat × TI)} (hT : TOK P ts) (hw : wantedA l ⟨some d, .indexAddr t x y, ty, pos, aft, g⟩ ⟨n, T, H, Hp, clk⟩ = some true) (hd : Nat.blt d n = true) {xs : List (List D)} (hx : ev ⟨n, T, H, Hp, clk⟩ x = some (.d (.row xs)))
    {k : IntKind} {i : Int} (hy : ev ⟨n, T, H, Hp, clk⟩ y = some (.d (.one (.int k i)))) {e s b : Nat} {z : List AV} (ht : lk ts t = some ⟨.slice e, s, b, z⟩) {ie : TI} (he : lk ts e = some ie) {el : List D} (h0 : 0 ≤ i) (hel : xs[i.toNat]? = some el)
    (hlen : el.length = ie.size) (h : AL P l Q rest ⟨n, (d, .eptr el) :: T, H, Hp, clk⟩) : AL P l Q (⟨some d, .indexAddr t x y, ty, pos, aft, g⟩ :: rest) ⟨n, T, H, Hp, clk⟩ :=
  AL.v hw hd (.idx hT hx hy ht he h0 hel hlen) h

end

/-! ### a function value that came in -/
def lf1 : AV → Bool
  | .d _ => true
  | .nilrow => true
  | .eptr _ => true
  | .ptr (.par _) _ => true
  | .rptr (.par _) _ _ _ => true
  | .own (.par _) => true
  | _ => false
def lf2 : AV → Bool
  | .agg xs => xs.all lf1
  | .fn _ xs => xs.all lf1
  | x => lf1 x
theorem lf1_LF {x : AV} (h : lf1 x = true) : LF x := by
  cases x with
  | d x => exact .d x
  | nilrow => exact .nilrow
  | eptr r => exact .eptr r
  | ptr i off => cases i with
    | par k => exact .ptr k off
    | loc k => cases h
  | rptr i sz j f => cases i with
    | par k => exact .rptr k sz j f
    | loc k => cases h
  | own i => cases i with
    | par k => exact .own k
    | loc k => cases h
  | _ => cases h
theorem lf2_LF {x : AV} (h : lf2 x = true) : LF x := by
  cases x with
  | agg xs => exact .agg xs fun y hy => lf1_LF (List.all_eq_true.1 h y hy)
  | fn f xs => exact .fn f xs fun y hy => lf1_LF (List.all_eq_true.1 h y hy)
  | d x => exact .d x
  | nilrow => exact .nilrow
  | eptr r => exact .eptr r
  | ptr i off => exact lf1_LF (x := .ptr i off) h
  | rptr i sz j f => exact lf1_LF (x := .rptr i sz j f) h
  | own i => exact lf1_LF (x := .own i) h
  | _ => cases h

section
variable {P : Program} {l rest : List Oper} {Q : Exit → St → Prop} {n d clk : Nat} {T : List (Nat × AV)} {H : List (Nat × Option Blk)} {Hp : List Blk} {x : Operand} {args : Array Operand} {tys : Array TypeId} {ty : TypeId} {pos : String} {aft : Array Edge} {g : Option (Nat × Bool)}

/-- A call that is handed all that came in, and leaves it as it was. -/
theorem AL.callPoly (hw : wantedA l ⟨some d, .call ⟨.value x, args, tys⟩, ty, pos, aft, g⟩ ⟨n, T, H, Hp, clk⟩ = some true) (hd : Nat.blt d n = true) {f : FuncId} {caps as_ : List AV} (hx : ev ⟨n, T, H, Hp, clk⟩ x = some (.fn f caps))
    (ha : aevs ⟨n, T, H, Hp, clk⟩ args.toList some = some as_) (hla : as_.all lf2 = true) (hlc : ∀ x ∈ caps, LF x) (hlb : ∀ b ∈ Hp, LFB b)
    {R : AV → Prop} (hc : ACalls P f (as_ ++ caps) Hp fun r Hp' Hr => R r ∧ ok3 0 r = true ∧ Hp' = Hp ∧ Hr = []) (h : ∀ r, R r → AL P l Q rest ⟨n, (d, r) :: T, H, Hp, clk⟩) :
    AL P l Q (⟨some d, .call ⟨.value x, args, tys⟩, ty, pos, aft, g⟩ :: rest) ⟨n, T, H, Hp, clk⟩ := by
  rintro c a w ⟨ρ, O, hs⟩
  refine wpList_step fun K hK => ?_
  rw [if_pos (wantedA_sound hw ⟨ρ, O, hs⟩)]
  have hxv := ev_sound hs hx
  generalize hq : a.eval x = q at hxv
  cases hxv with
  | fn _ _ cvs hcl' hcv =>
    obtain ⟨ha1, ha2⟩ := aevs_vals hs ha
    unfold Oper.wp
    rw [run_call rfl hq hc.1 w]
    rw [Oper.upon_enter]
    have hF := hs.F
    have hini : Ini ⟨c.ρp, O, c.W, w⟩ (as_ ++ caps) Hp (args.map a.eval ++ cvs) := by
      refine ⟨by simp [ha1, hcl'], fun k y v hy hv => ?_, ⟨fun i b hb => ?_, fun i b g hb hg => ?_, fun i j bi bj g hbi hbj hgi hgj => ?_⟩, fun k hk' => ⟨hF.mono k (hF.wlt k hk').1, Nat.lt_of_lt_of_le (hF.wlt k hk').2 hF.size⟩, hF.olt⟩
      · have hLF : LF y := by
          rcases List.mem_append.1 (List.mem_of_getElem? hy) with hy | hy
          · exact lf2_LF (List.all_eq_true.1 hla y hy)
          · exact hlc y hy
        refine hLF.vr (ρ := ρ) (fun k => hs.par k) ?_
        rw [Array.getElem?_append] at hv
        simp only [Array.size_map] at hv
        rw [List.getElem?_append] at hy
        by_cases hk' : k < args.size
        · rw [if_pos hk'] at hv
          rw [if_pos (by omega)] at hy
          exact ha2 k _ v hy hv
        · rw [if_neg hk'] at hv
          rw [if_neg (by omega)] at hy
          rw [ha1] at hy
          exact hcv _ _ v hy hv
      · cases i with
        | loc k => cases hb
        | par k => exact (hlb b (List.mem_of_getElem? hb)).bok (ρ := ρ) (fun k => hs.par k) (hs.par k) (hs.H.ok (.par k) b hb)
      · cases i with
        | loc k => cases hb
        | par k => exact hs.H.own (.par k) b g hb (by rw [hs.par]; exact hg)
      · cases i with
        | loc k => cases hbi
        | par k =>
          cases j with
          | loc k' => cases hbj
          | par k' => exact hs.H.inj (.par k) (.par k') bi bj g hbi hbj (by rw [hs.par]; exact hgi) (by rw [hs.par]; exact hgj)
    refine (hc.2 _ _ hini).mono ?_
    rintro e w2 ⟨r, Hp', Hr, v, ρ2, O2, ⟨hR, hok, rfl, rfl⟩, rfl, hf⟩
    have hF2 := hf.F
    have hext : Ext ρ2 ρ := by
      intro i u hu
      cases i with
      | par k => rw [hf.par] at hu; rw [hs.par]; exact hu
      | loc k => rw [hf.fresh k (Nat.zero_le _)] at hu; cases hu
    have hWO : ∀ k, c.W k → k < c.w0.heap.size := fun k h => (hF.wlt k h).2
    have hdead : ∀ i b g, hk ⟨n, T, H, Hp', clk⟩ (.loc i) = some b → (ρ (.loc i)).bind vblk = some g → w2.heap[g]? = w.heap[g]? := by
      intro i b g hb hg
      obtain ⟨e1, e2, e3⟩ := hs.H.own _ b g hb hg
      refine hF2.same g e2 (fun h => ?_)
      have h1 := hWO g h
      have h2 : c.w0.heap.size ≤ g := e3
      omega
    have hkeep : Keeps O w O2 w2 := ⟨hF2.size, fun k hk hO => hF2.same k hk (fun h => hO (hF.mono k (hF.wlt k h).1)), hF2.news⟩
    have hsat : SatAt c ⟨n, T, H, Hp', clk⟩ a w2 ρ O2 := by
      refine ⟨hs.defers, hs.n, hs.par, hs.fresh, fun t y ht => ?_, ⟨fun i b hb => ?_, fun i b g hb hg => ?_, hs.H.inj⟩, ?_⟩
      · obtain ⟨u, e1, e2⟩ := hs.T t y ht
        exact ⟨u, e1, e2.keep (Ext.refl ρ) hkeep⟩
      · cases i with
        | par k => exact (hf.H.ok (.par k) b hb).keep hext (Keeps.refl _ _) (fun _ _ => rfl)
        | loc k => exact (hs.H.ok (.loc k) b hb).keep (Ext.refl ρ) hkeep (fun g hg => hdead k b g hb hg)
      · obtain ⟨e1, e2, e3⟩ := hs.H.own i b g hb hg
        exact ⟨hF2.mono g e1, Nat.lt_of_lt_of_le e2 hF2.size, e3⟩
      · refine ⟨hF2.os.trans hF.os, hF2.tape.trans hF.tape, hF2.output.trans hF.output, Nat.le_trans hF.size hF2.size, fun k hk' hkW => ?_, fun k hk' => hF2.mono k (hF.mono k hk'), fun k hk' => ?_, hF.wlt, hF2.olt, hF.olt0⟩
        · exact (hF2.same k (Nat.lt_of_lt_of_le hk' hF.size) hkW).trans (hF.same k hk' hkW)
        · rcases hF2.news k hk' with h | h
          · exact hF.news k h
          · exact .inr (Nat.le_trans hF.size h)
    exact hK _ _ (h r hR c _ w2 ⟨ρ, O2, put_sat hsat (v := v) (x := r) (hf.r.keep hext (Keeps.refl _ _)) (by simp [put, hd])⟩)
end

/-! ### what may be forgotten -/
/-- Blocks of the call's own are numbered below c. -/
def ltI (c : Nat) : Id → Bool
  | .loc k => Nat.blt k c
  | .par _ => true
def lt1 (c : Nat) : AV → Bool
  | .ptr i _ => ltI c i
  | .own i => ltI c i
  | .rptr i _ _ _ => ltI c i
  | .sub i _ _ _ _ => ltI c i
  | .d _ => true
  | .nilrow => true
  | .eptr _ => true
  | _ => false
def lt2 (c : Nat) : AV → Bool
  | .agg xs => xs.all (lt1 c)
  | .tup xs => xs.all (lt1 c)
  | .fn _ xs => xs.all (lt1 c)
  | x => lt1 c x
def rnI (m : Nat → Nat) : Id → Id
  | .loc k => .loc (m k)
  | i => i
def rn1 (m : Nat → Nat) : AV → AV
  | .ptr i off => .ptr (rnI m i) off
  | .own i => .own (rnI m i)
  | .rptr i sz j f => .rptr (rnI m i) sz j f
  | .sub i sz lo n full => .sub (rnI m i) sz lo n full
  | x => x
def rn2 (m : Nat → Nat) : AV → AV
  | .agg xs => .agg (xs.map (rn1 m))
  | .tup xs => .tup (xs.map (rn1 m))
  | .fn f xs => .fn f (xs.map (rn1 m))
  | x => rn1 m x
def rnB (m : Nat → Nat) : Blk → Blk
  | .box e cells => .box e (cells.map (rn1 m))
  | b => b
def ltB (c : Nat) : Blk → Bool
  | .box _ cells => cells.all (lt1 c)
  | _ => true

section
variable {ρ ρ' : Env} {O : Nat → Prop} {w : World} {m : Nat → Nat} {c : Nat}
theorem ltI_eq (hl : ∀ k, k < c → ρ' (.loc k) = ρ (.loc (m k))) (hp : ∀ k, ρ' (.par k) = ρ (.par k)) {i : Id} (h : ltI c i = true) : ρ' i = ρ (rnI m i) := by
  cases i with
  | loc k => exact hl k (by simpa [ltI] using h)
  | par k => exact hp k
theorem rn1_vr (hl : ∀ k, k < c → ρ' (.loc k) = ρ (.loc (m k))) (hp : ∀ k, ρ' (.par k) = ρ (.par k)) {x : AV} (hx : lt1 c x = true) {v : Value} (h : VR ρ O w (rn1 m x) v) : VR ρ' O w x v := by
  cases x with
  | ptr i off => cases h with | ptr _ _ g hg => exact .ptr _ _ g (by rw [ltI_eq hl hp hx]; exact hg)
  | own i => cases h with | own _ _ h h1 => exact .own _ _ (by rw [ltI_eq hl hp hx]; exact h) h1
  | rptr i sz j f => cases h with | rptr _ _ _ _ g hg => exact .rptr _ _ _ _ g (by rw [ltI_eq hl hp hx]; exact hg)
  | sub i sz lo n full =>
    cases h with
    | sub _ _ _ _ _ g L C c off h h1 h2 h3 h4 h5 => exact .sub _ _ _ _ _ g L C c off (by rw [ltI_eq hl hp hx]; exact h) h1 h2 h3 h4 h5
    | subN _ _ _ h => exact .subN _ _ _ (by rw [ltI_eq hl hp hx]; exact h)
  | d y => cases h with | d _ _ h => exact .d _ _ h
  | nilrow => cases h; exact .nilrow
  | eptr r => cases h with | eptr _ p u a b c d => exact .eptr _ p u a b c d
  | _ => simp [lt1] at hx
theorem rn2_vr (hl : ∀ k, k < c → ρ' (.loc k) = ρ (.loc (m k))) (hp : ∀ k, ρ' (.par k) = ρ (.par k)) {x : AV} (hx : lt2 c x = true) {v : Value} (h : VR ρ O w (rn2 m x) v) : VR ρ' O w x v := by
  have lst : ∀ (xs : List AV) (vs : Array Value), xs.all (lt1 c) = true → (∀ (k : Nat) x v, (xs.map (rn1 m))[k]? = some x → vs[k]? = some v → VR ρ O w x v) → ∀ (k : Nat) x v, xs[k]? = some x → vs[k]? = some v → VR ρ' O w x v :=
    fun xs vs ha h k x v hx hv => rn1_vr hl hp (List.all_eq_true.1 ha x (List.mem_of_getElem? hx)) (h k _ v (by simp [hx]) hv)
  cases x with
  | fn f caps => cases h with | fn _ _ vs hl' hc => exact .fn _ _ vs (by simpa using hl') (lst caps vs hx hc)
  | agg xs => cases h with | agg _ vs hl' hc => exact .agg _ vs (by simpa using hl') (lst xs vs hx hc)
  | tup xs => cases h with | tup _ vs hl' hc => exact .tup _ vs (by simpa using hl') (lst xs vs hx hc)
  | d y => exact rn1_vr hl hp (x := .d y) hx h
  | nilrow => exact rn1_vr hl hp (x := .nilrow) hx h
  | ptr i off => exact rn1_vr hl hp (x := .ptr i off) hx h
  | eptr y => exact rn1_vr hl hp (x := .eptr y) hx h
  | rptr i sz j f => exact rn1_vr hl hp (x := .rptr i sz j f) hx h
  | own i => exact rn1_vr hl hp (x := .own i) hx h
  | sub i sz lo n full => exact rn1_vr hl hp (x := .sub i sz lo n full) hx h
  | junk => exact rn1_vr hl hp (x := .junk) hx h
theorem rnB_bok (hl : ∀ k, k < c → ρ' (.loc k) = ρ (.loc (m k))) (hp : ∀ k, ρ' (.par k) = ρ (.par k)) {b : Blk} (hb : ltB c b = true) {i i' : Id} (hi : ρ i = ρ' i') (h : BOK ρ O w i (rnB m b)) : BOK ρ' O w i' b := by
  cases b with
  | box e cells =>
    obtain ⟨g, vs, h1, h2, h3, h4⟩ := h
    refine ⟨g, vs, by rw [← hi]; exact h1, h2, by simpa using h3, fun k x v hx hv => ?_⟩
    obtain ⟨e1, e2⟩ := h4 k (rn1 m x) v (by simp [hx]) hv
    exact ⟨rn1_vr hl hp (List.all_eq_true.1 hb x (List.mem_of_getElem? hx)) e1, e2⟩
  | row e sz xs =>
    obtain ⟨v, vs, h1, h2⟩ := h
    exact ⟨v, vs, by rw [← hi]; exact h1, h2⟩
  | iter s pos =>
    obtain ⟨g, h1, h2⟩ := h
    exact ⟨g, by rw [← hi]; exact h1, h2⟩
end

/-- Slots told by a list. -/
def subT (m : Nat → Nat) (c : Nat) (T : List (Nat × AV)) : List (Nat × AV) → Prop
  | [] => True
  | (t, x) :: r => (lk T t = some (rn2 m x) ∧ lt2 c x = true ∨ lk T t = some x ∧ LF x) ∧ subT m c T r
def subH (m : Nat → Nat) (c : Nat) (σ : St) : List (Nat × Option Blk) → Prop
  | [] => True
  | (k, b) :: r => (match b with | some b => k < c ∧ hk σ (.loc (m k)) = some (rnB m b) ∧ ltB c b = true | none => True) ∧ subH m c σ r

theorem subT_lk {m : Nat → Nat} {c : Nat} {T : List (Nat × AV)} : ∀ {T' : List (Nat × AV)}, subT m c T T' → ∀ {t : Nat} {x : AV}, lk T' t = some x → lk T t = some (rn2 m x) ∧ lt2 c x = true ∨ lk T t = some x ∧ LF x
  | [], _, t, x, h => by simp [lk] at h
  | (s, y) :: r, ⟨h1, h3⟩, t, x, h => by
    by_cases e : s = t
    · subst e
      rw [lk_cons_self] at h
      injection h with h
      subst h
      exact h1
    · rw [lk_cons_ne e] at h
      exact subT_lk h3 h
theorem subH_lk {m : Nat → Nat} {c : Nat} {σ : St} : ∀ {H' : List (Nat × Option Blk)}, subH m c σ H' → ∀ {k : Nat} {b : Blk}, lk H' k = some (some b) → k < c ∧ hk σ (.loc (m k)) = some (rnB m b) ∧ ltB c b = true
  | [], _, t, x, h => by simp [lk] at h
  | (s, y) :: r, ⟨h1, h3⟩, t, x, h => by
    by_cases e : s = t
    · subst e
      rw [lk_cons_self] at h
      injection h with h
      subst h
      exact h1
    · rw [lk_cons_ne e] at h
      exact subH_lk h3 h

/-- The environment, its own blocks renumbered. -/
def renum (ρ : Env) (m : Nat → Nat) (c : Nat) : Env
  | .par k => ρ (.par k)
  | .loc k => if k < c then ρ (.loc (m k)) else none

/-- Another state that says less; m tells how its own blocks are numbered in the first. -/
theorem Imp.weak (m : Nat → Nat) {n c clk : Nat} {T T' : List (Nat × AV)} {H H' : List (Nat × Option Blk)} {Hp : List Blk} (hm : ∀ j k, j < c → k < c → m j = m k → j = k) (hb : ∀ b ∈ Hp, LFB b) (hT : subT m c T T') (hH : subH m c ⟨n, T, H, Hp, clk⟩ H') : Imp ⟨n, T, H, Hp, clk⟩ ⟨n, T', H', Hp, c⟩ := by
  rintro cx a w ⟨ρ, O, hs⟩
  have hl : ∀ k, k < c → renum ρ m c (.loc k) = ρ (.loc (m k)) := fun k hk => by simp [renum, hk]
  have hp : ∀ k, renum ρ m c (.par k) = ρ (.par k) := fun _ => rfl
  have view : ∀ i b, hk ⟨n, T', H', Hp, c⟩ i = some b → (∃ k, i = .par k ∧ hk ⟨n, T, H, Hp, clk⟩ i = some b) ∨ ∃ k, i = .loc k ∧ k < c ∧ hk ⟨n, T, H, Hp, clk⟩ (.loc (m k)) = some (rnB m b) ∧ ltB c b = true := by
    intro i b hb
    cases i with
    | par k => exact .inl ⟨k, rfl, hb⟩
    | loc k =>
      simp only [hk] at hb
      split at hb
      · rename_i b' hb'
        cases hb
        exact .inr ⟨k, rfl, subH_lk hH hb'⟩
      · cases hb
  refine ⟨renum ρ m c, O, hs.defers, hs.n, hs.par, fun k hk' => ?_, fun t x ht => ?_, ⟨fun i b hb' => ?_, fun i b g hb' hg => ?_, fun i j bi bj g hbi hbj hgi hgj => ?_⟩, hs.F⟩
  · have : ¬ k < c := by simp only at hk'; omega
    simp [renum, this]
  · rcases subT_lk hT ht with ⟨h1, h2⟩ | ⟨h1, h2⟩
    · obtain ⟨v, e1, e2⟩ := hs.T t _ h1
      exact ⟨v, e1, rn2_vr hl hp h2 e2⟩
    · obtain ⟨v, e1, e2⟩ := hs.T t _ h1
      exact ⟨v, e1, LF.vr (ρ := ρ) (ρ' := renum ρ m c) (fun _ => rfl) h2 e2⟩
  · rcases view i b hb' with ⟨k, rfl, h1⟩ | ⟨k, rfl, h1, h2, h3⟩
    · exact LFB.bok (ρ := ρ) (ρ' := renum ρ m c) (fun _ => rfl) (i := .par k) (i' := .par k) rfl (hb b (List.mem_of_getElem? h1)) (hs.H.ok (.par k) b h1)
    · exact rnB_bok hl hp h3 (hl k h1).symm (hs.H.ok _ _ h2)
  · rcases view i b hb' with ⟨k, rfl, h1⟩ | ⟨k, rfl, h1, h2, h3⟩
    · exact hs.H.own (.par k) b g h1 hg
    · rw [hl k h1] at hg
      obtain ⟨e1, e2, e3⟩ := hs.H.own (.loc (m k)) _ g h2 hg
      exact ⟨e1, e2, e3⟩
  · rcases view i bi hbi with ⟨k, rfl, h1⟩ | ⟨k, rfl, h1, h2, h3⟩ <;> rcases view j bj hbj with ⟨k', rfl, h1'⟩ | ⟨k', rfl, h1', h2', h3'⟩
    · exact hs.H.inj (.par k) (.par k') bi bj g h1 h1' hgi hgj
    · rw [hl k' h1'] at hgj
      have := hs.H.inj (.par k) (.loc (m k')) _ _ g h1 h2' hgi hgj
      cases this
    · rw [hl k h1] at hgi
      have := hs.H.inj (.loc (m k)) (.par k') _ _ g h2 h1' hgi hgj
      cases this
    · rw [hl k h1] at hgi
      rw [hl k' h1'] at hgj
      have := hs.H.inj (.loc (m k)) (.loc (m k')) _ _ g h2 h2' hgi hgj
      injection this with this
      rw [hm k k' h1 h1' this]

end Go.AM
namespace Go.AM
open Go Go.RowKit

/-- A call that leaves what it was handed as it was, and hands back what names no block. -/
def ACallU (P : Program) (f : FuncId) (args : List AV) (Hp : List Blk) (r : AV) : Prop := ACalls P f args Hp fun r' Hp' Hr => r' = r ∧ ok3 0 r' = true ∧ Hp' = Hp ∧ Hr = []

theorem AW.bound {P : Program} {Q : Exit → St → Prop} {σ : St} {code : Code} (t : Nat) {xs : List (List D)} (hx : lk σ.T t = some (.d (.row xs))) (h : xs.length ≤ 9223372036854775807 → AW P code Q σ) : AW P code Q σ := by
  rintro c a w ⟨ρ, O, hs⟩
  obtain ⟨v, _, hv⟩ := hs.T t _ hx
  cases hv with
  | d _ _ hr =>
    obtain ⟨_, _, _, _, hm⟩ := hr.slice
    exact h hm c a w ⟨ρ, O, hs⟩

end Go.AM
