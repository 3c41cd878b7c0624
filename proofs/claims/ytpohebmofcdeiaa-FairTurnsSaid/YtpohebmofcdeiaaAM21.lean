/- A machine over pure data: part 21: two Bools, two structs compared; a slice asked for nil; the smaller, the greater; a row's element written; a call's rows handed back as data. -/
import Derived.Test.YtpohebmofcdeiaaAM20
import Derived.Laws.StructEq
import Derived.WalkSpells
namespace Go.AM
open Go Go.RowKit

theorem und_bool {P : Program} {ts : List (Nat × TI)} (hT : TOK P ts) {t s b : Nat} {z : List AV} (ht : lk ts t = some ⟨.bool, s, b, z⟩) : P.underlying t = some .bool := by
  obtain ⟨du, hu1, hu2⟩ := (hT.facts ht).und
  cases du <;> simp [tkOf] at hu2
  exact hu1

/-! ### structs of scalars compared -/
def acell (k : TK) (u v : Value) : Option Bool :=
  match k, u, v with
  | .int _, .int k a, .int k' b => bif decide (k = k') then some (decide (a = b)) else none
  | .bool, .bool a, .bool b => some (decide (a = b))
  | .str, .string a, .string b => some (decide (a = b))
  | _, _, _ => none
def aeqL {β : Type} (ts : List (Nat × TI)) : Nat → List Nat → List Nat → List AV → List AV → (Bool → Option β) → Option β
  | k, o :: os, t :: tys, x :: cx, y :: cy, K => bif Nat.beq o k then match lk ts t with
    | some i => match x with
      | .d (.one u) => match y with
        | .d (.one v) => match acell i.k u v with
          | some b => aeqL ts (k + 1) os tys cx cy fun r => K (b && r)
          | none => none
        | _ => none
      | _ => none
    | none => none else none
  | _, [], [], [], [], K => K true
  | _, _, _, _, _, _ => none
def aeq {β : Type} (ts : List (Nat × TI)) (t : Nat) (x y : AV) (K : Bool → Option β) : Option β :=
  match lk ts t with
  | some ⟨.strct offs tys, _, _, _⟩ => match x with
    | .agg cx => match y with
      | .agg cy => aeqL ts 0 offs tys cx cy K
      | _ => none
    | _ => none
  | some ⟨.bool, _, _, _⟩ => match x with
    | .d (.one (.bool a)) => match y with
      | .d (.one (.bool b)) => K (decide (a = b))
      | _ => none
    | _ => none
  | _ => none
/-- Its fields have names, and none of them is an interface. -/
def eqOK (P : Program) (t : Nat) : Bool := (P.fieldsOf t).toList.all (fun f => f.name != "_") && !P.stoodInHeld t && !P.eqGuardType P.depth t

theorem acell_sound {P : Program} {ts : List (Nat × TI)} (hT : TOK P ts) {t : Nat} {i : TI} (hi : lk ts t = some i) {u v : Value} {b : Bool} (h : acell i.k u v = some b) (w : World) (d : Nat) :
    (Op.equalIn (d + 1) t u v).run P w = .ok b w ∧ (isAgg t).run P w = .ok false w := by
  obtain ⟨du, hu1, hu2⟩ := (hT.facts hi).und
  unfold acell at h
  split at h
  · rename_i hk
    rw [hk] at hu2
    cases du <;> simp [tkOf] at hu2
    rename_i k0 k a k' b' _
    by_cases he : k = k'
    · subst he
      simp only [decide_true, cond_true] at h
      cases h
      exact ⟨run_equalIn_int w d t k _ a b' hu1, by simp [isAgg, run_underlying hu1]⟩
    · simp only [decide_eq_false he, cond_false] at h
      cases h
  · rename_i hk
    rw [hk] at hu2
    cases du <;> simp [tkOf] at hu2
    rename_i a b'
    cases h
    exact ⟨run_equalIn_bool' w d t a b' hu1, by simp [isAgg, run_underlying hu1]⟩
  · rename_i hk
    rw [hk] at hu2
    cases du <;> simp [tkOf] at hu2
    rename_i a b'
    cases h
    refine ⟨?_, by simp [isAgg, run_underlying hu1]⟩
    simp only [Op.equalIn, Sem.run_bind, run_underlying hu1, Result.andThen_ok]
    simp only [Sem.run_pure]
    congr 1
    rw [beq_toListBytes, ByteArray.toList_eq, ByteArray.toList_eq, toList_inj]
  · cases h

theorem aeqL_sound {P : Program} {ts : List (Nat × TI)} (hT : TOK P ts) {ρ : Env} {O : Nat → Prop} {w0 : World} {β : Type} {r : β} {xs ys : Array Value} (d : Nat) : ∀ (fs : List Field) (k : Nat) (cx cy : List AV) (K : Bool → Option β),
    aeqL ts k (fs.map (·.offset)) (fs.map (·.type)) cx cy K = some r → (∀ f ∈ fs, f.name ≠ "_") →
    (∀ (n : Nat) x v, cx[n]? = some x → xs[k + n]? = some v → VR ρ O w0 x v) → (∀ (n : Nat) x v, cy[n]? = some x → ys[k + n]? = some v → VR ρ O w0 x v) → k + cx.length ≤ xs.size → k + cy.length ≤ ys.size →
    ∃ b, K b = some r ∧ ∀ w, (Op.eqFields (d + 1) xs ys fs).run P w = .ok b w
  | [], k, cx, cy, K, h, hn, hx, hy, _, _ => by
    cases cx <;> cases cy <;> simp [aeqL] at h
    exact ⟨true, h, fun w => by simp [Op.eqFields]⟩
  | f :: fs, k, cx, cy, K, h, hn, hx, hy, hlx, hly => by
    cases cx with
    | nil => simp [aeqL] at h
    | cons x cx =>
      cases cy with
      | nil => simp [aeqL] at h
      | cons y cy =>
        simp only [List.map_cons, aeqL] at h
        cases hb : Nat.beq f.offset k with
        | false => rw [hb] at h; cases h
        | true =>
          rw [hb] at h
          have hk := Nat.eq_of_beq_eq_true hb
          simp only [cond_true] at h
          split at h
          · rename_i i hi
            split at h
            · rename_i u
              split at h
              · rename_i v
                split at h
                · rename_i b hc
                  simp only [List.length_cons] at hlx hly
                  obtain ⟨b2, e1, e2⟩ := aeqL_sound hT d fs (k + 1) cx cy _ h (fun g hg => hn g (by simp [hg])) (fun n x' v' h1 h2 => hx (n + 1) x' v' (by simpa using h1) (by rw [← h2]; congr 1; omega)) (fun n x' v' h1 h2 => hy (n + 1) x' v' (by simpa using h1) (by rw [← h2]; congr 1; omega)) (by omega) (by omega)
                  refine ⟨b && b2, e1, fun w => ?_⟩
                  have hkx : k < xs.size := by omega
                  have hky : k < ys.size := by omega
                  have hu : xs[k]? = some u := by
                    have h1 := hx 0 (.d (.one u)) xs[k] rfl (by simp [hkx])
                    rw [Array.getElem?_eq_getElem hkx, one_of h1]
                  have hv : ys[k]? = some v := by
                    have h1 := hy 0 (.d (.one v)) ys[k] rfl (by simp [hky])
                    rw [Array.getElem?_eq_getElem hky, one_of h1]
                  obtain ⟨c1, c2⟩ := acell_sound hT hi hc w d
                  have hp1 : (part f.type xs f.offset).run P w = .ok u w := by simp [part, c2, hk, hu]
                  have hp2 : (part f.type ys f.offset).run P w = .ok v w := by simp [part, c2, hk, hv]
                  simp only [Op.eqFields, hn f (by simp), ne_eq, not_false_eq_true, if_true, Sem.run_bind, hp1, hp2, c1, Result.andThen_ok]
                  cases b with
                  | true => simpa using e2 w
                  | false => simp
                · cases h
              · cases h
            · cases h
          · cases h

section
variable {P : Program} {l rest : List Oper} {Q : Exit → St → Prop} {n d clk : Nat} {T : List (Nat × AV)} {H : List (Nat × Option Blk)} {Hp : List Blk} {x y : Operand} {args : Array Operand} {tys : Array TypeId} {t t2 ty : TypeId} {pos : String} {aft : Array Edge} {g : Option (Nat × Bool)}

theorem aeq_run {ts : List (Nat × TI)} (hT : TOK P ts) (hE : eqOK P t = true) {β : Type} {r : β} {K : Bool → Option β} {vx vy : AV} (h : aeq ts t vx vy K = some r) {ρ : Env} {O : Nat → Prop} {w : World} {u v : Value} (hu : VR ρ O w vx u) (hv : VR ρ O w vy v) (ox oy : Operand) (op : BinOp) :
    ∃ b, K b = some r ∧ ∀ w', (eqGuard op t ox oy u v).run P w' = .ok () w' ∧ (Op.equal t u v).run P w' = .ok b w' ∧ (∀ k a, u ≠ .int k a) ∧ (∀ k a, u ≠ .float k a) ∧ (∀ k a b, u ≠ .complex k a b) ∧ (∀ s, u ≠ .string s) := by
  unfold eqOK at hE
  simp only [Bool.and_eq_true, Bool.not_eq_true', List.all_eq_true, bne_iff_ne] at hE
  obtain ⟨⟨hE1, hE2⟩, hE3⟩ := hE
  unfold aeq at h
  split at h
  · rename_i offs tys s b z hi
    obtain ⟨du, hu1, hu2⟩ := (hT.facts hi).und
    cases du with
    | struct fs =>
      simp only [tkOf, TK.strct.injEq] at hu2
      split at h
      · rename_i cx
        split at h
        · rename_i cy
          cases hu with
          | agg _ xs hlx hcx =>
            cases hv with
            | agg _ ys hly hcy =>
              have hf : P.fieldsOf t = fs := by simp [Program.fieldsOf, hu1]
              rw [← hu2.1, ← hu2.2] at h
              obtain ⟨b', e1, e2⟩ := aeqL_sound (ρ := ρ) (O := O) (w0 := w) (xs := xs) (ys := ys) hT 9998 fs.toList 0 cx cy K h (fun f hf' => hE1 f (by rw [hf]; exact hf')) (fun n x v h1 h2 => hcx n x v h1 (by simpa using h2)) (fun n x v h1 h2 => hcy n x v h1 (by simpa using h2)) (by omega) (by omega)
              refine ⟨b', e1, fun w' => ⟨run_eqGuard_agg w' op t ox oy xs ys hE3, ?_, by simp, by simp, by simp, by simp⟩⟩
              have h1 := run_equalIn_struct (P := P) w' 9999 t xs ys (by rw [hf]; exact hu1) hE2
              rw [hf, e2 w'] at h1
              exact h1
        · cases h
      · cases h
    | _ => simp [tkOf] at hu2
  · rename_i s b z hi
    have hu1 := und_bool hT hi
    split at h
    · rename_i a
      split at h
      · rename_i b'
        have q1 := one_of hu
        have q2 := one_of hv
        subst q1; subst q2
        refine ⟨_, h, fun w' => ⟨by unfold eqGuard; split <;> rfl, ?_, by simp, by simp, by simp, by simp⟩⟩
        exact run_equalIn_bool' (P := P) w' 9999 t a b' hu1
      · cases h
    · cases h
  · cases h

theorem VOp.eq {ts : List (Nat × TI)} (hT : TOK P ts) {o : Option Tmp} {σ : St} {vx vy : AV} (hx : ev σ x = some vx) (hy : ev σ y = some vy) {b : Bool} (h : aeq ts t vx vy some = some b) (hE : eqOK P t = true) : VOp P σ ⟨o, .binOp .eql t x y t2, ty, pos, aft, g⟩ (bo b) := by
  refine VOp.mk fun c ac w ρ O hs => ?_
  obtain ⟨b', e1, e2⟩ := aeq_run hT hE h (ev_sound hs hx) (ev_sound hs hy) x y .eql
  cases e1
  refine ⟨.bool b, fun w' _ => ?_, .d _ _ (.one _ rfl)⟩
  obtain ⟨f1, f2, f3, f4, f5, f6⟩ := e2 w'
  have hb : (binOp .eql t (ac.eval x) (ac.eval y)).run P w' = .ok (.bool b) w' := by
    unfold binOp
    split <;> first | (exfalso; simp_all; done) | skip
    all_goals first
      | (rename_i hq; exact absurd hq (f3 _ _))
      | simp_all
  simp only [execOp]
  rw [Sem.run_bind, Sem.run_bind, f1]
  simp only [Result.andThen_ok, hb]
  rfl
end
end Go.AM
