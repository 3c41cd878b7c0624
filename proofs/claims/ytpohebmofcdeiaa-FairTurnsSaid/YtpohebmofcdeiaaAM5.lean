/- A machine over pure data: part 5: the steps that leave the world alone, and those that make or write a variable. -/
import Derived.Test.YtpohebmofcdeiaaAM4
import Derived.Laws.Strings
namespace Go.AM
open Go

def afield (ts : List (Nat × TI)) (t f : Nat) : Option (Nat × Nat) :=
  match lk ts t with
  | some ⟨.strct offs tys, _, _, _⟩ => nthK offs f fun o => nthK tys f fun ty => some (o, ty)
  | _ => none

def afieldAddr (ts : List (Nat × TI)) (t f : Nat) (x : AV) : Option AV :=
  match afield ts t f with
  | some (o, ty) => match lk ts ty with
    | some ⟨_, _ + 1, _, _⟩ => match x with
      | .ptr id off => some (.ptr id (off + o))
      | .rptr id sz j g => some (.rptr id sz j (g + o))
      | .eptr rest => dropK rest o fun r => some (.eptr r)
      | _ => none
    | _ => none
  | none => none

theorem add_ptr (g off o : Nat) : (Addr.add ⟨g, off, none⟩ o) = ⟨g, off + o, none⟩ := by unfold Addr.add; split <;> simp_all
theorem add_add (p : Addr) (m n : Nat) : (p.add m).add n = p.add (m + n) := by
  unfold Addr.add
  by_cases hm : m = 0
  · subst hm; simp
  · by_cases hn : n = 0
    · subst hn; simp
    · simp [hm, hn, Nat.add_assoc]

theorem afield_sound {P : Program} {ts : List (Nat × TI)} (hT : TOK P ts) {t f o ty : Nat} (h : afield ts t f = some (o, ty)) :
    ∃ fs fl, P.underlying t = some (.struct fs) ∧ fs[f]? = some fl ∧ fl.offset = o ∧ fl.type = ty := by
  unfold afield at h
  split at h
  · rename_i offs tys s b z hi
    obtain ⟨o', h1, h2⟩ := nthK_spec h
    obtain ⟨t', h3, h4⟩ := nthK_spec h2
    injection h4 with h4
    injection h4 with h4 h5
    subst h4; subst h5
    obtain ⟨d, h6, h7⟩ := (hT.facts hi).und
    cases d with
    | struct fs =>
      simp only [tkOf] at h7
      injection h7 with h7 h8
      subst h7; subst h8
      rw [List.getElem?_map] at h1 h3
      cases hf : fs.toList[f]? with
      | none => rw [hf] at h1; cases h1
      | some fl =>
        rw [hf] at h1 h3
        simp at h1 h3
        exact ⟨fs, fl, h6, by simpa using hf, h1, h3⟩
    | _ => simp [tkOf] at h7
  · cases h

theorem afieldAddr_sound {P : Program} {ts : List (Nat × TI)} (hT : TOK P ts) {w : World} {ρ : Env} {O : Nat → Prop} {t f : Nat} {x y : AV} {v : Value}
    (hv : VR ρ O w x v) (h : afieldAddr ts t f x = some y) : ∃ u, (∀ w', (Instr.fieldAt t v f).run P w' = .ok u w') ∧ VR ρ O w y u := by
  unfold afieldAddr at h
  split at h
  · rename_i o ty hf
    obtain ⟨fs, fl, h1, h2, h3, h4⟩ := afield_sound hT hf
    split at h
    · rename_i k n b z hi
      have hsz := (hT.facts hi).sizeOf (P := P)
      have hrun : ∀ (p : Addr) (w' : World), (Instr.fieldAt t (.pointer (some p)) f).run P w' = .ok (.pointer (some (p.add o))) w' := by
        intro p w'
        simp [Instr.fieldAt, run_underlying h1, h2, Instr.sureAddr, fieldPlace, h3, h4, hsz]
      split at h
      · cases h
        cases hv with
        | ptr _ _ g hg => exact ⟨_, hrun _, by rw [add_ptr]; exact .ptr _ _ g hg⟩
      · cases h
        cases hv with
        | rptr _ _ _ _ g' hg => exact ⟨_, hrun _, by rw [add_ptr, Nat.add_assoc]; exact .rptr _ _ _ _ g' hg⟩
      · obtain ⟨h5, h6⟩ := dropK_spec h
        cases h6
        cases hv with
        | eptr _ p u hO hb hcell hsub =>
          refine ⟨_, hrun p, .eptr _ _ (fun k => u (o + k)) (by rw [block_add]; exact hO) (by rw [block_add]; exact hb) (fun k d hk => ?_) (fun k d hk => ?_)⟩
          · rw [List.getElem?_drop] at hk
            rw [add_add]
            exact hcell _ d hk
          · rw [List.getElem?_drop] at hk
            exact hsub _ d hk
      · cases h
    · cases h
  · cases h

/-- 'x.f' of a struct that is a value. -/
def afieldV (ts : List (Nat × TI)) (t f : Nat) (x : AV) : Option AV :=
  match afield ts t f with
  | some (o, ty) => match lk ts ty with
    | some i => match x with
      | .agg xs => bif szAgg i then dropK xs o (fun r => takeK r i.size (fun r => some (.agg r))) else nthK xs o (fun y => some y)
      | _ => none
    | _ => none
  | none => none

theorem afieldV_sound {P : Program} {ts : List (Nat × TI)} (hT : TOK P ts) {w : World} {ρ : Env} {O : Nat → Prop} {t f : Nat} {x y : AV} {v : Value}
    (hv : VR ρ O w x v) (h : afieldV ts t f x = some y) : ∃ u, (∀ w', (Instr.field t v f).run P w' = .ok u w') ∧ VR ρ O w y u := by
  unfold afieldV at h
  split at h
  · rename_i o ty hf
    obtain ⟨fs, fl, h1, h2, h3, h4⟩ := afield_sound hT hf
    split at h
    · rename_i i hi
      have hf := hT.facts hi
      split at h
      · rename_i xs
        cases hv with
        | agg _ vs hl hc =>
          cases hg : szAgg i with
          | true =>
            rw [hg] at h
            simp only [cond_true] at h
            obtain ⟨h6, h7⟩ := dropK_spec h
            obtain ⟨h8, h9⟩ := takeK_spec h7
            injection h9 with h9
            subst h9
            simp only [List.length_drop] at h8
            refine ⟨.agg (vs.extract o (o + i.size)), fun w' => by simp [Instr.field, run_underlying h1, h2, part, h3, h4, hf.isAgg, hf.sizeOf, hg, asAgg], .agg _ _ (by simp; omega) (fun k x v hx hv => ?_)⟩
            rw [List.getElem?_take] at hx
            split at hx
            · rename_i hk
              rw [List.getElem?_drop] at hx
              refine hc (o + k) x v hx ?_
              rw [Array.getElem?_extract] at hv
              split at hv
              · exact hv
              · cases hv
            · cases hx
          | false =>
            rw [hg] at h
            simp only [cond_false] at h
            obtain ⟨y', h6, h7⟩ := nthK_spec h
            injection h7 with h7
            subst h7
            have hlt : o < vs.size := by rw [← hl]; exact (List.getElem?_eq_some_iff.1 h6).1
            exact ⟨vs[o], fun w' => by simp [Instr.field, run_underlying h1, h2, part, h3, h4, hf.isAgg, hg, asAgg, hlt], hc o y' _ h6 (by simp [hlt])⟩
      · cases h
    · cases h
  · cases h

/-! ### arithmetic's tests -/
theorem toList_inj {x y : ByteArray} : (x.data.toList == y.data.toList) = decide (x = y) := by
  rw [Bool.eq_iff_iff]
  simp only [beq_iff_eq, decide_eq_true_eq]
  constructor
  · intro h
    cases x; cases y
    simp only at h
    rw [Array.toList_inj.1 h]
  · rintro rfl; rfl

def strLess (x y : ByteArray) : Bool := Op.bytesLess x.data.toList y.data.toList

def acmp (op : BinOp) (x y : Value) : Option Bool :=
  match x, y with
  | .int k a, .int k' b => bif decide (k = k') then match op with
    | .eql => some (decide (a = b))
    | .neq => some (!decide (a = b))
    | .lss => some (decide (a < b))
    | .leq => some (decide (a ≤ b))
    | .gtr => some (decide (b < a))
    | .geq => some (decide (b ≤ a))
    | _ => none else none
  | .string s, .string t => match op with
    | .eql => some (decide (s = t))
    | .neq => some (!decide (s = t))
    | .lss => some (strLess s t)
    | .leq => some (strLess s t || decide (s = t))
    | .gtr => some (!(strLess s t || decide (s = t)))
    | .geq => some (!strLess s t)
    | _ => none
  | _, _ => none

theorem acmp_sound {P : Program} {op : BinOp} {t : TypeId} {x y : Value} {b : Bool} (ox oy : Operand) (h : acmp op x y = some b) (w : World) :
    (do eqGuard op t ox oy x y; binOp op t x y : Sem Value).run P w = .ok (.bool b) w := by
  unfold acmp at h
  have hg : (eqGuard op t ox oy x y).run P w = .ok () w := by
    unfold eqGuard
    split at h
    · split <;> rfl
    · split <;> rfl
    · cases h
  simp only [Sem.run_bind, hg, Result.andThen_ok]
  split at h
  · rename_i k a k' b'
    cases hk : decide (k = k') with
    | false => rw [hk] at h; cases h
    | true =>
      rw [hk] at h
      have hk := of_decide_eq_true hk
      subst hk
      simp only [cond_true] at h
      split at h <;> first | (cases h; done) | (injection h with h; subst h; simp [binOp, Op.intCmp]; done) | (injection h with h; subst h; simp [binOp, Op.intCmp]; rfl)
  · rename_i s t'
    have h1 := ByteArray.toList_eq
    split at h <;> first | (cases h; done) | (injection h with h; subst h; simp only [binOp, Op.stringOp, h1, toList_inj, strLess, Sem.run_pure])
  · cases h

def aun (op : UnOp) (x : Value) : Option Value :=
  match op, x with
  | .not, .bool b => some (.bool (!b))
  | .neg, .int k n => some (.int k (k.wrap (0 - n)))
  | _, _ => none

theorem aun_sound {P : Program} {op : UnOp} {x y : Value} (h : aun op x = some y) (w : World) : (Op.unary op x).run P w = .ok y w ∧ y.oneCell' = true := by
  unfold aun at h
  split at h
  · cases h; exact ⟨rfl, rfl⟩
  · cases h; exact ⟨rfl, rfl⟩
  · cases h

def aari (op : BinOp) (x y : Value) : Option Value :=
  match x, y with
  | .int k a, .int k' b => bif decide (k = k') then match op with
    | .add => some (.int k (k.wrap (a + b)))
    | .sub => some (.int k (k.wrap (a - b)))
    | .mul => some (.int k (k.wrap (a * b)))
    | _ => none else none
  | _, _ => none

theorem aari_sound {P : Program} {op : BinOp} {t : TypeId} {x y z : Value} (ox oy : Operand) (h : aari op x y = some z) (w : World) :
    (do eqGuard op t ox oy x y; binOp op t x y : Sem Value).run P w = .ok z w ∧ z.oneCell' = true := by
  unfold aari at h
  split at h
  · rename_i k a k' b'
    have hg : (eqGuard op t ox oy (.int k a) (.int k' b')).run P w = .ok () w := by
      unfold eqGuard
      split <;> rfl
    by_cases hk : k = k'
    · subst hk
      simp only [decide_true, cond_true] at h
      split at h <;> first | (cases h; done) | (injection h with h; subst h; exact ⟨by simp [hg, binOp, Op.intArith], rfl⟩)
    · simp only [decide_eq_false hk, cond_false] at h
      cases h
  · cases h

def abin (op : BinOp) (x y : Value) : Option Value :=
  match acmp op x y with
  | some b => some (.bool b)
  | none => aari op x y

theorem abin_sound {P : Program} {op : BinOp} {t : TypeId} {x y z : Value} (ox oy : Operand) (h : abin op x y = some z) (w : World) :
    (do eqGuard op t ox oy x y; binOp op t x y : Sem Value).run P w = .ok z w ∧ z.oneCell' = true := by
  unfold abin at h
  cases hb : acmp op x y with
  | some b =>
    rw [hb] at h
    cases h
    exact ⟨acmp_sound ox oy hb w, rfl⟩
  | none =>
    rw [hb] at h
    exact aari_sound ox oy h w

/-- How long a value is, as 'len' tells. -/
def alen (σ : St) (x : AV) : Option Nat :=
  match x with
  | .d (.one (.string s)) => some s.size
  | .d (.row xs) => some xs.length
  | .nilrow => some 0
  | .own i => match hk σ i with
    | some (.row _ _ xs) => some xs.length
    | _ => none
  | .sub _ _ _ n _ => some n
  | _ => none

def isStr : AV → Bool
  | .d (.one (.string _)) => true
  | _ => false
def lenKind (k : TK) (x : AV) : Bool :=
  match k with
  | .slice _ => !isStr x
  | .str => isStr x
  | _ => false

theorem alen_sound {P : Program} {ts : List (Nat × TI)} (hT : TOK P ts) {c : Ctx} {σ : St} {a : Act} {w : World} {ρ : Env} {O : Nat → Prop} (hs : SatAt c σ a w ρ O) {t ty : Nat} {i : TI}
    (hi : lk ts t = some i) {x : AV} (hl : lenKind i.k x = true) {v : Value} (hv : VR ρ O w x v) {n : Nat} (h : alen σ x = some n) (w' : World) : (Builtin.len_ #[t] ty #[v]).run P w' = .ok (.int .i64 n) w' := by
  obtain ⟨d, h1, h2⟩ := (hT.facts hi).und
  have hslice : ∀ A (n c : Nat), isStr x = false → (Builtin.len_ #[t] ty #[.slice A n c]).run P w' = .ok (.int .i64 n) w' := by
    intro A n c hne
    rw [← h2] at hl
    cases d <;> simp [tkOf, lenKind, hne] at hl <;> simp [Builtin.len_, run_underlying h1, goInt]
  cases x with
  | d x =>
    cases x with
    | one u =>
      cases u with
      | string s =>
        simp only [alen] at h
        cases h
        cases hv with
        | d _ _ h =>
          cases h with
          | one =>
            rw [← h2] at hl
            cases d <;> simp [tkOf, lenKind, isStr] at hl <;> simp [Builtin.len_, run_underlying h1, goInt]
      | _ => simp [alen] at h
    | row xs =>
      simp only [alen] at h
      cases h
      cases hv with
      | d _ _ h =>
        obtain ⟨A, c', rfl, _⟩ := h.slice
        exact hslice _ _ _ rfl
  | nilrow =>
    simp only [alen] at h
    cases h
    cases hv
    exact hslice _ _ _ rfl
  | own id =>
    simp only [alen] at h
    split at h
    · rename_i e sz xs hb
      cases h
      cases hv with
      | own _ _ h3 h4 =>
        obtain ⟨v', vs, h5, h6, _⟩ := hs.H.ok id _ hb
        rw [h3] at h5
        injection h5 with h5
        subst h5
        rcases h6.2 with ⟨rfl, h7⟩ | ⟨g, cap, cur, rfl, _⟩
        · rw [h7]; exact hslice _ _ _ rfl
        · exact hslice _ _ _ rfl
    · cases h
  | sub i sz lo m full =>
    simp only [alen] at h
    cases h
    cases hv with
    | sub => exact hslice _ _ _ rfl
    | subN => exact hslice _ _ _ rfl
  | _ => simp [alen] at h

end Go.AM
