/- A machine over pure data: part 30: strings cut and joined; what a rune's bytes are. -/
import Derived.Test.YtpohebmofcdeiaaAM29
import Derived.Laws.Slices
set_option linter.unusedVariables false
namespace Go.AM
open Go Go.RowKit

section
variable {P : Program} {l rest : List Oper} {Q : Exit → St → Prop} {n d clk : Nat} {T : List (Nat × AV)} {H : List (Nat × Option Blk)} {Hp : List Blk} {x y lo hi : Operand} {t t2 ty : TypeId} {pos : String} {aft : Array Edge} {g : Option (Nat × Bool)}

/-- s[i:j] -/
theorem VOp.cutS {ts : List (Nat × TI)} (hT : TOK P ts) {o : Option Tmp} {σ : St} {s : ByteArray} (hx : ev σ x = some (st s)) {k1 k2 : IntKind} {i j : Nat} (hlo : ev σ lo = some (.d (.one (.int k1 (i : Int))))) (hhi : ev σ hi = some (.d (.one (.int k2 (j : Int)))))
    {s1 b1 : Nat} {z : List AV} (ht : lk ts t = some ⟨.str, s1, b1, z⟩) (h1 : i ≤ j) (h2 : j ≤ s.size) : VOp P σ ⟨o, .slice t x (some lo) (some hi) none, ty, pos, aft, g⟩ (st (s.extract i j)) := by
  refine VOp.mk fun c ac w ρ O hs => ?_
  have e1 := one_of (ev_sound hs hx)
  have e2 := one_of (ev_sound hs hlo)
  have e3 := one_of (ev_sound hs hhi)
  refine ⟨.string (s.extract i j), fun w' _ => ?_, .d _ _ (.one _ rfl)⟩
  have := run_slice_string (P := P) w' t s k1 k2 (i : Int) (j : Int) (und_str hT ht) (by omega) (by omega) (by omega)
  simp only [Int.toNat_natCast] at this
  simp only [execOp, e1, Instr.sliceAt, Sem.run_bind, run_underlying (und_str hT ht), Result.andThen_ok, Option.map_some, e2, e3, Option.map_none, this, Sem.run_pure]
/-- s[i:] -/
theorem VOp.cutSF {ts : List (Nat × TI)} (hT : TOK P ts) {o : Option Tmp} {σ : St} {s : ByteArray} (hx : ev σ x = some (st s)) {k1 : IntKind} {i : Nat} (hlo : ev σ lo = some (.d (.one (.int k1 (i : Int)))))
    {s1 b1 : Nat} {z : List AV} (ht : lk ts t = some ⟨.str, s1, b1, z⟩) (h1 : i ≤ s.size) : VOp P σ ⟨o, .slice t x (some lo) none none, ty, pos, aft, g⟩ (st (s.extract i s.size)) := by
  refine VOp.mk fun c ac w ρ O hs => ?_
  have e1 := one_of (ev_sound hs hx)
  have e2 := one_of (ev_sound hs hlo)
  refine ⟨.string (s.extract i s.size), fun w' _ => ?_, .d _ _ (.one _ rfl)⟩
  have := run_slice_string_l (P := P) w' t s (und_str hT ht) k1 (i : Int) (by omega) (by omega)
  simp only [Int.toNat_natCast] at this
  simp only [execOp, e1, Instr.sliceAt, Sem.run_bind, run_underlying (und_str hT ht), Result.andThen_ok, Option.map_some, e2, Option.map_none, this, Sem.run_pure]
/-- s[:j] -/
theorem VOp.cutST {ts : List (Nat × TI)} (hT : TOK P ts) {o : Option Tmp} {σ : St} {s : ByteArray} (hx : ev σ x = some (st s)) {k1 : IntKind} {j : Nat} (hhi : ev σ hi = some (.d (.one (.int k1 (j : Int)))))
    {s1 b1 : Nat} {z : List AV} (ht : lk ts t = some ⟨.str, s1, b1, z⟩) (h1 : j ≤ s.size) : VOp P σ ⟨o, .slice t x none (some hi) none, ty, pos, aft, g⟩ (st (s.extract 0 j)) := by
  refine VOp.mk fun c ac w ρ O hs => ?_
  have e1 := one_of (ev_sound hs hx)
  have e2 := one_of (ev_sound hs hhi)
  refine ⟨.string (s.extract 0 j), fun w' _ => ?_, .d _ _ (.one _ rfl)⟩
  have := run_slice_string_h (P := P) w' t s (und_str hT ht) k1 (j : Int) (by omega) (by omega)
  simp only [Int.toNat_natCast] at this
  simp only [execOp, e1, Instr.sliceAt, Sem.run_bind, run_underlying (und_str hT ht), Result.andThen_ok, Option.map_some, e2, Option.map_none, this, Sem.run_pure]
/-- An element's address, at a number that is told in whole numbers. -/
theorem VOp.idxMI {ts : List (Nat × TI)} (hT : TOK P ts) {o : Option Tmp} {σ : St} {α : Type} {f : α → List D} {xs : List α} (hx : ev σ x = some (.d (.row (xs.map f)))) {k : IntKind} {i : Int} (hy : ev σ y = some (.d (.one (.int k i))))
    {e s b : Nat} {z : List AV} (ht : lk ts t = some ⟨.slice e, s, b, z⟩) {ie : TI} (he : lk ts e = some ie) (hf : ∀ x, (f x).length = ie.size) (h0 : 0 ≤ i) (hi : i.toNat < xs.length) : VOp P σ ⟨o, .indexAddr t x y, ty, pos, aft, g⟩ (.eptr (f (xs[i.toNat]'hi))) := by
  have hy' : ev σ y = some (.d (.one (.int k ((i.toNat : Nat) : Int)))) := by rw [hy, Int.toNat_of_nonneg h0]
  exact VOp.idxM hT hx hy' ht he hf hi
theorem AL.idxMI {ts : List (Nat × TI)} (hT : TOK P ts) (hw : wantedA l ⟨some d, .indexAddr t x y, ty, pos, aft, g⟩ ⟨n, T, H, Hp, clk⟩ = some true) (hd : Nat.blt d n = true) {α : Type} {f : α → List D} {xs : List α} (hx : ev ⟨n, T, H, Hp, clk⟩ x = some (.d (.row (xs.map f))))
    {k : IntKind} {i : Int} (hy : ev ⟨n, T, H, Hp, clk⟩ y = some (.d (.one (.int k i)))) {e s b : Nat} {z : List AV} (ht : lk ts t = some ⟨.slice e, s, b, z⟩) {ie : TI} (he : lk ts e = some ie) (hf : ∀ x, (f x).length = ie.size) (h0 : 0 ≤ i) (hi : i.toNat < xs.length)
    (h : AL P l Q rest ⟨n, (d, .eptr (f (xs[i.toNat]'hi))) :: T, H, Hp, clk⟩) : AL P l Q (⟨some d, .indexAddr t x y, ty, pos, aft, g⟩ :: rest) ⟨n, T, H, Hp, clk⟩ :=
  AL.v hw hd (.idxMI hT hx hy ht he hf h0 hi) h
/-- s + t -/
theorem VOp.joinS {o : Option Tmp} {σ : St} {s s' : ByteArray} (hx : ev σ x = some (st s)) (hy : ev σ y = some (st s')) (hl : s.size + s'.size ≤ 9223372036854775807) : VOp P σ ⟨o, .binOp .add t x y t2, ty, pos, aft, g⟩ (st (s ++ s')) := by
  refine VOp.mk fun c ac w ρ O hs => ?_
  have e1 := one_of (ev_sound hs hx)
  have e2 := one_of (ev_sound hs hy)
  refine ⟨.string (s ++ s'), fun w' _ => ?_, .d _ _ (.one _ rfl)⟩
  have hg : (eqGuard .add t x y (.string s) (.string s')).run P w' = .ok () w' := rfl
  simp only [execOp, e1, e2]
  rw [Sem.run_bind, Sem.run_bind, hg]
  simp [binOp, Op.stringOp]
  omega
end

/-! ### runes and bytes -/
theorem byteAt_get {s : ByteArray} {p : Nat} (h : p < s.size) : byteAt s p = ((s.get! p).toNat : Int) := by
  have hl : p < s.data.toList.length := by rw [Array.length_toList]; exact h
  have e : s.get! p = s[p]'h := by
    simp [ByteArray.get!, getElem!_pos, h]
    rfl
  rw [e]
  simp only [byteAt, List.getD_eq_getElem?_getD, List.getElem?_eq_getElem hl, Option.getD_some]
  rfl
theorem dec_w {s : ByteArray} {p : Nat} (h : p < s.size) (ha : 128 ≤ byteAt s p) : 1 ≤ (Utf8.decode s p).2 ∧ p + (Utf8.decode s p).2 ≤ s.size ∧ (∀ k, k < (Utf8.decode s p).2 → 128 ≤ byteAt s (p + k)) ∧ 128 ≤ (Utf8.decode s p).1 := by
  rw [byteAt_get h] at ha
  have one : ∀ k, k < 1 → 128 ≤ byteAt s (p + k) := fun k hk => by
    have : k = 0 := by omega
    subst this
    rw [Nat.add_zero, byteAt_get h]
    exact ha
  have step : ∀ m, (∀ k, k < m → 128 ≤ byteAt s (p + k)) → p + m < s.size → (s.get! (p + m)).toNat / 64 = 2 → ∀ k, k < m + 1 → 128 ≤ byteAt s (p + k) := fun m hm hlt h2 k hk => by
    by_cases hkm : k < m
    · exact hm k hkm
    · have : k = m := by omega
      subst this
      rw [byteAt_get hlt]
      omega
  have h128 : ¬ (s.get! p).toNat < 128 := by omega
  simp only [Utf8.decode, Nat.add_zero, if_neg h128]
  split
  · rename_i hc
    simp only [Bool.and_eq_true, beq_iff_eq, decide_eq_true_eq] at hc
    split
    · rename_i hc2
      exact ⟨by omega, by omega, step 1 one hc.2.1 hc.2.2, by omega⟩
    · exact ⟨by omega, by omega, one, by simp [Utf8.runeError]⟩
  · split
    · rename_i hc
      simp only [Bool.and_eq_true, beq_iff_eq, decide_eq_true_eq] at hc
      split
      · rename_i hc2
        simp only [Bool.and_eq_true, decide_eq_true_eq] at hc2
        exact ⟨by omega, by omega, step 2 (step 1 one hc.1.2.1 hc.1.2.2) hc.2.1 hc.2.2, by omega⟩
      · exact ⟨by omega, by omega, one, by simp [Utf8.runeError]⟩
    · split
      · rename_i hc
        simp only [Bool.and_eq_true, beq_iff_eq, decide_eq_true_eq] at hc
        split
        · rename_i hc2
          simp only [Bool.and_eq_true, decide_eq_true_eq] at hc2
          exact ⟨by omega, by omega, step 3 (step 2 (step 1 one hc.1.1.2.1 hc.1.1.2.2) hc.1.2.1 hc.1.2.2) hc.2.1 hc.2.2, by omega⟩
        · exact ⟨by omega, by omega, one, by simp [Utf8.runeError]⟩
      · exact ⟨by omega, by omega, one, by simp [Utf8.runeError]⟩
end Go.AM
