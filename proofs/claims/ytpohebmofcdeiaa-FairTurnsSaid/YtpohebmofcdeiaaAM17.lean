/- A machine over pure data: part 17: a string's runes, one after the other; conversions; the least and the greatest. -/
import Derived.Test.YtpohebmofcdeiaaAM16
namespace Go.AM
open Go Go.RowKit

abbrev i32 (a : Int) : AV := .d (.one (.int .i32 a))
abbrev u8 (a : Int) : AV := .d (.one (.int .u8 a))

theorem bo_iff {a b : Bool} (h : a = true ↔ b = true) : bo a = bo b := by rw [Bool.eq_iff_iff.2 h]

section
variable {P : Program} {l rest : List Oper} {Q : Exit → St → Prop} {n d clk : Nat} {T : List (Nat × AV)} {H : List (Nat × Option Blk)} {Hp : List Blk} {x y : Operand} {args : Array Operand} {tys : Array TypeId} {t t2 ty : TypeId} {pos : String} {aft : Array Edge} {g : Option (Nat × Bool)}

theorem AL.range {ts : List (Nat × TI)} (hT : TOK P ts) (hw : wantedA l ⟨some d, .range t x, ty, pos, aft, g⟩ ⟨n, T, H, Hp, clk⟩ = some true) (hd : Nat.blt d n = true) {s : ByteArray} (hx : ev ⟨n, T, H, Hp, clk⟩ x = some (st s))
    {s1 b1 : Nat} {z : List AV} (ht : lk ts t = some ⟨.str, s1, b1, z⟩) (h : AL P l Q rest ⟨n, (d, .ptr (.loc clk) 0) :: T, (clk, some (.iter s 0)) :: H, Hp, clk + 1⟩) :
    AL P l Q (⟨some d, .range t x, ty, pos, aft, g⟩ :: rest) ⟨n, T, H, Hp, clk⟩ := by
  refine AL.step (σ' := ⟨n, (d, .ptr (.loc clk) 0) :: T, (clk, some (.iter s 0)) :: H, Hp, clk + 1⟩) hw ?_ h
  rintro c a w ⟨ρ, O, hs⟩ K Q' hK
  have hk0 : Keeps O w (fun k => O k ∨ k = w.heap.size) (w.alloc (.stringIter s 0)) := ⟨by simp, fun k hk _ => Below.heap_alloc w _ k hk, fun k hk => by
    rcases hk with hk | hk
    · exact .inl hk
    · exact .inr (by omega)⟩
  have hm := mk_sat hs (.iter s 0) (.pointer (some ⟨w.heap.size, 0, none⟩)) (.inl rfl) hk0 (by simp) (fun k hk => Below.heap_alloc w _ k hk) rfl rfl rfl
    ⟨w.heap.size, upd_self _ _ _, heap_alloc_new w _⟩
  have e1 := one_of (ev_sound hs hx)
  unfold Oper.wp
  simp only [execOp, e1, Instr.range, Sem.run_bind, run_underlying (und_str hT ht), Result.andThen_ok, Sem.run_pure, run_newObj]
  refine hK _ _ ⟨_, _, put_sat hm (.ptr (.loc clk) 0 w.heap.size ?_) (by simp [put, mk, hd])⟩
  simp [upd_self, vblk]

theorem heap_set_ne (w : World) (g k : Nat) (o : Obj) (h : k ≠ g) : (w.heap.setIfInBounds g o)[k]? = w.heap[k]? := by
  rw [Array.getElem?_setIfInBounds, if_neg (Ne.symm h)]

theorem AL.nextT (hw : wantedA l ⟨some d, .next x true, ty, pos, aft, g⟩ ⟨n, T, H, Hp, clk⟩ = some true) (hd : Nat.blt d n = true) {s : ByteArray} {p i : Nat} (hx : ev ⟨n, T, H, Hp, clk⟩ x = some (.ptr (.loc i) 0))
    (hi : lk H i = some (some (.iter s p))) (hp : p < s.size) (h : AL P l Q rest ⟨n, (d, .tup [bo true, i64 p, i32 (Utf8.decode s p).1]) :: T, (i, some (.iter s (p + (Utf8.decode s p).2))) :: H, Hp, clk⟩) :
    AL P l Q (⟨some d, .next x true, ty, pos, aft, g⟩ :: rest) ⟨n, T, H, Hp, clk⟩ := by
  refine AL.step (σ' := ⟨n, (d, .tup [bo true, i64 p, i32 (Utf8.decode s p).1]) :: T, (i, some (.iter s (p + (Utf8.decode s p).2))) :: H, Hp, clk⟩) hw ?_ h
  rintro c a w ⟨ρ, O, hs⟩ K Q' hK
  have hb : hk ⟨n, T, H, Hp, clk⟩ (.loc i) = some (.iter s p) := by simp [hk, hi]
  obtain ⟨gb, h1, h2⟩ := hs.H.ok (.loc i) _ hb
  have e1 := ev_sound hs hx
  generalize hq : a.eval x = q at e1
  cases e1 with
  | ptr _ _ g' hg =>
    rw [h1] at hg
    simp [vblk] at hg
    subst hg
    have hsat := chg_sat hs hb (b := .iter s (p + (Utf8.decode s p).2)) (σ' := ⟨n, T, (i, some (.iter s (p + (Utf8.decode s p).2))) :: H, Hp, clk⟩) rfl (g := gb) (w' := { w with heap := w.heap.setIfInBounds gb (.stringIter s (p + (Utf8.decode s p).2)) })
      (by rw [h1]; rfl) (fun k hk => heap_set_ne w gb k _ hk) (by simp) rfl rfl rfl ⟨gb, h1, by have := (Array.getElem?_eq_some_iff.1 h2).1; simp [this]⟩
    unfold Oper.wp
    have hrun : (execOp a.eval ⟨some d, .next x true, ty, pos, aft, g⟩).run P w = .ok (.value (.tuple #[.bool true, .int .i64 p, .int .i32 (Utf8.decode s p).1])) { w with heap := w.heap.setIfInBounds gb (.stringIter s (p + (Utf8.decode s p).2)) } := by
      simp [execOp, hq, Instr.next, getObj, setObj, Sem.run, h2, Result.andThen, hp, goInt]
    rw [hrun]
    refine hK _ _ ⟨_, _, put_sat hsat (x := .tup [bo true, i64 p, i32 (Utf8.decode s p).1]) (v := .tuple #[.bool true, .int .i64 p, .int .i32 (Utf8.decode s p).1]) (.tup _ _ rfl fun k y v hy hv => ?_) (by simp [put, hd])⟩
    match k, hy, hv with
    | 0, hy, hv => simp at hy hv; subst hy; subst hv; exact .d _ _ (.one _ rfl)
    | 1, hy, hv => simp at hy hv; subst hy; subst hv; exact .d _ _ (.one _ rfl)
    | 2, hy, hv => simp at hy hv; subst hy; subst hv; exact .d _ _ (.one _ rfl)
    | k + 3, hy, hv => simp at hy

theorem AL.nextF (hw : wantedA l ⟨some d, .next x true, ty, pos, aft, g⟩ ⟨n, T, H, Hp, clk⟩ = some true) (hd : Nat.blt d n = true) {s : ByteArray} {p i : Nat} (hx : ev ⟨n, T, H, Hp, clk⟩ x = some (.ptr (.loc i) 0))
    (hi : lk H i = some (some (.iter s p))) (hp : s.size ≤ p) (h : AL P l Q rest ⟨n, (d, .tup [bo false]) :: T, H, Hp, clk⟩) :
    AL P l Q (⟨some d, .next x true, ty, pos, aft, g⟩ :: rest) ⟨n, T, H, Hp, clk⟩ := by
  refine AL.mkv hw hd (v := .tup [bo false]) (fun c a w ρ O hs => ?_) h
  have hb : hk ⟨n, T, H, Hp, clk⟩ (.loc i) = some (.iter s p) := by simp [hk, hi]
  obtain ⟨gb, h1, h2⟩ := hs.H.ok (.loc i) _ hb
  have e1 := ev_sound hs hx
  generalize hq : a.eval x = q at e1
  cases e1 with
  | ptr _ _ g' hg =>
    rw [h1] at hg
    simp [vblk] at hg
    subst hg
    refine ⟨.tuple #[.bool false], by simp [execOp, hq, Instr.next, getObj, Sem.run, h2, Result.andThen, Nat.not_lt.2 hp], .tup _ _ rfl fun k y v hy hv => ?_⟩
    match k, hy, hv with
    | 0, hy, hv => simp at hy hv; subst hy; subst hv; exact .d _ _ (.one _ rfl)
    | k + 1, hy, hv => simp at hy

theorem AL.sidxN {ts : List (Nat × TI)} (hT : TOK P ts) (hw : wantedA l ⟨some d, .index t x y, ty, pos, aft, g⟩ ⟨n, T, H, Hp, clk⟩ = some true) (hd : Nat.blt d n = true) {s : ByteArray} (hx : ev ⟨n, T, H, Hp, clk⟩ x = some (st s))
    {k : IntKind} {i : Nat} (hy : ev ⟨n, T, H, Hp, clk⟩ y = some (.d (.one (.int k (i : Int))))) {s1 b1 : Nat} {z : List AV} (ht : lk ts t = some ⟨.str, s1, b1, z⟩) (h1 : i < s.size)
    (h : AL P l Q rest ⟨n, (d, .d (.one (.int .u8 (byteAt s i)))) :: T, H, Hp, clk⟩) : AL P l Q (⟨some d, .index t x y, ty, pos, aft, g⟩ :: rest) ⟨n, T, H, Hp, clk⟩ :=
  AL.sidx hT hw hd hx hy ht (by omega) (by omega) (by simpa using h)

/-- A call that answers one number, Bool or string, or a tuple of these; rows may be lent to it. -/
theorem AL.callS (hw : wantedA l ⟨some d, .call ⟨.value x, args, tys⟩, ty, pos, aft, g⟩ ⟨n, T, H, Hp, clk⟩ = some true) (hd : Nat.blt d n = true) {f : FuncId} {caps as_ : List AV} (hx : ev ⟨n, T, H, Hp, clk⟩ x = some (.fn f caps))
    (ha : aevs ⟨n, T, H, Hp, clk⟩ args.toList some = some as_) {ys : List AV} (hys : (as_.map (lend ⟨n, T, H, Hp, clk⟩)) ++ caps = ys) (hpk : ys.all (pk2 0) = true) {r : AV} (hc : ACallP P f ys r) (hr : scal r = true)
    (h : AL P l Q rest ⟨n, (d, r) :: T, H, Hp, clk⟩) : AL P l Q (⟨some d, .call ⟨.value x, args, tys⟩, ty, pos, aft, g⟩ :: rest) ⟨n, T, H, Hp, clk⟩ :=
  AL.callB hw hd hx ha hys hpk (R := (· = r)) hc (fun r' e => by subst e; exact ⟨hr, h⟩)

/-- An element's address, in a row of things that are told in cells. -/
theorem VOp.idxM {ts : List (Nat × TI)} (hT : TOK P ts) {o : Option Tmp} {σ : St} {α : Type} {f : α → List D} {xs : List α} (hx : ev σ x = some (.d (.row (xs.map f)))) {k : IntKind} {i : Nat} (hy : ev σ y = some (.d (.one (.int k (i : Int)))))
    {e s b : Nat} {z : List AV} (ht : lk ts t = some ⟨.slice e, s, b, z⟩) {ie : TI} (he : lk ts e = some ie) (hf : ∀ x, (f x).length = ie.size) (hi : i < xs.length) : VOp P σ ⟨o, .indexAddr t x y, ty, pos, aft, g⟩ (.eptr (f (xs[i]'hi))) :=
  VOp.idx hT hx hy ht he (by omega) (by simp [hi]) (hf _)
theorem AL.idxM {ts : List (Nat × TI)} (hT : TOK P ts) (hw : wantedA l ⟨some d, .indexAddr t x y, ty, pos, aft, g⟩ ⟨n, T, H, Hp, clk⟩ = some true) (hd : Nat.blt d n = true) {α : Type} {f : α → List D} {xs : List α} (hx : ev ⟨n, T, H, Hp, clk⟩ x = some (.d (.row (xs.map f))))
    {k : IntKind} {i : Nat} (hy : ev ⟨n, T, H, Hp, clk⟩ y = some (.d (.one (.int k (i : Int))))) {e s b : Nat} {z : List AV} (ht : lk ts t = some ⟨.slice e, s, b, z⟩) {ie : TI} (he : lk ts e = some ie) (hf : ∀ x, (f x).length = ie.size) (hi : i < xs.length)
    (h : AL P l Q rest ⟨n, (d, .eptr (f (xs[i]'hi))) :: T, H, Hp, clk⟩) : AL P l Q (⟨some d, .indexAddr t x y, ty, pos, aft, g⟩ :: rest) ⟨n, T, H, Hp, clk⟩ :=
  AL.v hw hd (.idxM hT hx hy ht he hf hi) h

theorem VOp.rem {o : Option Tmp} {σ : St} {a b : Int} (hx : ev σ x = some (i64 a)) (hy : ev σ y = some (i64 b)) (h0 : 0 ≤ a) (h1 : 0 < b) : VOp P σ ⟨o, .binOp .rem t x y t2, ty, pos, aft, g⟩ (i64 (a % b)) := by
  refine VOp.mk fun c ac w ρ O hs => ?_
  have e1 := one_of (ev_sound hs hx)
  have e2 := one_of (ev_sound hs hy)
  refine ⟨.int .i64 (a % b), fun w' _ => ?_, .d _ _ (.one _ rfl)⟩
  have hne : b ≠ 0 := by omega
  have hg : (eqGuard .rem t x y (.int .i64 a) (.int .i64 b)).run P w' = .ok () w' := rfl
  simp only [execOp, e1, e2]
  rw [Sem.run_bind, Sem.run_bind, hg]
  simp [binOp, Op.intDiv, hne, Int.tmod_eq_emod_of_nonneg h0]
theorem AL.rem (hw : wantedA l ⟨some d, .binOp .rem t x y t2, ty, pos, aft, g⟩ ⟨n, T, H, Hp, clk⟩ = some true) (hd : Nat.blt d n = true) {a b : Int} (hx : ev ⟨n, T, H, Hp, clk⟩ x = some (i64 a)) (hy : ev ⟨n, T, H, Hp, clk⟩ y = some (i64 b))
    (h0 : 0 ≤ a) (h1 : 0 < b) (h : AL P l Q rest ⟨n, (d, i64 (a % b)) :: T, H, Hp, clk⟩) : AL P l Q (⟨some d, .binOp .rem t x y t2, ty, pos, aft, g⟩ :: rest) ⟨n, T, H, Hp, clk⟩ :=
  AL.v hw hd (.rem hx hy h0 h1) h

/-- A cut of a row of things that are told in cells. -/
theorem VOp.cutM {ts : List (Nat × TI)} (hT : TOK P ts) {lo hi mx : Option Operand} {o : Option Tmp} {σ : St} {α : Type} {f : α → List D} {xs : List α} (hx : ev σ x = some (.d (.row (xs.map f))))
    {e s b : Nat} {z : List AV} (ht : lk ts t = some ⟨.slice e, s, b, z⟩) {ie : TI} (he : lk ts e = some ie) (hf : ∀ x, (f x).length = ie.size) {i j m : Nat} (hlo : bnd σ lo 0 = some (i : Int)) (hhi : bnd σ hi (xs.map f).length = some (j : Int)) (hmx : bnd σ mx (j : Int) = some (m : Int))
    (hmh : mx.isSome = true → hi.isSome = true) (h1 : i ≤ j) (h3 : j ≤ m) (h4 : m ≤ xs.length) : VOp P σ ⟨o, .slice t x lo hi mx, ty, pos, aft, g⟩ (.d (.row (((xs.take j).drop i).map f))) := by
  have := VOp.slice (P := P) (o := o) (ty := ty) (pos := pos) (aft := aft) (g := g) hT hx ht he (fun x hx => by
    obtain ⟨y, _, rfl⟩ := List.mem_map.1 hx
    exact hf y) hlo hhi hmx hmh (by omega) (by omega) (by simp; omega) (by omega) (by simp; omega)
  simpa [List.map_take, List.map_drop] using this
/-- x[:j] -/
theorem VOp.cutTo {ts : List (Nat × TI)} (hT : TOK P ts) {hi : Operand} {o : Option Tmp} {σ : St} {α : Type} {f : α → List D} {xs : List α} (hx : ev σ x = some (.d (.row (xs.map f))))
    {e s b : Nat} {z : List AV} (ht : lk ts t = some ⟨.slice e, s, b, z⟩) {ie : TI} (he : lk ts e = some ie) (hf : ∀ x, (f x).length = ie.size) {j : Nat} (hhi : bnd σ (some hi) 0 = some (j : Int)) (h4 : j ≤ xs.length) :
    VOp P σ ⟨o, .slice t x none (some hi) none, ty, pos, aft, g⟩ (.d (.row ((xs.take j).map f))) := by
  have := VOp.cutM (P := P) (lo := none) (hi := some hi) (mx := none) (o := o) (ty := ty) (pos := pos) (aft := aft) (g := g) (i := 0) (j := j) (m := j) hT hx ht he hf rfl hhi rfl (by simp) (by omega) (by omega) h4
  simpa using this
/-- x[i:] -/
theorem VOp.cutFrom {ts : List (Nat × TI)} (hT : TOK P ts) {lo : Operand} {o : Option Tmp} {σ : St} {α : Type} {f : α → List D} {xs : List α} (hx : ev σ x = some (.d (.row (xs.map f))))
    {e s b : Nat} {z : List AV} (ht : lk ts t = some ⟨.slice e, s, b, z⟩) {ie : TI} (he : lk ts e = some ie) (hf : ∀ x, (f x).length = ie.size) {i : Nat} (hlo : bnd σ (some lo) 0 = some (i : Int)) (h4 : i ≤ xs.length) :
    VOp P σ ⟨o, .slice t x (some lo) none none, ty, pos, aft, g⟩ (.d (.row ((xs.drop i).map f))) := by
  have := VOp.cutM (P := P) (lo := some lo) (hi := none) (mx := none) (o := o) (ty := ty) (pos := pos) (aft := aft) (g := g) (i := i) (j := xs.length) (m := xs.length) hT hx ht he hf hlo (by simp [bnd]) rfl (by simp) h4 (by omega) (by omega)
  simpa using this

theorem AW.condT {σ : St} {a b : Code} (hx : ev σ x = some (.d (.one (.bool true)))) (h : AW P a Q σ) : AW P (.cond x a b) Q σ := AW.cond hx (fun _ => h) (fun h => by cases h)
theorem AW.condF {σ : St} {a b : Code} (hx : ev σ x = some (.d (.one (.bool false)))) (h : AW P b Q σ) : AW P (.cond x a b) Q σ := AW.cond hx (fun h => by cases h) (fun _ => h)
end

end Go.AM
