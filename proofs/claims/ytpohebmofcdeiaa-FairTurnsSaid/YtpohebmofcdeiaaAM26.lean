/- A machine over pure data: part 26: what each operation of a region that draws its order does, told over every state that knows enough. -/
import Derived.Test.YtpohebmofcdeiaaAM25
set_option linter.unusedVariables false
namespace Go.AM
open Go Go.RowKit

def OSp (P : Program) (l : List Oper) (q : Nat) (o : Oper) (σm : St) (e : Ef) : Prop :=
  ∀ σ, Le σm σ → Fit q σ → AL P l (fun ex σ' => ex = .normal ∧ Imp σ' (push e σ)) [o] σ

section
variable {P : Program} {l : List Oper} {q n d clk : Nat} {T : List (Nat × AV)} {H : List (Nat × Option Blk)} {Hp : List Blk} {x y : Operand} {args : Array Operand} {tys : Array TypeId} {t t2 ty : TypeId} {pos : String} {aft : Array Edge} {g : Option (Nat × Bool)}

theorem OSp.v {op : Op} {v : AV} (hw : wantedA l ⟨some d, op, ty, pos, aft, g⟩ ⟨n, T, H, Hp, clk⟩ = some true) (hd : Nat.blt d n = true) (hv : VOp P ⟨n, T, H, Hp, clk⟩ ⟨some d, op, ty, pos, aft, g⟩ v) :
    OSp P l q ⟨some d, op, ty, pos, aft, g⟩ ⟨n, T, H, Hp, clk⟩ ⟨some (d, v), []⟩ := by
  rintro ⟨n', T', H', Hp', clk'⟩ hl hf
  obtain rfl : n = n' := hl.n
  exact AL.v (wantedA_le hl hw) hd (hv.le hl) (AL.nil ⟨rfl, Imp.refl _⟩)
theorem OSp.do {ts : List (Nat × TI)} (hT : TOK P ts) {op : Op} {v : AV} (hw : wantedA l ⟨some d, op, ty, pos, aft, g⟩ ⟨n, T, H, Hp, clk⟩ = some true) (hd : Nat.blt d n = true) (hv : aval ts ⟨n, T, H, Hp, clk⟩ op = some v) :
    OSp P l q ⟨some d, op, ty, pos, aft, g⟩ ⟨n, T, H, Hp, clk⟩ ⟨some (d, v), []⟩ := OSp.v hw hd (.of hT hv)
theorem OSp.no {op : Op} (hw : wantedA l ⟨some d, op, ty, pos, aft, g⟩ ⟨n, T, H, Hp, clk⟩ = some false) (hd : Nat.blt d n = true) : OSp P l q ⟨some d, op, ty, pos, aft, g⟩ ⟨n, T, H, Hp, clk⟩ ⟨some (d, .tup []), []⟩ := by
  rintro ⟨n', T', H', Hp', clk'⟩ hl hf
  obtain rfl : n = n' := hl.n
  exact AL.no (σ' := push ⟨some (d, .tup []), []⟩ ⟨n, T', H', Hp', clk'⟩) (wantedA_le hl hw) (by simp [put, hd, push]) (AL.nil ⟨rfl, Imp.refl _⟩)
theorem OSp.noN {op : Op} (hw : wantedA l ⟨none, op, ty, pos, aft, g⟩ ⟨n, T, H, Hp, clk⟩ = some false) : OSp P l q ⟨none, op, ty, pos, aft, g⟩ ⟨n, T, H, Hp, clk⟩ ⟨none, []⟩ := by
  rintro ⟨n', T', H', Hp', clk'⟩ hl hf
  obtain rfl : n = n' := hl.n
  exact AL.no (wantedA_le hl hw) rfl (AL.nil ⟨rfl, Imp.refl _⟩)
theorem OSp.callS (hw : wantedA l ⟨some d, .call ⟨.value x, args, tys⟩, ty, pos, aft, g⟩ ⟨n, T, H, Hp, clk⟩ = some true) (hd : Nat.blt d n = true) {f : FuncId} {caps as_ : List AV} (hx : ev ⟨n, T, H, Hp, clk⟩ x = some (.fn f caps))
    (ha : aevs ⟨n, T, H, Hp, clk⟩ args.toList some = some as_) {ys : List AV} (hys : (as_.map (lend ⟨n, T, H, Hp, clk⟩)) ++ caps = ys) (hpk : ys.all (pk2 0) = true) {r : AV} (hc : ACallP P f ys r) (hr : scal r = true) :
    OSp P l q ⟨some d, .call ⟨.value x, args, tys⟩, ty, pos, aft, g⟩ ⟨n, T, H, Hp, clk⟩ ⟨some (d, r), []⟩ := by
  rintro ⟨n', T', H', Hp', clk'⟩ hl hf
  obtain rfl : n = n' := hl.n
  exact AL.callS (wantedA_le hl hw) hd (ev_le hl hx) (aevs_le hl ha) (lendL_le hl hys hpk) hpk hc hr (AL.nil ⟨rfl, Imp.refl _⟩)
theorem OSp.callP (hw : wantedA l ⟨some d, .call ⟨.value x, args, tys⟩, ty, pos, aft, g⟩ ⟨n, T, H, Hp, clk⟩ = some true) (hd : Nat.blt d n = true) {f : FuncId} {caps as_ : List AV} (hx : ev ⟨n, T, H, Hp, clk⟩ x = some (.fn f caps))
    (ha : aevs ⟨n, T, H, Hp, clk⟩ args.toList some = some as_) (hpk : (as_ ++ caps).all (pk2 0) = true) {r : AV} (hc : ACallP P f (as_ ++ caps) r) :
    OSp P l q ⟨some d, .call ⟨.value x, args, tys⟩, ty, pos, aft, g⟩ ⟨n, T, H, Hp, clk⟩ ⟨some (d, r), []⟩ := by
  rintro ⟨n', T', H', Hp', clk'⟩ hl hf
  obtain rfl : n = n' := hl.n
  exact AL.callP (wantedA_le hl hw) hd (ev_le hl hx) (aevs_le hl ha) hpk hc (AL.nil ⟨rfl, Imp.refl _⟩)
theorem putK_bind {β : Type} : ∀ (xs : List AV) (n : Nat) (ys : List AV) (k : List AV → Option β), putK xs n ys k = (putK xs n ys some).bind k
  | xs, 0, [], k => by cases xs <;> simp [putK]
  | x :: xs, 0, y :: ys, k => by
    simp only [putK]
    rw [putK_bind xs 0 ys (fun r => k (y :: r)), putK_bind xs 0 ys (fun r => some (y :: r))]
    cases putK xs 0 ys some <;> rfl
  | x :: xs, n + 1, ys, k => by
    simp only [putK]
    rw [putK_bind xs n ys (fun r => k (x :: r)), putK_bind xs n ys (fun r => some (x :: r))]
    cases putK xs n ys some <;> rfl
  | [], 0, y :: ys, k => by simp [putK]
  | [], n + 1, ys, k => by simp [putK]
theorem sw_own {top : Nat} : rn2 (sw q top) (.own (.loc q)) = .own (.loc top) := by simp [rn2, rn1, rnI, sw]
theorem sw_ptr {top : Nat} : rn2 (sw q top) (.ptr (.loc q) 0) = .ptr (.loc top) 0 := by simp [rn2, rn1, rnI, sw]
theorem OSp.callO (hw : wantedA l ⟨some d, .call ⟨.value x, args, tys⟩, ty, pos, aft, g⟩ ⟨n, T, H, Hp, clk⟩ = some true) (hd : Nat.blt d n = true) {f : FuncId} {caps as_ : List AV} (hx : ev ⟨n, T, H, Hp, clk⟩ x = some (.fn f caps))
    (ha : aevs ⟨n, T, H, Hp, clk⟩ args.toList some = some as_) (hpk : (as_ ++ caps).all (pk2 0) = true) {e sz : Nat} {xs : List (List D)} (hc : ACallO P f (as_ ++ caps) e sz (· = xs)) :
    OSp P l q ⟨some d, .call ⟨.value x, args, tys⟩, ty, pos, aft, g⟩ ⟨n, T, H, Hp, clk⟩ ⟨some (d, .own (.loc q)), [(q, some (.row e sz xs))]⟩ := by
  rintro ⟨n', T', H', Hp', clk'⟩ hl hf
  obtain rfl : n = n' := hl.n
  refine AL.callO (wantedA_le hl hw) hd (ev_le hl hx) (aevs_le hl ha) hpk hc (fun ys hys => AL.nil ⟨rfl, ?_⟩)
  subst hys
  exact Fit.swap (b := .row e sz ys) (bl := []) hf sw_own (by simpa [lt2, lt1, ltI] using hf.lt) rfl rfl (fun k b h => by simp [lk] at h)
theorem OSp.buildSlice {ts : List (Nat × TI)} (hT : TOK P ts) {len : Nat} {parts : Array (Nat × Operand)} (hw : wantedA l ⟨some d, .buildSlice t len parts, ty, pos, aft, g⟩ ⟨n, T, H, Hp, clk⟩ = some true) (hd : Nat.blt d n = true)
    {e s b : Nat} {z : List AV} (ht : lk ts t = some ⟨.slice e, s, b, z⟩) {ie : TI} (he : lk ts e = some ie) {xs : List (List D)} (hxs : aslice ⟨n, T, H, Hp, clk⟩ ie.size 0 parts.toList some = some xs) (hlen : Nat.beq parts.size len = true)
    (hsm : Nat.ble (len * ie.size) 16777216 = true) (hsl : Nat.ble len 16777216 = true) :
    OSp P l q ⟨some d, .buildSlice t len parts, ty, pos, aft, g⟩ ⟨n, T, H, Hp, clk⟩ ⟨some (d, .own (.loc q)), [(q, some (.row e ie.size xs))]⟩ := by
  rintro ⟨n', T', H', Hp', clk'⟩ hl hf
  obtain rfl : n = n' := hl.n
  exact AL.buildSlice hT (wantedA_le hl hw) hd ht he (aslice_le hl hxs) hlen hsm hsl (AL.nil ⟨rfl, Fit.swap (b := .row e ie.size xs) (bl := []) hf sw_own (by simpa [lt2, lt1, ltI] using hf.lt) rfl rfl (fun k b h => by simp [lk] at h)⟩)
theorem OSp.append {ts : List (Nat × TI)} (hT : TOK P ts) (hw : wantedA l ⟨some d, .call ⟨.builtin .append, #[x, y], #[t, t]⟩, ty, pos, aft, g⟩ ⟨n, T, H, Hp, clk⟩ = some true) (hd : Nat.blt d n = true)
    {i e sz : Nat} {xs ys : List (List D)} {vy : AV} (hx : ev ⟨n, T, H, Hp, clk⟩ x = some (.own (.loc i))) (hi : hk ⟨n, T, H, Hp, clk⟩ (.loc i) = some (.row e sz xs)) (hy : ev ⟨n, T, H, Hp, clk⟩ y = some vy) (hys : rowOf ⟨n, T, H, Hp, clk⟩ vy = some ys)
    {s b : Nat} {z : List AV} (ht : lk ts t = some ⟨.slice e, s, b, z⟩) {ie : TI} (he : lk ts e = some ie) (hsz : Nat.beq ie.size sz = true) (hz0 : Nat.beq ie.zero.length sz = true) (hs0 : Nat.blt 0 sz = true) (hel : ∀ x ∈ ys, x.length = sz)
    (hlen : (xs.length + ys.length) * ie.bytes ≤ 140737488355328) (hlen2 : xs.length + ys.length ≤ 9223372036854775807) :
    OSp P l q ⟨some d, .call ⟨.builtin .append, #[x, y], #[t, t]⟩, ty, pos, aft, g⟩ ⟨n, T, H, Hp, clk⟩ ⟨some (d, .own (.loc q)), [(q, some (.row e sz (xs ++ ys))), (i, none)]⟩ := by
  rintro ⟨n', T', H', Hp', clk'⟩ hl hf
  obtain rfl : n = n' := hl.n
  refine AL.append hT (wantedA_le hl hw) hd (ev_le hl hx) (hl.hk hi) (ev_le hl hy) (rowOf_le hl hys) ht he hsz hz0 hs0 hel hlen hlen2 (AL.nil ⟨rfl, ?_⟩)
  exact Fit.swap (b := .row e sz (xs ++ ys)) (bl := [(i, none)]) hf sw_own (by simpa [lt2, lt1, ltI] using hf.lt) rfl rfl (fun k b h => by
    rcases lk_shadow h with ⟨rfl, rfl⟩ | ⟨_, h⟩
    · rfl
    · simp [lk] at h)
theorem OSp.alloc {ts : List (Nat × TI)} (hT : TOK P ts) {e : TypeId} (hw : wantedA l ⟨some d, .alloc e, ty, pos, aft, g⟩ ⟨n, T, H, Hp, clk⟩ = some true) (hd : Nat.blt d n = true) {i : TI} (hi : lk ts e = some i) (hz : i.zero.all (id1 fun _ => false) = true) :
    OSp P l q ⟨some d, .alloc e, ty, pos, aft, g⟩ ⟨n, T, H, Hp, clk⟩ ⟨some (d, .ptr (.loc q) 0), [(q, some (.box e i.zero))]⟩ := by
  rintro ⟨n', T', H', Hp', clk'⟩ hl hf
  obtain rfl : n = n' := hl.n
  obtain ⟨h1, h2⟩ := idL_sw (q := q) (top := clk') (p := fun _ => false) (fun k h => by cases h) hz
  refine AL.do hT (σ' := ⟨n, (d, .ptr (.loc clk') 0) :: T', (clk', some (.box e i.zero)) :: H', Hp', clk' + 1⟩) (wantedA_le hl hw) (by simp only [astep, hi]; simp [amk, put, hd]) (AL.nil ⟨rfl, ?_⟩)
  exact Fit.swap (b := .box e i.zero) (bl := []) hf sw_ptr (by simpa [lt2, lt1, ltI] using hf.lt) (by simp [rnB, h1]) h2 (fun k b h => by simp [lk] at h)
theorem OSp.box {ts : List (Nat × TI)} (hT : TOK P ts) {e : TypeId} (hw : wantedA l ⟨some d, .box e x, ty, pos, aft, g⟩ ⟨n, T, H, Hp, clk⟩ = some true) (hd : Nat.blt d n = true) {xs : List AV} (hx : ev ⟨n, T, H, Hp, clk⟩ x = some (.agg xs)) (hc : xs.all isCell = true) (hz : xs.all (id1 fun k => Nat.blt k clk && !Nat.beq k q) = true) :
    OSp P l q ⟨some d, .box e x, ty, pos, aft, g⟩ ⟨n, T, H, Hp, clk⟩ ⟨some (d, .ptr (.loc q) 0), [(q, some (.box e xs))]⟩ := by
  rintro ⟨n', T', H', Hp', clk'⟩ hl hf
  obtain rfl : n = n' := hl.n
  obtain rfl : clk = clk' := hl.clk
  obtain ⟨h1, h2⟩ := idL_sw (q := q) (top := clk) (p := fun k => Nat.blt k clk && !Nat.beq k q) (fun k h => by
    simp only [Bool.and_eq_true, Bool.not_eq_true'] at h
    exact ⟨fun e => (by subst e; simp at h), by simpa using h.1⟩) hz
  refine AL.do hT (σ' := ⟨n, (d, .ptr (.loc clk) 0) :: T', (clk, some (.box e xs)) :: H', Hp', clk + 1⟩) (wantedA_le hl hw) (by simp only [astep, ev_le hl hx]; simp [amk, put, hd, hc]) (AL.nil ⟨rfl, ?_⟩)
  exact Fit.swap (b := .box e xs) (bl := []) hf sw_ptr (by simpa [lt2, lt1, ltI] using hf.lt) (by simp [rnB, h1]) h2 (fun k b h => by simp [lk] at h)
theorem OSp.boxC {ts : List (Nat × TI)} (hT : TOK P ts) {e : TypeId} (hw : wantedA l ⟨some d, .box e x, ty, pos, aft, g⟩ ⟨n, T, H, Hp, clk⟩ = some true) (hd : Nat.blt d n = true) {v : AV} (hx : ev ⟨n, T, H, Hp, clk⟩ x = some v) (hc : isCell v = true) (hz : id1 (fun k => Nat.blt k clk && !Nat.beq k q) v = true) :
    OSp P l q ⟨some d, .box e x, ty, pos, aft, g⟩ ⟨n, T, H, Hp, clk⟩ ⟨some (d, .ptr (.loc q) 0), [(q, some (.box e [v]))]⟩ := by
  rintro ⟨n', T', H', Hp', clk'⟩ hl hf
  obtain rfl : n = n' := hl.n
  obtain rfl : clk = clk' := hl.clk
  obtain ⟨h1, h2⟩ := idL_sw (q := q) (top := clk) (p := fun k => Nat.blt k clk && !Nat.beq k q) (xs := [v]) (fun k h => by
    simp only [Bool.and_eq_true, Bool.not_eq_true'] at h
    exact ⟨fun e => (by subst e; simp at h), by simpa using h.1⟩) (by simpa using hz)
  have hna : ∀ xs, v ≠ .agg xs := fun xs e => by subst e; cases hc
  refine AL.do hT (σ' := ⟨n, (d, .ptr (.loc clk) 0) :: T', (clk, some (.box e [v])) :: H', Hp', clk + 1⟩) (wantedA_le hl hw) (by
    simp only [astep, ev_le hl hx]
    cases v <;> first | (cases hc; done) | (simp only [hc, cond_true, amk, put, hd])) (AL.nil ⟨rfl, ?_⟩)
  exact Fit.swap (b := .box e [v]) (bl := []) hf sw_ptr (by simpa [lt2, lt1, ltI] using hf.lt) (by simp only [rnB, h1]) h2 (fun k b h => by simp [lk] at h)
/-- A store into a variable of the call's own. -/
theorem OSp.store {ts : List (Nat × TI)} (hT : TOK P ts) (hw : wantedA l ⟨none, .store t x y, ty, pos, aft, g⟩ ⟨n, T, H, Hp, clk⟩ = some true) {i : TI} (hi : lk ts t = some i) {id off : Nat} (hx : ev ⟨n, T, H, Hp, clk⟩ x = some (.ptr (.loc id) off)) {e : TypeId} {cells : List AV} (hb : hk ⟨n, T, H, Hp, clk⟩ (.loc id) = some (.box e cells))
    {v : AV} (hv : ev ⟨n, T, H, Hp, clk⟩ y = some v) (hl' : Nat.beq (cellsV v).length i.size = true) (hc : (cellsV v).all isCell = true) {cs : List AV} (hp : putK cells off (cellsV v) some = some cs) :
    OSp P l q ⟨none, .store t x y, ty, pos, aft, g⟩ ⟨n, T, H, Hp, clk⟩ ⟨none, [(id, some (.box e cs))]⟩ := by
  rintro ⟨n', T', H', Hp', clk'⟩ hl hf
  obtain rfl : n = n' := hl.n
  refine AL.step (σ' := ⟨n, T', (id, some (.box e cs)) :: H', Hp', clk'⟩) (wantedA_le hl hw) (astore_step hT hi (ev_le hl hx) (hl.hk hb) (ev_le hl hv) (Nat.eq_of_beq_eq_true hl') hc ?_) (AL.nil ⟨rfl, Imp.refl _⟩)
  rw [putK_bind, hp]
  rfl
end
end Go.AM
