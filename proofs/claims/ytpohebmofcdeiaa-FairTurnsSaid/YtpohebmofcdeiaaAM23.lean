/- A machine over pure data: part 23: a call's rows handed back as data. -/
import Derived.Test.YtpohebmofcdeiaaAM22
namespace Go.AM
open Go Go.RowKit

/-- A result, the rows of the call's own told as data. -/
def dr1 (Hr : List Rw) : AV → AV
  | .own (.loc k) => match Hr[k]? with
    | some r => .d (.row r.xs)
    | none => .junk
  | .d y => .d y
  | .nilrow => .nilrow
  | _ => .junk
def dr2 (Hr : List Rw) : AV → AV
  | .agg l => .agg (l.map (dr1 Hr))
  | .tup l => .tup (l.map (dr1 Hr))
  | x => dr1 Hr x

theorem fin_reads {c : Ctx} {r : AV} {Hp : List Blk} {Hr : List Rw} {v : Value} {w : World} {ρ : Env} {O : Nat → Prop} (hf : FinAt c r Hp Hr v w ρ O) {k : Nat} {rw : Rw} (hk' : Hr[k]? = some rw) {u : Value} (hu : ρ (.loc k) = some u) : Reads c.O0 w (.row rw.xs) u := by
  have hb : hk (finS Hp Hr) (.loc k) = some rw.blk := by
    have hlt : k < Hr.length := (List.getElem?_eq_some_iff.1 hk').1
    have := lk_rowsH ([] : List (Nat × Option Blk)) Hr 0 k
    rw [List.append_nil, if_pos (by omega), Nat.sub_zero, hk'] at this
    simp [hk, finS, this]
  refine own_reads (hf.H.ok (.loc k) _ hb) hu (fun j hj => hf.F.mono j hj) (fun g hg h0 => ?_)
  have h1 := (hf.H.own (.loc k) _ g hb (by rw [hu]; exact hg)).2.2
  have h2 := hf.F.olt0 g h0
  have : c.w0.heap.size ≤ g := h1
  omega

theorem dr1_vr {c : Ctx} {r : AV} {Hp : List Blk} {Hr : List Rw} {v : Value} {w : World} {ρ : Env} {O : Nat → Prop} (hf : FinAt c r Hp Hr v w ρ O) {x : AV} {u : Value} (h : VR ρ O w x u) (ρ' : Env) : VR ρ' c.O0 w (dr1 Hr x) u := by
  have hk0 : Keeps O w c.O0 w := ⟨Nat.le_refl _, fun _ _ _ => rfl, fun k hk => .inl (hf.F.mono k hk)⟩
  cases h with
  | d y u h => exact .d _ _ (h.keep hk0)
  | nilrow => exact .nilrow
  | own i u h h1 =>
    cases i with
    | par k => exact .junk _
    | loc k =>
      simp only [dr1]
      split
      · rename_i rw hr
        exact .d _ _ (fin_reads hf hr h)
      · exact .junk _
  | _ => exact .junk _
theorem dr2_vr {c : Ctx} {r : AV} {Hp : List Blk} {Hr : List Rw} {v : Value} {w : World} {ρ : Env} {O : Nat → Prop} (hf : FinAt c r Hp Hr v w ρ O) {x : AV} {u : Value} (h : VR ρ O w x u) (ρ' : Env) : VR ρ' c.O0 w (dr2 Hr x) u := by
  have lst : ∀ (l : List AV) (vs : Array Value), (∀ (k : Nat) x v, l[k]? = some x → vs[k]? = some v → VR ρ O w x v) → ∀ (k : Nat) x v, (l.map (dr1 Hr))[k]? = some x → vs[k]? = some v → VR ρ' c.O0 w x v := by
    intro l vs hc k y v hy hv
    rw [List.getElem?_map, Option.map_eq_some_iff] at hy
    obtain ⟨z, hz, rfl⟩ := hy
    exact dr1_vr hf (hc k z v hz hv) ρ'
  cases x with
  | agg l => cases h with | agg _ vs hl hc => exact .agg _ vs (by simpa using hl) (lst l vs hc)
  | tup l => cases h with | tup _ vs hl hc => exact .tup _ vs (by simpa using hl) (lst l vs hc)
  | fn f l => exact .junk _
  | _ => exact dr1_vr hf h ρ'

/-- A call that is handed no blocks may tell its rows as data. -/
theorem ACalls.dr {P : Program} {f : FuncId} {args : List AV} {R : AV → List Rw → Prop} (h : ACalls P f args [] fun r _ Hr => R r Hr) : ACallPR P f args fun r' => ∃ r Hr, R r Hr ∧ r' = dr2 Hr r := by
  refine ⟨h.1, fun c vs hi => (h.2 c vs hi).mono ?_⟩
  rintro e w' ⟨r, Hp', Hr, v, ρ, O, hR, rfl, hf⟩
  refine ⟨dr2 Hr r, [], [], v, fun i => match i with | .par k => c.ρp k | .loc _ => none, c.O0, ⟨⟨r, Hr, hR, rfl⟩, rfl⟩, rfl, ⟨fun k => rfl, fun k _ => rfl, ⟨fun i b hb => ?_, fun i b g hb => ?_, fun i j bi bj g hb => ?_⟩, ?_, dr2_vr hf hf.r _⟩⟩
  · cases i <;> simp [hk, finS, rowsH, lk] at hb
  · cases i <;> simp [hk, finS, rowsH, lk] at hb
  · cases i <;> simp [hk, finS, rowsH, lk] at hb
  · have hF := hf.F
    exact ⟨hF.os, hF.tape, hF.output, hF.size, hF.same, fun k hk => hk, fun k hk => .inl hk, hF.wlt, fun k hk => hF.olt k (hF.mono k hk), hF.olt0⟩
/-- A row of the call's own, handed back: as data. -/
theorem ACallO.dr {P : Program} {f : FuncId} {args : List AV} {e sz : Nat} {xs : List (List D)} (h : ACallO P f args e sz (· = xs)) : ACallP P f args (.d (.row xs)) := by
  have h1 : ACallPR P f args fun r' => ∃ (r : AV) (Hr : List Rw), (∃ ys, ys = xs ∧ r = .own (.loc 0) ∧ Hr = [⟨e, sz, ys⟩]) ∧ r' = dr2 Hr r := ACalls.dr h
  refine ⟨h1.1, fun c vs hi => (h1.2 c vs hi).mono ?_⟩
  rintro e' w' ⟨r, Hp', Hr, v, ρ, O, ⟨⟨r0, Hr0, ⟨ys, rfl, rfl, rfl⟩, rfl⟩, rfl⟩, he, hf⟩
  exact ⟨_, _, _, v, ρ, O, ⟨rfl, rfl⟩, he, hf⟩
/-- A nil slice is data without elements. -/
theorem Imp.nilD (s : Nat) {n clk : Nat} {T : List (Nat × AV)} {H : List (Nat × Option Blk)} {Hp : List Blk} (hs : lk T s = some .nilrow) : Imp ⟨n, T, H, Hp, clk⟩ ⟨n, (s, .d (.row [])) :: T, H, Hp, clk⟩ := by
  rintro c a w ⟨ρ, O, h⟩
  refine ⟨ρ, O, h.defers, h.n, h.par, h.fresh, fun t x ht => ?_, h.H, h.F⟩
  rcases lk_shadow ht with ⟨rfl, rfl⟩ | ⟨_, ht⟩
  · obtain ⟨v, e1, e2⟩ := h.T s _ hs
    cases e2
    exact ⟨_, e1, .d _ _ (.none none 0)⟩
  · exact h.T t x ht
theorem AW.nilD (s : Nat) {P : Program} {code : Code} {Q : Exit → St → Prop} {n clk : Nat} {T : List (Nat × AV)} {H : List (Nat × Option Blk)} {Hp : List Blk} (hs : lk T s = some .nilrow) (h : AW P code Q ⟨n, (s, .d (.row [])) :: T, H, Hp, clk⟩) : AW P code Q ⟨n, T, H, Hp, clk⟩ := AW.imp (Imp.nilD s hs) h
theorem AW.nilOwn (s e sz : Nat) {P : Program} {code : Code} {Q : Exit → St → Prop} {n clk : Nat} {T : List (Nat × AV)} {H : List (Nat × Option Blk)} {Hp : List Blk} (hs : lk T s = some .nilrow) (h : AW P code Q ⟨n, (s, .own (.loc clk)) :: T, (clk, some (.row e sz [])) :: H, Hp, clk + 1⟩) : AW P code Q ⟨n, T, H, Hp, clk⟩ := AW.imp (nilOwn_imp s e sz hs) h

section
variable {P : Program} {l rest : List Oper} {Q : Exit → St → Prop} {n d clk : Nat} {T : List (Nat × AV)} {H : List (Nat × Option Blk)} {Hp : List Blk} {x y : Operand} {args : Array Operand} {tys : Array TypeId} {t t2 ty : TypeId} {pos : String} {aft : Array Edge} {g : Option (Nat × Bool)}
/-! ### rows of the call's own, told by a list of things -/
theorem AL.idxON {ts : List (Nat × TI)} (hT : TOK P ts) (hw : wantedA l ⟨some d, .indexAddr t x y, ty, pos, aft, g⟩ ⟨n, T, H, Hp, clk⟩ = some true) (hd : Nat.blt d n = true) {id : Id} {e sz : Nat} {xs : List (List D)} (hx : ev ⟨n, T, H, Hp, clk⟩ x = some (.own id))
    (hid : hk ⟨n, T, H, Hp, clk⟩ id = some (.row e sz xs)) {k : IntKind} {i : Nat} (hy : ev ⟨n, T, H, Hp, clk⟩ y = some (.d (.one (.int k (i : Int))))) {e' s b : Nat} {z : List AV} (ht : lk ts t = some ⟨.slice e', s, b, z⟩) {ie : TI} (he : lk ts e' = some ie)
    (hsz : Nat.beq ie.size sz = true) (h1 : i < xs.length) (h : AL P l Q rest ⟨n, (d, .rptr id sz i 0) :: T, H, Hp, clk⟩) : AL P l Q (⟨some d, .indexAddr t x y, ty, pos, aft, g⟩ :: rest) ⟨n, T, H, Hp, clk⟩ :=
  AL.idxO hT hw hd hx hid hy ht he hsz (by omega) (by simpa using h1) (by simpa using h)
theorem AL.loadRM {ts : List (Nat × TI)} (hT : TOK P ts) (hw : wantedA l ⟨some d, .load t x, ty, pos, aft, g⟩ ⟨n, T, H, Hp, clk⟩ = some true) (hd : Nat.blt d n = true) {id : Id} {e sz j f : Nat} {α : Type} {fn : α → List D} {xs : List α} (hx : ev ⟨n, T, H, Hp, clk⟩ x = some (.rptr id sz j f))
    (hid : hk ⟨n, T, H, Hp, clk⟩ id = some (.row e sz (xs.map fn))) (hj : j < xs.length) {v : AV} (hv : (dropK (fn (xs[j]'hj)) f fun r => aload ts ⟨n, T, H, Hp, clk⟩ t (.eptr r)) = some v)
    (h : AL P l Q rest ⟨n, (d, v) :: T, H, Hp, clk⟩) : AL P l Q (⟨some d, .load t x, ty, pos, aft, g⟩ :: rest) ⟨n, T, H, Hp, clk⟩ :=
  AL.loadR hT hw hd hx hid (el := fn (xs[j]'hj)) (by simp [hj]) hv h
theorem AL.storeRM {ts : List (Nat × TI)} (hT : TOK P ts) {α : Type} {fn : α → List D} {xs : List α} (c' : α) (hw : wantedA l ⟨none, .store t x y, ty, pos, aft, g⟩ ⟨n, T, H, Hp, clk⟩ = some true) {id : Nat} {e sz j f : Nat} (hx : ev ⟨n, T, H, Hp, clk⟩ x = some (.rptr (.loc id) sz j f))
    (hid : hk ⟨n, T, H, Hp, clk⟩ (.loc id) = some (.row e sz (xs.map fn))) (hj : j < xs.length) {i : TI} (hi : lk ts t = some i) {v : AV} (hv : ev ⟨n, T, H, Hp, clk⟩ y = some v) {nd : List D} (hnd : toDs (cellsV v) some = some nd) (hl : Nat.beq nd.length i.size = true)
    (hfl : f + nd.length ≤ sz) (hc : (fn (xs[j]'hj)).take f ++ nd ++ (fn (xs[j]'hj)).drop (f + nd.length) = fn c')
    (h : AL P l Q rest ⟨n, T, (id, some (.row e sz ((xs.set j c').map fn))) :: H, Hp, clk⟩) : AL P l Q (⟨none, .store t x y, ty, pos, aft, g⟩ :: rest) ⟨n, T, H, Hp, clk⟩ :=
  AL.storeR hT hw hx hid (el := fn (xs[j]'hj)) (by simp [hj]) hi hv hnd hl hfl (by rw [hc, List.map_set]) h
end
end Go.AM
