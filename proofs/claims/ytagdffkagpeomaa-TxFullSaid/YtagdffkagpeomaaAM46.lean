/- A machine over pure data: part 46: the rules of parts 43 to 45 with bounds that are whole numbers, under short names. -/
import Derived.Test.YtagdffkagpeomaaAM45
set_option linter.unusedVariables false
set_option linter.unusedSimpArgs false
namespace Go.AM
open Go Go.RowKit

section
variable {P : Program} {l rest : List Oper} {Q : Exit → St → Prop} {n d clk : Nat} {T : List (Nat × AV)} {H : List (Nat × Option Blk)} {Hp : List Blk} {x y lo hi : Operand} {t t2 ty : TypeId} {tys : Array TypeId} {pos : String} {aft : Array Edge} {g : Option (Nat × Bool)} {ts : List (Nat × TI)} {q : Nat}

theorem qv24 (hT : TOK P ts) {lo hi : Option Operand} {o : Option Tmp} {σ : St} {id : Id} {e sz L C : Nat} {xs : List (List D)} {e' s b' : Nat} {z : List AV} {ie : TI} {i j : Int} (hx : ev σ x = some (.own id) := by rfl) (hid : hk σ id = some (.rowc e sz xs L C) := by rfl)
    (ht : lk ts t = some ⟨.slice e', s, b', z⟩ := by rfl) (he : lk ts e' = some ie := by rfl) (hsz : Nat.beq ie.size sz = true := by rfl) (hlo : bnd σ lo 0 = some i := by rfl) (hhi : bnd σ hi (L : Nat) = some j := by rfl) (h0 : 0 ≤ i := by omega) (h1 : i ≤ j := by first | omega | (simp; omega)) (h2 : j ≤ (L : Int) := by first | omega | (simp; omega)) :
    VOp P σ ⟨o, .slice t x lo hi none, ty, pos, aft, g⟩ (.sub id sz i.toNat (j.toNat - i.toNat) true) := by
  obtain ⟨i, rfl⟩ := Int.eq_ofNat_of_zero_le h0
  obtain ⟨j, rfl⟩ := Int.eq_ofNat_of_zero_le (by omega : 0 ≤ j)
  exact VOp.cutC hT hx hid ht he hsz hlo hhi (by omega) (by omega)

theorem qv25 (hT : TOK P ts) {o : Option Tmp} {σ : St} {cc : Operand} {f : FuncId} {fn : Func} {tS tR : TypeId} {i j : Nat} {e1 e2 sz1 sz2 lo2 m2 L2 C2 : Nat} {xs ys : List (List D)} {full : Bool} {e' s b' : Nat} {z : List AV} {ie : TI} (hf : P.funcs[f]? = some fn) (h1 : (fn.name == "runtime.NumGoroutine") = false) (h2 : fn.body.isNone = true)
    (h3 : Extern.findNext fn = none) (h4 : Extern.find fn = some (Extern.SlicesOverlaps.overlaps #[tS, tS] #[tR]))
    (hc : ev σ cc = some (.fn f []) := by rfl) (hx : ev σ x = some (.own (.loc i)) := by rfl) (hxi : hk σ (.loc i) = some (.row e1 sz1 xs) := by rfl) (hy : ev σ y = some (.sub (.loc j) sz2 lo2 m2 full) := by rfl) (hyj : hk σ (.loc j) = some (.rowc e2 sz2 ys L2 C2) := by rfl) (hij : Nat.beq i j = false := by rfl)
    (ht : lk ts tS = some ⟨.slice e', s, b', z⟩ := by rfl) (he : lk ts e' = some ie := by rfl) (hs2 : 0 < sz2 := by decide) (hL : 0 < L2 := by omega) (hne : xs ≠ [] := by first | assumption | (simp; done)) :
    VOp P σ ⟨o, .call ⟨.value cc, #[x, y], tys⟩, ty, pos, aft, g⟩ (bo false) := .overlaps hT hc hf h1 h2 h3 h4 hx hxi hy hyj hij ht he hL hs2 hne

theorem AW.uncapL {code : Code} {i e sz L C : Nat} {xs : List (List D)} (hL : L = xs.length) (hi : hk ⟨n, T, H, Hp, clk⟩ (.loc i) = some (.rowc e sz xs L C)) (h : AW P code Q ⟨n, T, (i, some (.row e sz xs)) :: H, Hp, clk⟩) : AW P code Q ⟨n, T, H, Hp, clk⟩ := by
  subst hL
  exact AW.uncap hi h
theorem qv26 {o : Option Tmp} {σ : St} {k : IntKind} {a b : Int} (hx : ev σ x = some (.d (.one (.int k a))) := by rfl) (hy : ev σ y = some (.d (.one (.int k b))) := by rfl) (ha : 0 ≤ a := by omega) (hb : 0 < b := by omega) :
    VOp P σ ⟨o, .binOp .rem t x y t2, ty, pos, aft, g⟩ (.d (.one (.int k (a % b)))) := .remP hx hy ha hb
theorem qv27 {o : Option Tmp} {σ : St} {k : IntKind} {a b : Int} (hx : ev σ x = some (.d (.one (.int k a))) := by rfl) (hy : ev σ y = some (.d (.one (.int k b))) := by rfl) (ha : 0 ≤ a := by omega) (hb : 0 < b := by omega) (hk : kmin k ≤ 0 := by simp only [kmin]; omega) (hk2 : a ≤ kmax k := by simp only [kmax]; omega) :
    VOp P σ ⟨o, .binOp .quo t x y t2, ty, pos, aft, g⟩ (.d (.one (.int k (a / b)))) := .quo hx hy (by omega) (by
  rw [Int.tdiv_eq_ediv_of_nonneg ha]
  have h1 := Int.ediv_nonneg ha (by omega : 0 ≤ b)
  have h2 := Int.ediv_le_self b ha
  exact wrap_in (by omega) (by omega))

/-- cap of a row of the call's own. -/
theorem ca1 (hT : TOK P ts) {i e sz e' s b : Nat} {xs : List (List D)} {z : List AV} (hne : xs ≠ [])
    (hr : ∀ C : Nat, xs.length ≤ C → C ≤ 9223372036854775807 → AL P l Q rest ⟨n, (d, i64 C) :: T, (i, some (.rowc e sz xs xs.length C)) :: H, Hp, clk⟩)
    (hw : wantedA l ⟨some d, .call ⟨.builtin .cap, #[x], #[t]⟩, ty, pos, aft, g⟩ ⟨n, T, H, Hp, clk⟩ = some true := by rfl) (hd : Nat.blt d n = true := by rfl) (hx : ev ⟨n, T, H, Hp, clk⟩ x = some (.own (.loc i)) := by rfl) (hi : hk ⟨n, T, H, Hp, clk⟩ (.loc i) = some (.row e sz xs) := by rfl)
    (ht : lk ts t = some ⟨.slice e', s, b, z⟩ := by rfl) :
    AL P l Q (⟨some d, .call ⟨.builtin .cap, #[x], #[t]⟩, ty, pos, aft, g⟩ :: rest) ⟨n, T, H, Hp, clk⟩ := .cap hT hw hd hx hi hne ht hr

/-- x[:j], j past its length. -/
theorem ca2 (hT : TOK P ts) {i e sz L C e' s b' : Nat} {xs : List (List D)} {z : List AV} {ie : TI} {j : Int}
    (h : AL P l Q rest ⟨n, (d, .own (.loc clk)) :: T, (clk, some (.rowc e sz xs j.toNat C)) :: (i, none) :: H, Hp, clk + 1⟩)
    (hw : wantedA l ⟨some d, .slice t x none (some hi) none, ty, pos, aft, g⟩ ⟨n, T, H, Hp, clk⟩ = some true := by rfl) (hd : Nat.blt d n = true := by rfl) (hx : ev ⟨n, T, H, Hp, clk⟩ x = some (.own (.loc i)) := by rfl) (hid : hk ⟨n, T, H, Hp, clk⟩ (.loc i) = some (.rowc e sz xs L C) := by rfl)
    (ht : lk ts t = some ⟨.slice e', s, b', z⟩ := by rfl) (he : lk ts e' = some ie := by rfl) (hhi : bnd ⟨n, T, H, Hp, clk⟩ (some hi) 0 = some j := by rfl) (h1 : (L : Int) ≤ j := by omega) (h2 : j ≤ (C : Int) := by omega) :
    AL P l Q (⟨some d, .slice t x none (some hi) none, ty, pos, aft, g⟩ :: rest) ⟨n, T, H, Hp, clk⟩ := by
  obtain ⟨j, rfl⟩ := Int.eq_ofNat_of_zero_le (by omega : 0 ≤ j)
  exact AL.ext hT hw hd hx hid ht he hhi (by omega) (by omega) h

/-- append(x[:j], make(S, k)...) onto a row without room. -/
theorem ca3 (hT : TOK P ts) {id e sz L C lo0 j : Nat} {xs : List (List D)} {kq : IntKind} {kv : Int} {s b s2 b2 : Nat} {z z2 : List AV} {kn : IntKind} {ie : TI} {ds : List D}
    (h : AL P l Q rest ⟨n, (d, .own (.loc clk)) :: T, (clk, some (.row e sz (xs.take j ++ List.replicate kv.toNat ds))) :: H, Hp, clk + 1⟩)
    (hw : wantedA l ⟨some d, .call ⟨.builtin .append, #[x, y], #[t, t2]⟩, ty, pos, aft, g⟩ ⟨n, T, H, Hp, clk⟩ = some true := by rfl) (hd : Nat.blt d n = true := by rfl)
    (hx : ev ⟨n, T, H, Hp, clk⟩ x = some (.sub (.loc id) sz lo0 j true) := by rfl) (hid : hk ⟨n, T, H, Hp, clk⟩ (.loc id) = some (.rowc e sz xs L C) := by rfl) (hy : ev ⟨n, T, H, Hp, clk⟩ y = some (.d (.one (.int kq kv))) := by rfl)
    (ht : lk ts t = some ⟨.slice e, s, b, z⟩ := by rfl) (ht2 : lk ts t2 = some ⟨.int kn, s2, b2, z2⟩ := by rfl) (he : lk ts e = some ie := by rfl) (hz : toDs ie.zero some = some ds := by rfl) (hzl : Nat.beq ds.length ie.size = true := by rfl) (hsz : Nat.beq ie.size sz = true := by rfl) (hs0 : Nat.blt 0 sz = true := by rfl)
    (hlo : lo0 = 0 := by omega) (hj : j ≤ xs.length := by omega) (hC0 : 0 < C := by omega) (hC : (C : Int) < j + kv := by omega) (hk0 : 0 < kv := by omega) (hb : (j + kv.toNat) * ie.bytes ≤ 140737488355328 := by simp only; omega) (h63 : j + kv ≤ 9223372036854775807 := by omega) :
    AL P l Q (⟨some d, .call ⟨.builtin .append, #[x, y], #[t, t2]⟩, ty, pos, aft, g⟩ :: rest) ⟨n, T, H, Hp, clk⟩ := by
  subst hlo
  exact AL.appMake hT hw hd hx hid hy ht ht2 he hz hzl hsz hs0 (k := kv.toNat) (by omega) hj hC0 (by omega) (by omega) hb (by omega) h

/-- copy(x[i+q:], x[i:]), x lengthened by q. -/
theorem OSp.copyX (hT : TOK P ts) (hw : wantedA l ⟨some d, .call ⟨.builtin .copy, #[x, y], #[t, t2]⟩, ty, pos, aft, g⟩ ⟨n, T, H, Hp, clk⟩ = some true) (hd : Nat.blt d n = true) {id e sz L C i : Nat} {xs : List (List D)} {f1 f2 : Bool} {lo1 m1 m2 : Nat}
    (hx : ev ⟨n, T, H, Hp, clk⟩ x = some (.sub (.loc id) sz lo1 m1 f1)) (hy : ev ⟨n, T, H, Hp, clk⟩ y = some (.sub (.loc id) sz i m2 f2)) (hid : hk ⟨n, T, H, Hp, clk⟩ (.loc id) = some (.rowc e sz xs L C))
    {e' s b : Nat} {z : List AV} (ht : lk ts t = some ⟨.slice e', s, b, z⟩) {ie : TI} (he : lk ts e' = some ie) (hsz : Nat.beq ie.size sz = true)
    (hlo : lo1 + xs.length = i + L) (hm1 : m1 + lo1 = L) (hm2 : m2 + i = L) (hL : xs.length < L) (hfit : lo1 ≤ xs.length) :
    OSp P l q ⟨some d, .call ⟨.builtin .copy, #[x, y], #[t, t2]⟩, ty, pos, aft, g⟩ ⟨n, T, H, Hp, clk⟩ ⟨some (d, i64 (m1 : Nat)), [(id, some (.row e sz (xs.take lo1 ++ xs.drop i)))]⟩ := by
  rintro ⟨n', T', H', Hp', clk'⟩ hl hf
  obtain rfl : n = n' := hl.n
  have he1 : lo1 = i + (L - xs.length) := by omega
  rw [he1]
  exact AL.copyX hT (wantedA_le hl hw) hd (ev_le hl hx) (ev_le hl hy) (hl.hk hid) he1 (by omega) (by omega) (q := L - xs.length) (by omega) (by omega) (by omega) ht he hsz (AL.nil ⟨rfl, Imp.refl _⟩)
end
end Go.AM
