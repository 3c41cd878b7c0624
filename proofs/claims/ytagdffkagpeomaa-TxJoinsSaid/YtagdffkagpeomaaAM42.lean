/- A machine over pure data: part 42: cuts with three bounds; append in place in regions that draw their order. -/
import Derived.Test.YtagdffkagpeomaaAM41
set_option linter.unusedVariables false
set_option linter.unusedSimpArgs false
namespace Go.AM
open Go Go.RowKit

section
variable {P : Program} {l rest : List Oper} {Q : Exit → St → Prop} {n d clk q : Nat} {T : List (Nat × AV)} {H : List (Nat × Option Blk)} {Hp : List Blk} {x y lo hi mx : Operand} {t t2 ty : TypeId} {tys : Array TypeId} {pos : String} {aft : Array Edge} {g : Option (Nat × Bool)} {ts : List (Nat × TI)}

/-- x[lo:hi:mx], x a row of the call's own, or a part of one. -/
theorem VOp.cutOM (hT : TOK P ts) {o : Option Tmp} {σ : St} {vx : AV} {id : Id} {sz b m e e' s b' : Nat} {xs : List (List D)} {z : List AV} {ie : TI} {i j k : Int} (hx : ev σ x = some vx) (hsg : seg σ vx = some (id, sz, b, m)) (hid : hk σ id = some (.row e sz xs))
    (ht : lk ts t = some ⟨.slice e', s, b', z⟩) (he : lk ts e' = some ie) (hsz : Nat.beq ie.size sz = true) (hlo : bnd σ (some lo) 0 = some i) (hhi : bnd σ (some hi) 0 = some j) (hmx : bnd σ (some mx) 0 = some k) (h0 : 0 ≤ i) (h1 : i ≤ j) (h3 : j ≤ k) (h2 : (b : Int) + k ≤ xs.length) :
    VOp P σ ⟨o, .slice t x (some lo) (some hi) (some mx), ty, pos, aft, g⟩ (.sub id sz (b + i.toNat) (j.toNat - i.toNat) false) := by
  obtain ⟨i, rfl⟩ : ∃ a : Nat, i = a := ⟨i.toNat, by omega⟩
  obtain ⟨j, rfl⟩ : ∃ a : Nat, j = a := ⟨j.toNat, by omega⟩
  obtain ⟨k, rfl⟩ : ∃ a : Nat, k = a := ⟨k.toNat, by omega⟩
  simp only [Int.toNat_natCast]
  refine VOp.mk fun c ac w ρ O hs => ?_
  have hsz := Nat.eq_of_beq_eq_true hsz
  have e1 := ev_sound hs hx
  have hsize := (hT.facts he).sizeOf (P := P)
  obtain ⟨hbm, hval⟩ := seg_val hs hsg hid e1
  have run : ∀ (len cc : Nat), k ≤ cc → ∀ w, (Instr.sliceBounds true len cc (some (ac.eval lo)) (some (ac.eval hi)) (some (ac.eval mx))).run P w = .ok (i, j, k) w := by
    intro len cc hkc w
    rcases bnd_sound hs hlo with ⟨h, _⟩ | ⟨k1, hk1⟩
    · cases h
    rcases bnd_sound hs hhi with ⟨h, _⟩ | ⟨k2, hk2⟩
    · cases h
    rcases bnd_sound hs hmx with ⟨h, _⟩ | ⟨k3, hk3⟩
    · cases h
    simp only [Option.map_some, Option.some.injEq] at hk1 hk2 hk3
    have a1 : (0 : Int) ≤ (k : Int) ∧ (k : Int) ≤ (cc : Int) := ⟨by omega, by omega⟩
    have a2 : (0 : Int) ≤ (j : Int) ∧ (j : Int) ≤ (k : Int) := ⟨by omega, by omega⟩
    have a3 : (0 : Int) ≤ (i : Int) ∧ (i : Int) ≤ (j : Int) := ⟨by omega, by omega⟩
    simp only [Instr.sliceBounds, hk1, hk2, hk3, Instr.sliceBound, asIntOf, a1, a2, a3, Sem.run_bind, Sem.run_pure, Result.andThen_ok, and_self, if_true, Sem.run_ite, Int.toNat_natCast]
  rcases hval with ⟨hv, rfl, rfl, rfl, hρ⟩ | ⟨gb, cap, cc, off, cur, hv, hρ, hcap, hlc, hoff, hh, hcs⟩
  · have hk0 : k = 0 := by simp at h2; omega
    have hi0 : i = 0 := by omega
    have hj0 : j = 0 := by omega
    subst hk0; subst hi0; subst hj0
    refine ⟨.slice none 0 0, fun w' _ => ?_, .subN _ _ _ hρ⟩
    simp only [execOp, hv, Instr.sliceAt, Sem.run_bind, run_underlying (und_slice hT ht), Result.andThen_ok, Instr.slice, Option.map_some, run 0 0 (by omega), hsize, Sem.run_pure]
    rfl
  · refine ⟨.slice (some ⟨gb, if k = i then off else off + i * sz, none⟩) (j - i) (k - i), fun w' _ => ?_, ?_⟩
    · have hq : Value.slice (some ⟨gb, if k = i then off else off + i * sz, none⟩) (j - i) (k - i) = .slice (if k = i then some ⟨gb, off, none⟩ else (some (⟨gb, off, none⟩ : Addr)).map (·.add (i * ie.size))) (j - i) (k - i) := by
        by_cases hci : k = i
        · simp [hci]
        · simp [hci, add_ptr, hsz]
      rw [hq]
      simp only [execOp, hv, Instr.sliceAt, Sem.run_bind, run_underlying (und_slice hT ht), Result.andThen_ok, Instr.slice, Option.map_some, run m cc (by omega), hsize, Sem.run_pure]
    · refine .sub _ _ _ _ _ gb xs.length cap (k - i) _ hρ (by omega) (by omega) (by omega) (fun h => by cases h) (fun hne => ?_)
      have h5 : k ≠ i := by omega
      rw [if_neg h5, hoff (by omega), Nat.add_mul]

theorem OSp.appIn (hT : TOK P ts) (hw : wantedA l ⟨some d, .call ⟨.builtin .append, #[x, y], #[t, t]⟩, ty, pos, aft, g⟩ ⟨n, T, H, Hp, clk⟩ = some true) (hd : Nat.blt d n = true) {vx vy : AV} (hx : ev ⟨n, T, H, Hp, clk⟩ x = some vx) {id sz lo m e : Nat} (hsg : seg ⟨n, T, H, Hp, clk⟩ vx = some (.loc id, sz, lo, m))
    {xs ys : List (List D)} (hid : hk ⟨n, T, H, Hp, clk⟩ (.loc id) = some (.row e sz xs)) (hne : xs ≠ []) (hy : ev ⟨n, T, H, Hp, clk⟩ y = some vy) (hys : srcOf ⟨n, T, H, Hp, clk⟩ vy = some ys) (hel : ∀ y ∈ ys, y.length = sz) (hs0 : Nat.blt 0 sz = true)
    {e' s b : Nat} {z : List AV} (ht : lk ts t = some ⟨.slice e', s, b, z⟩) {ie : TI} (he : lk ts e' = some ie) (hsz : Nat.beq ie.size sz = true) (hfit : lo + (m + ys.length) ≤ xs.length) :
    OSp P l q ⟨some d, .call ⟨.builtin .append, #[x, y], #[t, t]⟩, ty, pos, aft, g⟩ ⟨n, T, H, Hp, clk⟩ ⟨some (d, .sub (.loc id) sz lo (m + ys.length) true), [(id, some (.row e sz (xs.take (lo + m) ++ ys ++ xs.drop (lo + m + ys.length))))]⟩ := by
  rintro ⟨n', T', H', Hp', clk'⟩ hl hf
  obtain rfl : n = n' := hl.n
  exact AL.appIn hT (wantedA_le hl hw) hd (ev_le hl hx) (seg_le hl hsg) (hl.hk hid) hne (ev_le hl hy) (srcOf_le hl hys) hel hs0 ht he hsz hfit (AL.nil ⟨rfl, Imp.refl _⟩)
theorem qv23 (hT : TOK P ts) {o : Option Tmp} {σ : St} {vx : AV} {id : Id} {sz b m e e' s b' : Nat} {xs : List (List D)} {z : List AV} {ie : TI} {i j k : Int} (hx : ev σ x = some vx := by rfl) (hsg : seg σ vx = some (id, sz, b, m) := by rfl) (hid : hk σ id = some (.row e sz xs) := by rfl)
    (ht : lk ts t = some ⟨.slice e', s, b', z⟩ := by rfl) (he : lk ts e' = some ie := by rfl) (hsz : Nat.beq ie.size sz = true := by rfl) (hlo : bnd σ (some lo) 0 = some i := by rfl) (hhi : bnd σ (some hi) 0 = some j := by rfl) (hmx : bnd σ (some mx) 0 = some k := by rfl) (h0 : 0 ≤ i := by omega) (h1 : i ≤ j := by first | omega | (simp; omega)) (h3 : j ≤ k := by first | omega | (simp; omega)) (h2 : (b : Int) + k ≤ xs.length := by first | omega | (simp; omega)) :
    VOp P σ ⟨o, .slice t x (some lo) (some hi) (some mx), ty, pos, aft, g⟩ (.sub id sz (b + i.toNat) (j.toNat - i.toNat) false) := .cutOM hT hx hsg hid ht he hsz hlo hhi hmx h0 h1 h3 h2
end
end Go.AM
