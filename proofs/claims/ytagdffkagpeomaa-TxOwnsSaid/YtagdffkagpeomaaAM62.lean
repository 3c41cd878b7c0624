/- A machine over pure data: part 62: cuts that are as long as they have room: index, cuts of them, append onto them. -/
import Derived.Test.YtagdffkagpeomaaAM61
set_option linter.unusedVariables false
set_option linter.unusedSimpArgs false
namespace Go.AM
open Go Go.RowKit

/-- Where a slice of an own row lies: the row, from where, how long, whether its room reaches to the row's end. -/
def seg3 (σ : St) : AV → Option (Id × Nat × Nat × Nat × Bool)
  | .own i => match hk σ i with
    | some (.row _ sz xs) => some (i, sz, 0, xs.length, true)
    | _ => none
  | .sub i sz lo n full => some (i, sz, lo, n, full)
  | _ => none

theorem seg3_val {c : Ctx} {σ : St} {a : Act} {w : World} {ρ : Env} {O : Nat → Prop} (hs : SatAt c σ a w ρ O) {vx : AV} {i : Id} {sz lo m e : Nat} {full : Bool} (hsg : seg3 σ vx = some (i, sz, lo, m, full)) {xs : List (List D)} (hid : hk σ i = some (.row e sz xs)) (hne : xs ≠ []) {v : Value} (hv : VR ρ O w vx v) :
    lo + m ≤ xs.length ∧ ∃ gb cap cc off cur, v = .slice (some ⟨gb, off, none⟩) m cc ∧ ρ i = some (.slice (some ⟨gb, 0, none⟩) xs.length cap) ∧ m ≤ cc ∧ lo + cc ≤ cap ∧ (full = true → lo + cc = cap) ∧ (full = false → cc = m) ∧ xs.length ≤ cap ∧ (cc ≠ 0 → off = lo * sz) ∧ w.heap[gb]? = some (.cells cur e (0, 0)) ∧ cur.size = cap * sz := by
  obtain ⟨v0, vs, h1, h2, h3, h4⟩ := hs.H.ok i _ hid
  have hl : xs.length ≠ 0 := fun h => hne (List.eq_nil_of_length_eq_zero h)
  rcases h2.2 with ⟨_, h7⟩ | ⟨g', cap, cur, rfl, _, hh, hnc, _, hcs, _⟩
  · exact absurd h7 hl
  cases vx with
  | own id =>
    simp only [seg3] at hsg
    split at hsg
    · rename_i e' sz' xs' hb
      cases hsg
      rw [hid] at hb
      cases hb
      cases hv with
      | own _ _ h5 h6 =>
        rw [h1] at h5
        injection h5 with h5
        subst h5
        exact ⟨by omega, g', cap, cap, 0, cur, rfl, h1, hnc, by omega, fun _ => by omega, fun h => (by cases h), hnc, fun _ => (by simp), hh, hcs⟩
    · cases hsg
  | sub id sz' lo' n' full' =>
    simp only [seg3] at hsg
    cases hsg
    cases hv with
    | sub _ _ _ _ _ g2 L C cc off h5 h6 h7 h8 h9 h10 =>
      rw [h1] at h5
      injection h5 with h5
      injection h5 with h5 h11 h12
      injection h5 with h5
      injection h5 with h5
      subst h5; subst h11; subst h12
      exact ⟨h6, g', cap, cc, off, cur, rfl, h1, h7, h8, h9.1, h9.2, hnc, h10, hh, hcs⟩
    | subN _ _ _ h5 =>
      rw [h1] at h5
      cases h5
  | _ => simp [seg3] at hsg

section
variable {P : Program} {l rest : List Oper} {Q : Exit → St → Prop} {n d clk q : Nat} {T : List (Nat × AV)} {H : List (Nat × Option Blk)} {Hp : List Blk} {x y : Operand} {lo hi mx : Option Operand} {t t2 ty : TypeId} {tys : Array TypeId} {pos : String} {aft : Array Edge} {g : Option (Nat × Bool)} {ts : List (Nat × TI)}

/-- x[lo:hi:hi]. -/
theorem VOp.cut3 (hT : TOK P ts) {o : Option Tmp} {σ : St} {vx : AV} {id : Id} {sz b m e e' s b' : Nat} {full : Bool} {xs : List (List D)} {z : List AV} {ie : TI} {i j : Nat} {hi' mx' : Operand} (hx : ev σ x = some vx) (hsg : seg3 σ vx = some (id, sz, b, m, full)) (hid : hk σ id = some (.row e sz xs)) (hne : xs ≠ [])
    (ht : lk ts t = some ⟨.slice e', s, b', z⟩) (he : lk ts e' = some ie) (hsz : Nat.beq ie.size sz = true) (hlo : bnd σ lo 0 = some (i : Int)) (hhi : bnd σ (some hi') 0 = some (j : Int)) (hmx : bnd σ (some mx') 0 = some (j : Int)) (h1 : i ≤ j) (h2 : j ≤ m) :
    VOp P σ ⟨o, .slice t x lo (some hi') (some mx'), ty, pos, aft, g⟩ (.sub id sz (b + i) (j - i) false) := by
  refine VOp.mk fun c ac w ρ O hs => ?_
  have hsz := Nat.eq_of_beq_eq_true hsz
  have e1 := ev_sound hs hx
  have hsize := (hT.facts he).sizeOf (P := P)
  obtain ⟨hbm, gb, cap, cc, off, cur, hv, hρ, hmc, hcap, _, _, hlc, hoff, hh, hcs⟩ := seg3_val hs hsg hid hne e1
  have run : ∀ (len cc : Nat), j ≤ cc → ∀ w, (Instr.sliceBounds true len cc (lo.map ac.eval) (some (ac.eval hi')) (some (ac.eval mx'))).run P w = .ok (i, j, j) w := by
    intro len cc hkc w
    rcases bnd_sound hs hhi with ⟨h, _⟩ | ⟨k2, hk2⟩
    · cases h
    rcases bnd_sound hs hmx with ⟨h, _⟩ | ⟨k3, hk3⟩
    · cases h
    simp only [Option.map_some, Option.some.injEq] at hk2 hk3
    have a1 : (0 : Int) ≤ (j : Int) ∧ (j : Int) ≤ (cc : Int) := ⟨by omega, by omega⟩
    have a2 : (0 : Int) ≤ (j : Int) ∧ (j : Int) ≤ (j : Int) := ⟨by omega, by omega⟩
    have a3 : (0 : Int) ≤ (i : Int) ∧ (i : Int) ≤ (j : Int) := ⟨by omega, by omega⟩
    rcases bnd_sound hs hlo with ⟨rfl, h0⟩ | ⟨k1, hk1⟩
    · have : i = 0 := by omega
      subst this
      simp only [Instr.sliceBounds, hk2, hk3, Option.map_none, Instr.sliceBound, asIntOf, a1, a2, a3, Sem.run_bind, Sem.run_pure, Result.andThen_ok, and_self, if_true, Sem.run_ite, Int.toNat_natCast]
    · simp only [Instr.sliceBounds, hk1, hk2, hk3, Instr.sliceBound, asIntOf, a1, a2, a3, Sem.run_bind, Sem.run_pure, Result.andThen_ok, and_self, if_true, Sem.run_ite, Int.toNat_natCast]
  refine ⟨.slice (some ⟨gb, if j = i then off else off + i * sz, none⟩) (j - i) (j - i), fun w' _ => ?_, ?_⟩
  · have hq : Value.slice (some ⟨gb, if j = i then off else off + i * sz, none⟩) (j - i) (j - i) = .slice (if j = i then some ⟨gb, off, none⟩ else (some (⟨gb, off, none⟩ : Addr)).map (·.add (i * ie.size))) (j - i) (j - i) := by
      by_cases hci : j = i
      · simp [hci]
      · simp [hci, add_ptr, hsz]
    rw [hq]
    simp only [execOp, hv, Instr.sliceAt, Sem.run_bind, run_underlying (und_slice hT ht), Result.andThen_ok, Instr.slice, Option.map_some, run m cc (by omega), hsize, Sem.run_pure]
  · refine .sub _ _ _ _ _ gb xs.length cap (j - i) _ hρ (by omega) (by omega) (by omega) ⟨fun h => (by cases h), fun _ => by omega⟩ (fun hne => ?_)
    have h5 : j ≠ i := by omega
    rw [if_neg h5, hoff (by omega), Nat.add_mul]

/-- x[lo:]. -/
theorem VOp.cutT (hT : TOK P ts) {o : Option Tmp} {σ : St} {vx : AV} {id : Id} {sz b m e e' s b' : Nat} {xs : List (List D)} {z : List AV} {ie : TI} {i : Nat} {full : Bool} {lo' : Operand} (hx : ev σ x = some vx) (hsg : seg3 σ vx = some (id, sz, b, m, full)) (hid : hk σ id = some (.row e sz xs)) (hne : xs ≠ [])
    (ht : lk ts t = some ⟨.slice e', s, b', z⟩) (he : lk ts e' = some ie) (hsz : Nat.beq ie.size sz = true) (hlo : bnd σ (some lo') 0 = some (i : Int)) (h1 : i ≤ m) :
    VOp P σ ⟨o, .slice t x (some lo') none none, ty, pos, aft, g⟩ (.sub id sz (b + i) (m - i) full) := by
  refine VOp.mk fun c ac w ρ O hs => ?_
  have hsz := Nat.eq_of_beq_eq_true hsz
  have e1 := ev_sound hs hx
  have hsize := (hT.facts he).sizeOf (P := P)
  obtain ⟨hbm, gb, cap, cc, off, cur, hv, hρ, hmc, hcap, hcf, hcm, hlc, hoff, hh, hcs⟩ := seg3_val hs hsg hid hne e1
  have run : ∀ w, (Instr.sliceBounds true m cc (some (ac.eval lo')) none none).run P w = .ok (i, m, cc) w := by
    intro w
    rcases bnd_sound hs hlo with ⟨h, _⟩ | ⟨k1, hk1⟩
    · cases h
    simp only [Option.map_some, Option.some.injEq] at hk1
    have : (0 : Int) ≤ i ∧ (i : Int) ≤ (m : Int) := ⟨by omega, by omega⟩
    simp [Instr.sliceBounds, hk1, Instr.sliceBound, asIntOf, h1]
  refine ⟨.slice (some ⟨gb, if cc = i then off else off + i * sz, none⟩) (m - i) (cc - i), fun w' _ => ?_, ?_⟩
  · have hq : Value.slice (some ⟨gb, if cc = i then off else off + i * sz, none⟩) (m - i) (cc - i) = .slice (if cc = i then some ⟨gb, off, none⟩ else (some (⟨gb, off, none⟩ : Addr)).map (·.add (i * ie.size))) (m - i) (cc - i) := by
      by_cases hci : cc = i
      · simp [hci]
      · simp [hci, add_ptr, hsz]
    rw [hq]
    simp only [execOp, hv, Instr.sliceAt, Sem.run_bind, run_underlying (und_slice hT ht), Result.andThen_ok, Instr.slice, Option.map_some, Option.map_none, run, hsize, Sem.run_pure]
  · refine .sub _ _ _ _ _ gb xs.length cap (cc - i) _ hρ (by omega) (by omega) (by omega) ⟨fun h => by have := hcf h; omega, fun h => by have := hcm h; omega⟩ (fun hne => ?_)
    have h5 : cc ≠ i := by omega
    rw [if_neg h5, hoff (by omega), Nat.add_mul]

/-- x[i], x a part of an own row. -/
theorem VOp.idxC (hT : TOK P ts) {o : Option Tmp} {σ : St} {vx : AV} {id : Id} {sz b m e e' s b' : Nat} {full : Bool} {xs : List (List D)} {z : List AV} {ie : TI} {i : Nat} {k : IntKind} (hx : ev σ x = some vx) (hsg : seg3 σ vx = some (id, sz, b, m, full)) (hid : hk σ id = some (.row e sz xs)) (hne : xs ≠ [])
    (hy : ev σ y = some (.d (.one (.int k (i : Int))))) (ht : lk ts t = some ⟨.slice e', s, b', z⟩) (he : lk ts e' = some ie) (hsz : Nat.beq ie.size sz = true) (h1 : i < m) :
    VOp P σ ⟨o, .indexAddr t x y, ty, pos, aft, g⟩ (.rptr id sz (b + i) 0) := by
  refine VOp.mk fun c ac w ρ O hs => ?_
  have hsz := Nat.eq_of_beq_eq_true hsz
  have e1 := ev_sound hs hx
  have e2 := one_of (ev_sound hs hy)
  have hsize := (hT.facts he).sizeOf (P := P)
  obtain ⟨hbm, gb, cap, cc, off, cur, hv, hρ, hmc, hcap, _, _, hlc, hoff, hh, hcs⟩ := seg3_val hs hsg hid hne e1
  refine ⟨.pointer (some ⟨gb, (b + i) * sz + 0, none⟩), fun w' _ => ?_, .rptr _ _ _ _ gb (by rw [hρ]; rfl)⟩
  have hcond : (0 : Int) ≤ (i : Int) ∧ (i : Int) < (m : Int) := ⟨by omega, by omega⟩
  have ho := hoff (by omega)
  subst ho
  have ha : (b + i) * sz + 0 = b * sz + i * sz := by rw [Nat.add_mul]; rfl
  rw [ha]
  simp [execOp, hv, e2, Instr.indexAt, asIntOf, run_underlying (und_slice hT ht), hsize, h1, hsz, add_ptr]

/-- append(x, y...), x a cut without further room, y empty: x. -/
theorem VOp.appCut0 (hT : TOK P ts) {o : Option Tmp} {σ : St} {vy : AV} {id : Id} {sz lo m e : Nat} {xs ys : List (List D)} (hx : ev σ x = some (.sub id sz lo m false)) (hid : hk σ id = some (.row e sz xs)) (hne : xs ≠ [])
    (hy : ev σ y = some vy) (hys : srcOf σ vy = some ys) (hel : ∀ y ∈ ys, y.length = sz) (hs0 : Nat.blt 0 sz = true) (hnil : ys = [])
    {s b : Nat} {z : List AV} (ht : lk ts t = some ⟨.slice e, s, b, z⟩) {ie : TI} (he : lk ts e = some ie) (hsz : Nat.beq ie.size sz = true) :
    VOp P σ ⟨o, .call ⟨.builtin .append, #[x, y], #[t, t]⟩, ty, pos, aft, g⟩ (.sub id sz lo m false) := by
  refine VOp.mk fun c ac w ρ O hs => ?_
  have e1 := ev_sound hs hx
  have e2 := ev_sound hs hy
  have hs0 : 0 < sz := by simpa using hs0
  subst hnil
  obtain ⟨A, cc, news, f1, f2, _⟩ := src_cells hs hys e2 hel hs0
  obtain ⟨ti, zv, hinf, his, hib, hiz, hzall⟩ := (hT.facts he).info
  obtain ⟨hbm, gb, cap, cc', off, cur, hv, hρ, hmc, hcap, _, hcm, hlc, hoff, hh, hcs⟩ := seg3_val hs (show seg3 σ (.sub id sz lo m false) = some (id, sz, lo, m, false) from rfl) hid hne e1
  have hcm := hcm rfl
  subst hcm
  refine ⟨_, fun w' _ => ?_, hv ▸ e1⟩
  have hfc : ∀ w'' : World, (Builtin.firstCells ti.size 0 (.slice A 0 cc)).run P w'' = .ok #[] w'' := fun w'' => by
    cases A with
    | none => simp [Builtin.firstCells]
    | some ad => exact run_firstCells_some w'' _ 0 ad 0 cc [] (by simp) (fun j v h => by simp at h)
  simp [execOp, resolve, invoke, builtin, hv, f1, Builtin.append_, run_underlying (und_slice hT ht), sizeOf, typeInfo, hinf, Builtin.lenOf, hfc, storeCells]

/-- append(x, y...), x a cut without further room, y not empty: a new row. -/
theorem AL.appCut (hT : TOK P ts) {zs : List (List D)} (hw : wantedA l ⟨some d, .call ⟨.builtin .append, #[x, y], #[t, t]⟩, ty, pos, aft, g⟩ ⟨n, T, H, Hp, clk⟩ = some true) (hd : Nat.blt d n = true) {vy : AV} {id : Id} {sz lo m e : Nat} {xs ys : List (List D)} (hx : ev ⟨n, T, H, Hp, clk⟩ x = some (.sub id sz lo m false)) (hid : hk ⟨n, T, H, Hp, clk⟩ id = some (.row e sz xs)) (hne : xs ≠ [])
    (hy : ev ⟨n, T, H, Hp, clk⟩ y = some vy) (hys : srcOf ⟨n, T, H, Hp, clk⟩ vy = some ys) (hel : ∀ y ∈ ys, y.length = sz) (hs0 : Nat.blt 0 sz = true) (hcons : ys ≠ [])
    {s b : Nat} {z : List AV} (ht : lk ts t = some ⟨.slice e, s, b, z⟩) {ie : TI} (he : lk ts e = some ie) (hsz : Nat.beq ie.size sz = true) (hz0 : Nat.beq ie.zero.length sz = true)
    (hz : (xs.take (lo + m)).drop lo ++ ys = zs) (hb : zs.length * ie.bytes ≤ 140737488355328) (h63 : zs.length ≤ 9223372036854775807)
    (h : AL P l Q rest ⟨n, (d, .own (.loc clk)) :: T, (clk, some (.row e sz zs)) :: H, Hp, clk + 1⟩) : AL P l Q (⟨some d, .call ⟨.builtin .append, #[x, y], #[t, t]⟩, ty, pos, aft, g⟩ :: rest) ⟨n, T, H, Hp, clk⟩ := by
  refine AL.step (σ' := ⟨n, (d, .own (.loc clk)) :: T, (clk, some (.row e sz zs)) :: H, Hp, clk + 1⟩) hw ?_ h
  rintro c ac w ⟨ρ, O, hs⟩ K Q hK
  have e1 := ev_sound hs hx
  have e2 := ev_sound hs hy
  have hsz := Nat.eq_of_beq_eq_true hsz
  have hs0 : 0 < sz := by simpa using hs0
  obtain ⟨ti, zv, hinf, his, hib, hiz, hzall⟩ := (hT.facts he).info
  obtain ⟨z1, z2⟩ := zall_sound hzall
  obtain ⟨A, cy, news, f1, f2, f3, f4, f5, f6⟩ := src_cells hs hys e2 hel hs0
  obtain ⟨hbm, gb, cap, cc, off, cur, hv, hρ, hmc, hcap, _, hcm, hlc, hoff, hh, hcs⟩ := seg3_val hs (show seg3 ⟨n, T, H, Hp, clk⟩ (.sub id sz lo m false) = some (id, sz, lo, m, false) from rfl) hid hne e1
  have hcm := hcm rfl
  subst hcm
  obtain ⟨_, olds, o1, o2, o3, o4⟩ := own_src hs hid hρ hbm hs0
  have hxl : ((xs.take (lo + cc)).drop lo).length = cc := by simp; omega
  have hzl : zs.length = cc + ys.length := by rw [← hz, List.length_append, hxl]
  have hyl : 0 < ys.length := List.length_pos_iff.2 hcons
  cases A with
  | none => exact absurd (f4 rfl) hcons
  | some ad =>
  have hold : ∀ j v, olds[j]? = some v → w.cell? ((⟨gb, off, none⟩ : Addr).add j) = some v := fun j v hj => by
    have : cc ≠ 0 := fun h0 => by
      rw [h0, Nat.zero_mul] at o1
      rw [List.eq_nil_of_length_eq_zero o1] at hj
      simp at hj
    rw [add_ptr, hoff this]
    exact o2 j v hj
  have hrun := run_append_grow (P := P) w t ty e ti zv (und_slice hT ht) hinf hiz ⟨gb, off, none⟩ cc cc olds (by rw [his, hsz]; exact o1) hold ad ys.length cy news (by rw [his, hsz]; exact f2) (fun j v hj => f3 ad rfl j v hj) (by omega) (by omega) (by rw [hib]; exact growslice_fits (by omega) (by rw [← hzl]; exact hb))
  rw [← hzl] at hrun
  have hG1 := grownCap_ge w zs.length cc e
  have hG2 := grownCap_le_maxLen w zs.length cc e (by unfold maxLen; omega)
  generalize grownCap w zs.length cc e = G at hrun hG1 hG2
  have hzs : zv.cells.size = sz := by
    have h2 := Nat.eq_of_beq_eq_true hz0
    rw [← h2, ← z1]
    simp
  have k7 : ∀ x ∈ xs, x.length = sz := by
    obtain ⟨_, _, _, _, k, _⟩ := hs.H.ok id _ hid
    exact k
  have hcs2 : olds.length + news.length = zs.length * sz := by rw [o1, f2, hzl, Nat.add_mul]
  have hcell : ∀ (j k : Nat) y d, zs[j]? = some y → y[k]? = some d → ∃ u, (olds ++ news)[j * sz + k]? = some u ∧ Reads O w d u := by
    intro j k y d hj hd
    rw [← hz] at hj
    have hk : k < sz := by
      have := (List.getElem?_eq_some_iff.1 hd).1
      rcases List.mem_append.1 (List.mem_of_getElem? hj) with h | h
      · rw [k7 y (List.mem_of_mem_take (List.mem_of_mem_drop h))] at this; exact this
      · rw [hel y h] at this; exact this
    by_cases hjc : j < cc
    · rw [List.getElem?_append_left (by omega)] at hj
      obtain ⟨u, u1, u2⟩ := o4 j k y d hj hd
      exact ⟨u, by rw [List.getElem?_append_left (List.getElem?_eq_some_iff.1 u1).1]; exact u1, u2⟩
    · rw [List.getElem?_append_right (by omega), hxl] at hj
      obtain ⟨u, u1, u2⟩ := f6 (j - cc) k y d hj hd
      have hm : j * sz = cc * sz + (j - cc) * sz := by rw [← Nat.add_mul]; congr 1; omega
      refine ⟨u, ?_, u2⟩
      rw [List.getElem?_append_right (by rw [o1, hm]; omega), o1, hm, show cc * sz + (j - cc) * sz + k - cc * sz = (j - cc) * sz + k by omega]
      exact u1
  generalize hus : (olds.toArray ++ news.toArray ++ Builtin.zeroCells zv.cells (G - zs.length)) = us at hrun
  have husz : us.size = G * sz := by
    rw [← hus]
    simp only [Array.size_append, List.size_toArray, size_zeroCells, hzs]
    rw [hcs2, ← Nat.add_mul]
    congr 1
    omega
  have htk : us.toList.take (zs.length * sz) = olds ++ news := by
    rw [← hus]
    simp only [Array.toList_append]
    rw [List.take_append_of_le_length (by rw [List.length_append]; omega), List.take_of_length_le (by rw [List.length_append]; omega)]
  have hGz : zs.length * sz ≤ G * sz := Nat.mul_le_mul_right _ hG1
  have hk1 : Keeps O w (fun k => O k ∨ k = w.heap.size) (w.drew.alloc (.cells us e)) := ⟨by simp, fun k hk _ => Below.heap_alloc w.drew _ k hk, fun k hk => by
    rcases hk with hk | hk
    · exact .inl hk
    · exact .inr (by omega)⟩
  have hm := mk_sat hs (.row e sz zs) (.slice (some ⟨w.heap.size, 0, none⟩) zs.length G) (.inl rfl) hk1 (by simp) (fun k hk => Below.heap_alloc w.drew _ k hk) rfl rfl rfl
    ⟨_, olds ++ news, upd_self _ _ _, ⟨by rw [List.length_append]; exact hcs2, .inr ⟨w.heap.size, G, us, rfl, Nat.zero_le _, heap_alloc_new w.drew _, hG1, hG2, husz, htk⟩⟩,
      fun x hx => by
        rw [← hz] at hx
        rcases List.mem_append.1 hx with hx | hx
        · exact k7 x (List.mem_of_mem_take (List.mem_of_mem_drop hx))
        · exact hel x hx,
      fun i p x d' hx hd' => by
        obtain ⟨u, u1, u2⟩ := hcell i p x d' hx hd'
        exact ⟨u, u1, u2.keep hk1⟩⟩
  unfold Oper.wp
  have hex : (execOp ac.eval ⟨some d, .call ⟨.builtin .append, #[x, y], #[t, t]⟩, ty, pos, aft, g⟩).run P w = .ok (.value (.slice (some ⟨w.heap.size, 0, none⟩) zs.length G)) (w.drew.alloc (.cells us e)) := by
    simp [execOp, resolve, invoke, builtin, hv, f1, hrun]
  rw [hex]
  refine hK _ _ ⟨_, _, put_sat hm (x := .own (.loc clk)) (.own _ _ (upd_self _ _ _) rfl) ?_⟩
  simp [mk, put, hd]

theorem seg3_le {σ σ' : St} (h : Le σ σ') {x : AV} {r : Id × Nat × Nat × Nat × Bool} (hr : seg3 σ x = some r) : seg3 σ' x = some r := by
  cases x with
  | own i =>
    simp only [seg3] at hr ⊢
    split at hr
    · rename_i hb
      rw [h.hk hb]
      exact hr
    · cases hr
  | _ => exact hr

/-- The same, in a region that draws its order. -/
theorem OSp.appCut (hT : TOK P ts) {zs : List (List D)} (hw : wantedA l ⟨some d, .call ⟨.builtin .append, #[x, y], #[t, t]⟩, ty, pos, aft, g⟩ ⟨n, T, H, Hp, clk⟩ = some true) (hd : Nat.blt d n = true) {vy : AV} {id : Id} {sz lo m e : Nat} {xs ys : List (List D)} (hx : ev ⟨n, T, H, Hp, clk⟩ x = some (.sub id sz lo m false)) (hid : hk ⟨n, T, H, Hp, clk⟩ id = some (.row e sz xs)) (hne : xs ≠ [])
    (hy : ev ⟨n, T, H, Hp, clk⟩ y = some vy) (hys : srcOf ⟨n, T, H, Hp, clk⟩ vy = some ys) (hel : ∀ y ∈ ys, y.length = sz) (hs0 : Nat.blt 0 sz = true) (hcons : ys ≠ [])
    {s b : Nat} {z : List AV} (ht : lk ts t = some ⟨.slice e, s, b, z⟩) {ie : TI} (he : lk ts e = some ie) (hsz : Nat.beq ie.size sz = true) (hz0 : Nat.beq ie.zero.length sz = true)
    (hz : (xs.take (lo + m)).drop lo ++ ys = zs) (hb : zs.length * ie.bytes ≤ 140737488355328) (h63 : zs.length ≤ 9223372036854775807) :
    OSp P l q ⟨some d, .call ⟨.builtin .append, #[x, y], #[t, t]⟩, ty, pos, aft, g⟩ ⟨n, T, H, Hp, clk⟩ ⟨some (d, .own (.loc q)), [(q, some (.row e sz zs))]⟩ := by
  rintro ⟨n', T', H', Hp', clk'⟩ hl hf
  obtain rfl : n = n' := hl.n
  exact AL.appCut hT (wantedA_le hl hw) hd (ev_le hl hx) (hl.hk hid) hne (ev_le hl hy) (srcOf_le hl hys) hel hs0 hcons ht he hsz hz0 hz hb h63 (AL.nil ⟨rfl, Fit.swap (b := .row e sz zs) (bl := []) hf sw_own (by simpa [lt2, lt1, ltI] using hf.lt) rfl rfl (fun k b h => by simp [lk] at h)⟩)

theorem qv33 (hT : TOK P ts) (i j : Nat) {o : Option Tmp} {σ : St} {vx : AV} {id : Id} {sz b m e e' s b' : Nat} {full : Bool} {xs : List (List D)} {z : List AV} {ie : TI} {hi' mx' : Operand} (hne : xs ≠ []) (hx : ev σ x = some vx := by rfl) (hsg : seg3 σ vx = some (id, sz, b, m, full) := by rfl) (hid : hk σ id = some (.row e sz xs) := by rfl)
    (ht : lk ts t = some ⟨.slice e', s, b', z⟩ := by rfl) (he : lk ts e' = some ie := by rfl) (hsz : Nat.beq ie.size sz = true := by rfl) (hlo : bnd σ lo 0 = some (i : Int) := by rfl) (hhi : bnd σ (some hi') 0 = some (j : Int) := by rfl) (hmx : bnd σ (some mx') 0 = some (j : Int) := by rfl) (h1 : i ≤ j := by first | omega | (simp; omega)) (h2 : j ≤ m := by first | omega | (simp; omega)) :
    VOp P σ ⟨o, .slice t x lo (some hi') (some mx'), ty, pos, aft, g⟩ (.sub id sz (b + i) (j - i) false) := .cut3 hT hx hsg hid hne ht he hsz hlo hhi hmx h1 h2
theorem qv34 (hT : TOK P ts) (i : Nat) {o : Option Tmp} {σ : St} {vx : AV} {id : Id} {sz b m e e' s b' : Nat} {full : Bool} {xs : List (List D)} {z : List AV} {ie : TI} {lo' : Operand} (hne : xs ≠ []) (hx : ev σ x = some vx := by rfl) (hsg : seg3 σ vx = some (id, sz, b, m, full) := by rfl) (hid : hk σ id = some (.row e sz xs) := by rfl)
    (ht : lk ts t = some ⟨.slice e', s, b', z⟩ := by rfl) (he : lk ts e' = some ie := by rfl) (hsz : Nat.beq ie.size sz = true := by rfl) (hlo : bnd σ (some lo') 0 = some (i : Int) := by rfl) (h1 : i ≤ m := by first | omega | (simp; omega)) :
    VOp P σ ⟨o, .slice t x (some lo') none none, ty, pos, aft, g⟩ (.sub id sz (b + i) (m - i) full) := .cutT hT hx hsg hid hne ht he hsz hlo h1
theorem qv35 (hT : TOK P ts) (i : Nat) {o : Option Tmp} {σ : St} {vx : AV} {id : Id} {sz b m e e' s b' : Nat} {full : Bool} {xs : List (List D)} {z : List AV} {ie : TI} {k : IntKind} (hne : xs ≠ []) (hx : ev σ x = some vx := by rfl) (hsg : seg3 σ vx = some (id, sz, b, m, full) := by rfl) (hid : hk σ id = some (.row e sz xs) := by rfl)
    (hy : ev σ y = some (.d (.one (.int k (i : Int)))) := by rfl) (ht : lk ts t = some ⟨.slice e', s, b', z⟩ := by rfl) (he : lk ts e' = some ie := by rfl) (hsz : Nat.beq ie.size sz = true := by rfl) (h1 : i < m := by first | omega | (simp; omega)) :
    VOp P σ ⟨o, .indexAddr t x y, ty, pos, aft, g⟩ (.rptr id sz (b + i) 0) := .idxC hT hx hsg hid hne hy ht he hsz h1
theorem qv36 (hT : TOK P ts) {o : Option Tmp} {σ : St} {vy : AV} {id : Id} {sz lo m e : Nat} {xs ys : List (List D)} {s b : Nat} {z : List AV} {ie : TI} (hne : xs ≠ []) (hnil : ys = []) (hx : ev σ x = some (.sub id sz lo m false) := by rfl) (hid : hk σ id = some (.row e sz xs) := by rfl)
    (hy : ev σ y = some vy := by rfl) (hys : srcOf σ vy = some ys := by rfl) (hs0 : Nat.blt 0 sz = true := by rfl) (ht : lk ts t = some ⟨.slice e, s, b, z⟩ := by rfl) (he : lk ts e = some ie := by rfl) (hsz : Nat.beq ie.size sz = true := by rfl) :
    VOp P σ ⟨o, .call ⟨.builtin .append, #[x, y], #[t, t]⟩, ty, pos, aft, g⟩ (.sub id sz lo m false) := .appCut0 hT hx hid hne hy hys (fun y hy => by rw [hnil] at hy; simp at hy) hs0 hnil ht he hsz
end
end Go.AM
