/- A machine over pure data, and what it says of Go's machine: parts 41 to 60. -/
import Derived.Test.YtagdffkagpeomaaAMC
import Derived.Lib.Overlaps
import Derived.Lib.AppendZerosOnto
import Derived.MapKept
import Derived.Lib.Bytealg
import Derived.Laws.Externs
import Derived.Lib.AppendStr
import Derived.Laws.BytesArg
import Derived.Lib.ConvBytes
/- A machine over pure data: part 41: append onto a part of a row, in place; a part cleared. -/
set_option linter.unusedVariables false
set_option linter.unusedSimpArgs false
namespace Go.AM
open Go Go.RowKit

section
variable {P : Program} {l rest : List Oper} {Q : Exit → St → Prop} {n d clk : Nat} {T : List (Nat × AV)} {H : List (Nat × Option Blk)} {Hp : List Blk} {x y : Operand} {t t2 ty : TypeId} {tys : Array TypeId} {pos : String} {aft : Array Edge} {g : Option (Nat × Bool)}

/-- append(x, y...), x a part of a row of the call's own, where what is appended stays within the row. -/
theorem AL.appIn {ts : List (Nat × TI)} (hT : TOK P ts) (hw : wantedA l ⟨some d, .call ⟨.builtin .append, #[x, y], #[t, t]⟩, ty, pos, aft, g⟩ ⟨n, T, H, Hp, clk⟩ = some true) (hd : Nat.blt d n = true) {vx vy : AV} (hx : ev ⟨n, T, H, Hp, clk⟩ x = some vx) {id sz lo m e : Nat} (hsg : seg ⟨n, T, H, Hp, clk⟩ vx = some (.loc id, sz, lo, m))
    {xs ys : List (List D)} (hid : hk ⟨n, T, H, Hp, clk⟩ (.loc id) = some (.row e sz xs)) (hne : xs ≠ []) (hy : ev ⟨n, T, H, Hp, clk⟩ y = some vy) (hys : srcOf ⟨n, T, H, Hp, clk⟩ vy = some ys) (hel : ∀ y ∈ ys, y.length = sz) (hs0 : Nat.blt 0 sz = true)
    {e' s b : Nat} {z : List AV} (ht : lk ts t = some ⟨.slice e', s, b, z⟩) {ie : TI} (he : lk ts e' = some ie) (hsz : Nat.beq ie.size sz = true) (hfit : lo + (m + ys.length) ≤ xs.length)
    (h : AL P l Q rest ⟨n, (d, .sub (.loc id) sz lo (m + ys.length) true) :: T, (id, some (.row e sz (xs.take (lo + m) ++ ys ++ xs.drop (lo + m + ys.length)))) :: H, Hp, clk⟩) :
    AL P l Q (⟨some d, .call ⟨.builtin .append, #[x, y], #[t, t]⟩, ty, pos, aft, g⟩ :: rest) ⟨n, T, H, Hp, clk⟩ := by
  refine AL.step (σ' := ⟨n, (d, .sub (.loc id) sz lo (m + ys.length) true) :: T, (id, some (.row e sz (xs.take (lo + m) ++ ys ++ xs.drop (lo + m + ys.length)))) :: H, Hp, clk⟩) hw ?_ h
  rintro c a w ⟨ρ, O, hs⟩ K Q' hK
  have hsz := Nat.eq_of_beq_eq_true hsz
  have hs0 : 0 < sz := by simpa using hs0
  have hxv := ev_sound hs hx
  have hyv := ev_sound hs hy
  have hsize := (hT.facts he).sizeOf (P := P)
  have hu := und_slice hT ht
  obtain ⟨hlm, hval⟩ := seg_val hs hsg hid hxv
  obtain ⟨A, cc, news, s1, s2, s3, s4, s5, s6⟩ := src_cells hs hys hyv hel hs0
  generalize hq : ys.length = q at *
  have hload : ∀ ad, A = some ad → (loadCells ad (q * sz)).run P w = .ok news.toArray w := fun ad had => by
    have := run_loadCells_list (P := P) w ad news (fun j v hj => s3 ad had j v hj)
    rw [s2] at this
    exact this
  rcases hval with ⟨hv, rfl, _⟩ | ⟨gb, cap, cc2, off, cur, hv, hρ, hcap, hlc, hoff, hh, hcs⟩
  · exact absurd rfl hne
  · have hoff2 : off = lo * sz ∨ (m = 0 ∧ q = 0) := by
      by_cases h0 : cc2 = 0
      · exact .inr (by omega)
      · exact .inl (hoff h0)
    have hfit2 : (lo + m) * sz + q * sz ≤ cur.size := by
      rw [hcs, ← Nat.add_mul]
      exact Nat.mul_le_mul_right _ (by omega)
    have hcells : ∃ cur', (storeCells ⟨gb, off + m * sz, none⟩ news 0).run P w = .ok () (w.setRow gb cur') ∧ cur'.size = cur.size ∧ ∀ p : Nat, cur'[p]? = if (lo + m) * sz ≤ p ∧ p < (lo + m) * sz + news.length then news[p - (lo + m) * sz]? else cur[p]? := by
      rcases hoff2 with h0 | ⟨hm0, hq0⟩
      · obtain ⟨cur', e1, e2, e3⟩ := run_storeSeg (P := P) gb ((lo + m) * sz) e news 0 cur w hh (by rw [s2]; omega) s5
        refine ⟨cur', ?_, e2, fun p => by rw [e3]; rfl⟩
        rw [h0, ← Nat.add_mul]
        exact e1
      · have hn : news = [] := List.eq_nil_of_length_eq_zero (by rw [s2, hq0, Nat.zero_mul])
        subst hn
        obtain ⟨cur', e1, e2, e3⟩ := run_storeSeg (P := P) gb 0 e [] 0 cur w hh (by simp) (fun v hv => by cases hv)
        refine ⟨cur', ?_, e2, fun p => ?_⟩
        · exact e1
        · rw [e3, if_neg (by simp), if_neg (by simp)]
    obtain ⟨cur', e1, e2, e3⟩ := hcells
    have hneed : m + q ≤ cc2 := by omega
    have hrun : (Builtin.append_ #[t, t] ty #[.slice (some ⟨gb, off, none⟩) m cc2, .slice A q cc]).run P w = .ok (.slice (some ⟨gb, off, none⟩) (m + q) cc2) (w.setRow gb cur') := by
      cases A with
      | none =>
        have hy0 : ys = [] := s4 rfl
        have hq0 : q = 0 := by rw [← hq, hy0]; rfl
        subst hq0
        have hn : news = [] := List.eq_nil_of_length_eq_zero (by rw [s2, Nat.zero_mul])
        subst hn
        simp [Builtin.append_, run_underlying hu, Builtin.lenOf, Builtin.firstCells, hsize, hneed, hsz, add_ptr, e1]
        intro hx'; omega
      | some ad =>
        have hl := hload ad rfl
        simp [Builtin.append_, run_underlying hu, Builtin.lenOf, Builtin.firstCells, hsize, hneed, hsz, hl, add_ptr, e1]
    have hsat := seg_write (lo := lo + m) (ys := ys) (vs := news) hs hid hρ hh hcs hlc (by rw [s2, hq]) hel (fun j k y d h1 h2 => s6 j k y d h1 h2) (by rw [hq]; omega) e2 (fun p => e3 p)
    rw [hq] at hsat
    unfold Oper.wp
    have hex : (execOp a.eval ⟨some d, .call ⟨.builtin .append, #[x, y], #[t, t]⟩, ty, pos, aft, g⟩).run P w = .ok (.value (.slice (some ⟨gb, off, none⟩) (m + q) cc2)) (w.setRow gb cur') := by
      simp [execOp, resolve, invoke, builtin, hv, s1, hrun]
    rw [hex]
    exact hK _ _ ⟨ρ, O, put_sat hsat (v := .slice (some ⟨gb, off, none⟩) (m + q) cc2) (x := .sub (.loc id) sz lo (m + q) true) (.sub _ _ _ _ _ gb xs.length cap cc2 off hρ (by omega) hneed (by omega) ⟨fun _ => hcap, fun h => by cases h⟩ hoff) (by simp [put, hd])⟩

/-- clear(x), x a part of a row of the call's own. -/
theorem AL.clear {ts : List (Nat × TI)} (hT : TOK P ts) {dst : Option Tmp} {σ' : St} (hw : wantedA l ⟨dst, .call ⟨.builtin .clear, #[x], #[t]⟩, ty, pos, aft, g⟩ ⟨n, T, H, Hp, clk⟩ = some true) {vx : AV} (hx : ev ⟨n, T, H, Hp, clk⟩ x = some vx) {id sz lo m e : Nat} (hsg : seg ⟨n, T, H, Hp, clk⟩ vx = some (.loc id, sz, lo, m))
    {xs : List (List D)} (hid : hk ⟨n, T, H, Hp, clk⟩ (.loc id) = some (.row e sz xs)) (hne : xs ≠ []) (hs0 : Nat.blt 0 sz = true)
    {e' s b : Nat} {z : List AV} (ht : lk ts t = some ⟨.slice e', s, b, z⟩) {ie : TI} (he : lk ts e' = some ie) (hsz : Nat.beq ie.size sz = true) {ds : List D} (hz : toDs ie.zero some = some ds) (hzl : Nat.beq ds.length ie.size = true)
    (hp : put ⟨n, T, (id, some (.row e sz (xs.take lo ++ List.replicate m ds ++ xs.drop (lo + m)))) :: H, Hp, clk⟩ dst (.tup []) = some σ') (h : AL P l Q rest σ') :
    AL P l Q (⟨dst, .call ⟨.builtin .clear, #[x], #[t]⟩, ty, pos, aft, g⟩ :: rest) ⟨n, T, H, Hp, clk⟩ := by
  refine AL.step (σ' := σ') hw ?_ h
  rintro c a w ⟨ρ, O, hs⟩ K Q' hK
  have hsz := Nat.eq_of_beq_eq_true hsz
  have hs0 : 0 < sz := by simpa using hs0
  have hxv := ev_sound hs hx
  have hu := und_slice hT ht
  obtain ⟨ti, zv, i1, i2, i3, i4, i5⟩ := (hT.facts he).info
  obtain ⟨z1, z2⟩ := zall_sound i5
  obtain ⟨ds', d1, d2, d3, d4⟩ := toDs_spec hz
  cases d1
  have hzl := Nat.eq_of_beq_eq_true hzl
  have hzs : zv.cells.size = sz := by rw [← hsz, ← hzl, d2, ← z1]; simp
  have hzero : ∀ w, (zeroValue e').run P w = .ok zv w := fun w => by
    simp [zeroValue, typeInfo, i1, i4]
  obtain ⟨hlm, hval⟩ := seg_val hs hsg hid hxv
  rcases hval with ⟨hv, rfl, _⟩ | ⟨gb, cap, cc2, off, cur, hv, hρ, hcap, hlc, hoff, hh, hcs⟩
  · exact absurd rfl hne
  · generalize hnw : (Builtin.zeroCells zv.cells m).toList = news
    have hnl : news.length = m * sz := by rw [← hnw]; simp [Builtin.zeroCells, hzs]
    have hcell : ∀ j k : Nat, j < m → k < sz → news[j * sz + k]? = zv.cells[k]? := by
      intro j k hj hk
      have h1 : (j + 1) * sz ≤ m * sz := Nat.mul_le_mul_right _ (by omega)
      rw [Nat.succ_mul] at h1
      have h2 : (j * sz + k) % zv.cells.size = k := by rw [hzs, Nat.add_comm, Nat.add_mul_mod_self_right, Nat.mod_eq_of_lt hk]
      rw [← hnw]
      simp only [Builtin.zeroCells, Array.toList_map, List.getElem?_map]
      rw [Array.getElem?_toList, Array.getElem?_range, if_pos (by rw [hzs]; omega)]
      simp only [Option.map_some, h2]
      rw [getElem!_pos zv.cells k (by omega), Array.getElem?_eq_getElem (by omega)]
    have hone : ∀ v ∈ news, v.oneCell' = true := fun v hv => by
      obtain ⟨p, hp⟩ := List.getElem?_of_mem hv
      have hpl : p < m * sz := by rw [← hnl]; exact (List.getElem?_eq_some_iff.1 hp).1
      have h1 : p / sz < m := (Nat.div_lt_iff_lt_mul hs0).2 hpl
      have h2 := hcell (p / sz) (p % sz) h1 (Nat.mod_lt _ hs0)
      rw [Nat.mul_comm, Nat.div_add_mod] at h2
      rw [hp] at h2
      have hk : p % sz < zv.cells.size := by rw [hzs]; exact Nat.mod_lt _ hs0
      have hx : ∃ x, ie.zero[p % sz]? = some x := ⟨_, List.getElem?_eq_getElem (by have := z1; simp at this; omega)⟩
      obtain ⟨x, hx⟩ := hx
      exact (z2 (fun _ => none) (fun _ => False) w (p % sz) x v hx (by rw [Array.getElem?_toList]; exact h2.symm)).2
    have hoff2 : off = lo * sz ∨ m = 0 := by
      by_cases h0 : cc2 = 0
      · exact .inr (by omega)
      · exact .inl (hoff h0)
    have hfit2 : lo * sz + m * sz ≤ cur.size := by
      rw [hcs, ← Nat.add_mul]
      exact Nat.mul_le_mul_right _ (by omega)
    have hcells : ∃ cur', (storeCells ⟨gb, off, none⟩ news 0).run P w = .ok () (w.setRow gb cur') ∧ cur'.size = cur.size ∧ ∀ p : Nat, cur'[p]? = if lo * sz ≤ p ∧ p < lo * sz + news.length then news[p - lo * sz]? else cur[p]? := by
      rcases hoff2 with h0 | hm0
      · obtain ⟨cur', e1, e2, e3⟩ := run_storeSeg (P := P) gb (lo * sz) e news 0 cur w hh (by rw [hnl]; omega) hone
        refine ⟨cur', ?_, e2, fun p => by rw [e3]; rfl⟩
        rw [h0]
        exact e1
      · have hn : news = [] := List.eq_nil_of_length_eq_zero (by rw [hnl, hm0, Nat.zero_mul])
        subst hn
        obtain ⟨cur', e1, e2, e3⟩ := run_storeSeg (P := P) gb 0 e [] 0 cur w hh (by simp) (fun v hv => by cases hv)
        refine ⟨cur', ?_, e2, fun p => ?_⟩
        · exact e1
        · rw [e3, if_neg (by simp), if_neg (by simp)]
    obtain ⟨cur', e1, e2, e3⟩ := hcells
    have hrun : ∃ w2, (Builtin.clear_ #[t] ty #[.slice (some ⟨gb, off, none⟩) m cc2]).run P w = .ok (.tuple #[]) w2 ∧ (w2 = w.setRow gb cur' ∨ (w2 = w ∧ m = 0)) := by
      cases m with
      | zero => exact ⟨w, by simp [Builtin.clear_, run_underlying hu], .inr ⟨rfl, rfl⟩⟩
      | succ m =>
        refine ⟨_, ?_, .inl rfl⟩
        simp only [Builtin.clear_]
        simp [run_underlying hu, hzero, hnw, e1]
    obtain ⟨w2, hrun, hw2⟩ := hrun
    have hrd : ∀ (j k : Nat) y d, (List.replicate m ds)[j]? = some y → y[k]? = some d → ∃ u, news[j * sz + k]? = some u ∧ Reads O w d u := by
      intro j k y d' hy hd'
      rw [List.getElem?_replicate] at hy
      split at hy
      · rename_i hj
        cases hy
        have hk : k < ds.length := (List.getElem?_eq_some_iff.1 hd').1
        have hkz : k < zv.cells.size := by omega
        refine ⟨zv.cells[k], by rw [hcell j k hj (by omega), Array.getElem?_eq_getElem hkz], ?_⟩
        have hxk : ∃ x, ie.zero[k]? = some x := ⟨_, List.getElem?_eq_getElem (by omega)⟩
        obtain ⟨x, hxk⟩ := hxk
        exact d4 (fun _ => none) _ _ k x d' _ hxk hd' (z2 (fun _ => none) _ _ k x _ hxk (by rw [Array.getElem?_toList, Array.getElem?_eq_getElem hkz])).1
      · cases hy
    have hsat := seg_write (lo := lo) (ys := List.replicate m ds) (vs := news) hs hid hρ hh hcs hlc (by rw [hnl, List.length_replicate]) (fun y hy => by rw [(List.mem_replicate.1 hy).2, hzl, hsz]) hrd (by rw [List.length_replicate]; omega) e2 e3
    rw [List.length_replicate] at hsat
    unfold Oper.wp
    have hex : (execOp a.eval ⟨dst, .call ⟨.builtin .clear, #[x], #[t]⟩, ty, pos, aft, g⟩).run P w = .ok (.value (.tuple #[])) w2 := by
      simp [execOp, resolve, invoke, builtin, hv, hrun]
    rw [hex]
    have hfin : SatAt c ⟨n, T, (id, some (.row e sz (xs.take lo ++ List.replicate m ds ++ xs.drop (lo + m)))) :: H, Hp, clk⟩ a w2 ρ O := by
      rcases hw2 with rfl | ⟨rfl, rfl⟩
      · exact hsat
      · refine SatAt.le (σ := ⟨n, T, (id, some (.row e sz (xs.take lo ++ List.replicate 0 ds ++ xs.drop (lo + 0)))) :: H, Hp, clk⟩) (σ' := ⟨n, T, H, Hp, clk⟩) ⟨rfl, rfl, rfl, fun _ _ h => h, fun q b' hq => ?_⟩ hs
        rcases lk_shadow hq with ⟨rfl, e1⟩ | ⟨_, hq⟩
        · injection e1 with e1
          subst e1
          simp only [hk] at hid
          split at hid
          · rename_i b' hb'
            cases hid
            simpa using hb'
          · cases hid
        · exact hq
    exact hK _ _ ⟨ρ, O, put_sat hfin (v := .tuple #[]) (x := .tup []) (.tup _ _ rfl (fun k x v h => by simp at h)) hp⟩
end
end Go.AM

/- A machine over pure data: part 42: cuts with three bounds; append in place in regions that draw their order. -/
set_option linter.unusedVariables false
set_option linter.unusedSimpArgs false
namespace Go.AM
open Go Go.RowKit

section
variable {P : Program} {l rest : List Oper} {Q : Exit → St → Prop} {n d clk q : Nat} {T : List (Nat × AV)} {H : List (Nat × Option Blk)} {Hp : List Blk} {x y lo hi mx : Operand} {t t2 ty : TypeId} {tys : Array TypeId} {pos : String} {aft : Array Edge} {g : Option (Nat × Bool)} {ts : List (Nat × TI)}

/-- x[lo:hi:mx], x a row of the call's own, or a part of one. -/
theorem VOp.cutOM (hT : TOK P ts) {o : Option Tmp} {σ : St} {vx : AV} {id : Id} {sz b m e e' s b' : Nat} {xs : List (List D)} {z : List AV} {ie : TI} {i j k : Int} (hx : ev σ x = some vx) (hsg : seg σ vx = some (id, sz, b, m)) (hid : hk σ id = some (.row e sz xs))
    (ht : lk ts t = some ⟨.slice e', s, b', z⟩) (he : lk ts e' = some ie) (hsz : Nat.beq ie.size sz = true) (hlo : bnd σ (some lo) 0 = some i) (hhi : bnd σ (some hi) 0 = some j) (hmx : bnd σ (some mx) 0 = some k) (h0 : 0 ≤ i) (h1 : i ≤ j) (h3 : j = k) (h2 : (b : Int) + k ≤ xs.length) :
    VOp P σ ⟨o, .slice t x (some lo) (some hi) (some mx), ty, pos, aft, g⟩ (.sub id sz (b + i.toNat) (j.toNat - i.toNat) false) := by
  obtain ⟨i, rfl⟩ : ∃ a : Nat, i = a := ⟨i.toNat, by omega⟩
  obtain ⟨j, rfl⟩ : ∃ a : Nat, j = a := ⟨j.toNat, by omega⟩
  obtain ⟨k, rfl⟩ : ∃ a : Nat, k = a := ⟨k.toNat, by omega⟩
  simp only [Int.toNat_natCast]
  refine VOp.mk fun c ac w ρ O hs => ?_
  have hsz := Nat.eq_of_beq_eq_true hsz
  have e1 := ev_sound hs hx
  have hsize := (hT.facts he).sizeOf (P := P)
  obtain ⟨hbm, hval⟩ := seg_val hs hsg hid e1
  have run : ∀ (len cc : Nat), k ≤ cc → ∀ w, (Instr.sliceBounds true len cc (some (ac.eval lo)) (some (ac.eval hi)) (some (ac.eval mx))).run P w = .ok (i, j, k) w := by
    intro len cc hkc w
    rcases bnd_sound hs hlo with ⟨h, _⟩ | ⟨k1, hk1⟩
    · cases h
    rcases bnd_sound hs hhi with ⟨h, _⟩ | ⟨k2, hk2⟩
    · cases h
    rcases bnd_sound hs hmx with ⟨h, _⟩ | ⟨k3, hk3⟩
    · cases h
    simp only [Option.map_some, Option.some.injEq] at hk1 hk2 hk3
    have a1 : (0 : Int) ≤ (k : Int) ∧ (k : Int) ≤ (cc : Int) := ⟨by omega, by omega⟩
    have a2 : (0 : Int) ≤ (j : Int) ∧ (j : Int) ≤ (k : Int) := ⟨by omega, by omega⟩
    have a3 : (0 : Int) ≤ (i : Int) ∧ (i : Int) ≤ (j : Int) := ⟨by omega, by omega⟩
    simp only [Instr.sliceBounds, hk1, hk2, hk3, Instr.sliceBound, asIntOf, a1, a2, a3, Sem.run_bind, Sem.run_pure, Result.andThen_ok, and_self, if_true, Sem.run_ite, Int.toNat_natCast]
  rcases hval with ⟨hv, rfl, rfl, rfl, hρ⟩ | ⟨gb, cap, cc, off, cur, hv, hρ, hcap, hlc, hoff, hh, hcs⟩
  · have hk0 : k = 0 := by simp at h2; omega
    have hi0 : i = 0 := by omega
    have hj0 : j = 0 := by omega
    subst hk0; subst hi0; subst hj0
    refine ⟨.slice none 0 0, fun w' _ => ?_, .subN _ _ _ hρ⟩
    simp only [execOp, hv, Instr.sliceAt, Sem.run_bind, run_underlying (und_slice hT ht), Result.andThen_ok, Instr.slice, Option.map_some, run 0 0 (by omega), hsize, Sem.run_pure]
    rfl
  · refine ⟨.slice (some ⟨gb, if k = i then off else off + i * sz, none⟩) (j - i) (k - i), fun w' _ => ?_, ?_⟩
    · have hq : Value.slice (some ⟨gb, if k = i then off else off + i * sz, none⟩) (j - i) (k - i) = .slice (if k = i then some ⟨gb, off, none⟩ else (some (⟨gb, off, none⟩ : Addr)).map (·.add (i * ie.size))) (j - i) (k - i) := by
        by_cases hci : k = i
        · simp [hci]
        · simp [hci, add_ptr, hsz]
      rw [hq]
      simp only [execOp, hv, Instr.sliceAt, Sem.run_bind, run_underlying (und_slice hT ht), Result.andThen_ok, Instr.slice, Option.map_some, run m cc (by omega), hsize, Sem.run_pure]
    · refine .sub _ _ _ _ _ gb xs.length cap (k - i) _ hρ (by omega) (by omega) (by omega) ⟨fun h => (by cases h), fun _ => by omega⟩ (fun hne => ?_)
      have h5 : k ≠ i := by omega
      rw [if_neg h5, hoff (by omega), Nat.add_mul]

theorem OSp.appIn (hT : TOK P ts) (hw : wantedA l ⟨some d, .call ⟨.builtin .append, #[x, y], #[t, t]⟩, ty, pos, aft, g⟩ ⟨n, T, H, Hp, clk⟩ = some true) (hd : Nat.blt d n = true) {vx vy : AV} (hx : ev ⟨n, T, H, Hp, clk⟩ x = some vx) {id sz lo m e : Nat} (hsg : seg ⟨n, T, H, Hp, clk⟩ vx = some (.loc id, sz, lo, m))
    {xs ys : List (List D)} (hid : hk ⟨n, T, H, Hp, clk⟩ (.loc id) = some (.row e sz xs)) (hne : xs ≠ []) (hy : ev ⟨n, T, H, Hp, clk⟩ y = some vy) (hys : srcOf ⟨n, T, H, Hp, clk⟩ vy = some ys) (hel : ∀ y ∈ ys, y.length = sz) (hs0 : Nat.blt 0 sz = true)
    {e' s b : Nat} {z : List AV} (ht : lk ts t = some ⟨.slice e', s, b, z⟩) {ie : TI} (he : lk ts e' = some ie) (hsz : Nat.beq ie.size sz = true) (hfit : lo + (m + ys.length) ≤ xs.length) :
    OSp P l q ⟨some d, .call ⟨.builtin .append, #[x, y], #[t, t]⟩, ty, pos, aft, g⟩ ⟨n, T, H, Hp, clk⟩ ⟨some (d, .sub (.loc id) sz lo (m + ys.length) true), [(id, some (.row e sz (xs.take (lo + m) ++ ys ++ xs.drop (lo + m + ys.length))))]⟩ := by
  rintro ⟨n', T', H', Hp', clk'⟩ hl hf
  obtain rfl : n = n' := hl.n
  exact AL.appIn hT (wantedA_le hl hw) hd (ev_le hl hx) (seg_le hl hsg) (hl.hk hid) hne (ev_le hl hy) (srcOf_le hl hys) hel hs0 ht he hsz hfit (AL.nil ⟨rfl, Imp.refl _⟩)
theorem qv23 (hT : TOK P ts) {o : Option Tmp} {σ : St} {vx : AV} {id : Id} {sz b m e e' s b' : Nat} {xs : List (List D)} {z : List AV} {ie : TI} {i j k : Int} (hx : ev σ x = some vx := by rfl) (hsg : seg σ vx = some (id, sz, b, m) := by rfl) (hid : hk σ id = some (.row e sz xs) := by rfl)
    (ht : lk ts t = some ⟨.slice e', s, b', z⟩ := by rfl) (he : lk ts e' = some ie := by rfl) (hsz : Nat.beq ie.size sz = true := by rfl) (hlo : bnd σ (some lo) 0 = some i := by rfl) (hhi : bnd σ (some hi) 0 = some j := by rfl) (hmx : bnd σ (some mx) 0 = some k := by rfl) (h0 : 0 ≤ i := by omega) (h1 : i ≤ j := by first | omega | (simp; omega)) (h3 : j = k := by first | rfl | omega | (simp; omega)) (h2 : (b : Int) + k ≤ xs.length := by first | omega | (simp; omega)) :
    VOp P σ ⟨o, .slice t x (some lo) (some hi) (some mx), ty, pos, aft, g⟩ (.sub id sz (b + i.toNat) (j.toNat - i.toNat) false) := .cutOM hT hx hsg hid ht he hsz hlo hhi hmx h0 h1 h3 h2
end
end Go.AM

/- A machine over pure data: part 43: what slices.Insert does: rows of known capacity, lengthened in place, or moved. -/
set_option linter.unusedVariables false
set_option linter.unusedSimpArgs false
namespace Go.AM
open Go Go.RowKit

section
variable {P : Program} {l rest : List Oper} {Q : Exit → St → Prop} {n d clk : Nat} {T : List (Nat × AV)} {H : List (Nat × Option Blk)} {Hp : List Blk} {x y lo hi : Operand} {t t2 ty : TypeId} {tys : Array TypeId} {pos : String} {aft : Array Edge} {g : Option (Nat × Bool)} {ts : List (Nat × TI)}

theorem rowc_back {i e sz C : Nat} {xs : List (List D)} {ρ : Env} {O : Nat → Prop} {w : World} {id : Id} (h : BOK ρ O w id (.rowc e sz xs xs.length C)) : BOK ρ O w id (.row e sz xs) := by
  obtain ⟨g, cur, h1, h2, h3, h4, h5, h6, h7, h8⟩ := h
  have hle : xs.length * sz ≤ C * sz := Nat.mul_le_mul_right _ h5
  refine ⟨_, cur.toList.take (xs.length * sz), h1, ⟨by
    have h9 : cur.toList.length = C * sz := by simpa using h3
    rw [List.length_take, h9]; omega, .inr ⟨g, C, cur, rfl, Nat.zero_le _, h2, h5, h6, h3, rfl⟩⟩, h7, fun j k x d hx hd => ?_⟩
  obtain ⟨u, u1, u2⟩ := h8 j k x d hx hd
  have hj : j < xs.length := (List.getElem?_eq_some_iff.1 hx).1
  have hk : k < sz := by
    have := (List.getElem?_eq_some_iff.1 hd).1
    rw [h7 x (List.mem_of_getElem? hx)] at this
    exact this
  have h9 : (j + 1) * sz ≤ xs.length * sz := Nat.mul_le_mul_right _ (by omega)
  rw [Nat.succ_mul] at h9
  exact ⟨u, by rw [List.getElem?_take, if_pos (by omega), Array.getElem?_toList]; exact u1, u2⟩
/-- A block told otherwise, where it is so. -/
theorem retell {i : Nat} {b b' : Blk} (hi : hk ⟨n, T, H, Hp, clk⟩ (.loc i) = some b) (hb : ∀ ρ O w, BOK ρ O w (.loc i) b → BOK ρ O w (.loc i) b') : Imp ⟨n, T, H, Hp, clk⟩ ⟨n, T, (i, some b') :: H, Hp, clk⟩ := by
  rintro c a w ⟨ρ, O, h⟩
  have hlk : ∀ j bj, hk ⟨n, T, (i, some b') :: H, Hp, clk⟩ j = some bj → (j = .loc i ∧ bj = b') ∨ hk ⟨n, T, H, Hp, clk⟩ j = some bj := by
    intro j bj hj
    cases j with
    | par k => exact .inr hj
    | loc k =>
      by_cases e : i = k
      · subst e
        simp only [hk, lk_cons_self] at hj
        exact .inl ⟨rfl, by cases hj; rfl⟩
      · simp only [hk, lk_cons_ne e] at hj
        exact .inr hj
  have hany : ∀ j bj, hk ⟨n, T, (i, some b') :: H, Hp, clk⟩ j = some bj → ∃ b0, hk ⟨n, T, H, Hp, clk⟩ j = some b0 := fun j bj hj => by
    rcases hlk j bj hj with ⟨rfl, _⟩ | h
    · exact ⟨_, hi⟩
    · exact ⟨_, h⟩
  refine ⟨ρ, O, h.defers, h.n, h.par, h.fresh, h.T, ⟨fun j bj hj => ?_, fun j bj g hj hg => ?_, fun j k bj bk g hj hk' hgj hgk => ?_⟩, h.F⟩
  · rcases hlk j bj hj with ⟨rfl, rfl⟩ | hj
    · exact hb ρ O w (h.H.ok _ _ hi)
    · exact h.H.ok _ _ hj
  · obtain ⟨b0, h0⟩ := hany j bj hj
    exact h.H.own j b0 g h0 hg
  · obtain ⟨b0, h0⟩ := hany j bj hj
    obtain ⟨b1, h1⟩ := hany k bk hk'
    exact h.H.inj j k b0 b1 g h0 h1 hgj hgk
theorem AW.uncap {code : Code} {i e sz C : Nat} {xs : List (List D)} (hi : hk ⟨n, T, H, Hp, clk⟩ (.loc i) = some (.rowc e sz xs xs.length C)) (h : AW P code Q ⟨n, T, (i, some (.row e sz xs)) :: H, Hp, clk⟩) : AW P code Q ⟨n, T, H, Hp, clk⟩ := AW.imp (retell hi fun _ _ _ h => rowc_back (i := i) h) h

/-- cap(x), x a row of the call's own. -/
theorem AL.cap (hT : TOK P ts) (hw : wantedA l ⟨some d, .call ⟨.builtin .cap, #[x], #[t]⟩, ty, pos, aft, g⟩ ⟨n, T, H, Hp, clk⟩ = some true) (hd : Nat.blt d n = true) {i e sz : Nat} {xs : List (List D)} (hx : ev ⟨n, T, H, Hp, clk⟩ x = some (.own (.loc i))) (hi : hk ⟨n, T, H, Hp, clk⟩ (.loc i) = some (.row e sz xs)) (hne : xs ≠ [])
    {e' s b : Nat} {z : List AV} (ht : lk ts t = some ⟨.slice e', s, b, z⟩) (hr : ∀ C : Nat, xs.length ≤ C → C ≤ 9223372036854775807 → AL P l Q rest ⟨n, (d, i64 C) :: T, (i, some (.rowc e sz xs xs.length C)) :: H, Hp, clk⟩) :
    AL P l Q (⟨some d, .call ⟨.builtin .cap, #[x], #[t]⟩, ty, pos, aft, g⟩ :: rest) ⟨n, T, H, Hp, clk⟩ := by
  rintro c a w ⟨ρ, O, hs⟩
  refine wpList_step fun K hK => ?_
  rw [if_pos (wantedA_sound hw ⟨ρ, O, hs⟩)]
  have hxv := ev_sound hs hx
  obtain ⟨v, vs, hv, hown, hxl, hxc⟩ := hs.H.ok (.loc i) _ hi
  rcases hown with ⟨hvl, ⟨_, h0⟩ | ⟨gb, cap, cur, rfl, _, hh, hnc, hcm, hcs, htk⟩⟩
  · exact absurd (List.eq_nil_of_length_eq_zero h0) hne
  have hax : a.eval x = .slice (some ⟨gb, 0, none⟩) xs.length cap := by
    generalize a.eval x = q at hxv
    cases hxv with
    | own _ _ h1 _ => rw [hv] at h1; injection h1 with h1; exact h1.symm
  have hrun : (Builtin.cap_ #[t] ty #[.slice (some ⟨gb, 0, none⟩) xs.length cap]).run P w = .ok (goInt cap) w := by
    simp [Builtin.cap_, run_underlying (und_slice hT ht)]
  unfold Oper.wp
  have hex : (execOp a.eval ⟨some d, .call ⟨.builtin .cap, #[x], #[t]⟩, ty, pos, aft, g⟩).run P w = .ok (.value (goInt cap)) w := by
    simp [execOp, resolve, invoke, builtin, hax, hrun]
  rw [hex]
  have hs2 : SatAt c ⟨n, T, (i, some (.rowc e sz xs xs.length cap)) :: H, Hp, clk⟩ a w ρ O := by
    have hlk : ∀ j bj, hk ⟨n, T, (i, some (.rowc e sz xs xs.length cap)) :: H, Hp, clk⟩ j = some bj → (j = .loc i ∧ bj = .rowc e sz xs xs.length cap) ∨ hk ⟨n, T, H, Hp, clk⟩ j = some bj := by
      intro j bj hj
      cases j with
      | par k => exact .inr hj
      | loc k =>
        by_cases e : i = k
        · subst e
          simp only [hk, lk_cons_self] at hj
          exact .inl ⟨rfl, by cases hj; rfl⟩
        · simp only [hk, lk_cons_ne e] at hj
          exact .inr hj
    have hany : ∀ j bj, hk ⟨n, T, (i, some (.rowc e sz xs xs.length cap)) :: H, Hp, clk⟩ j = some bj → ∃ b0, hk ⟨n, T, H, Hp, clk⟩ j = some b0 := fun j bj hj => by
      rcases hlk j bj hj with ⟨rfl, _⟩ | h
      · exact ⟨_, hi⟩
      · exact ⟨_, h⟩
    refine ⟨hs.defers, hs.n, hs.par, hs.fresh, hs.T, ⟨fun j bj hj => ?_, fun j bj g hj hg => ?_, fun j k bj bk g hj hk' hgj hgk => ?_⟩, hs.F⟩
    · rcases hlk j bj hj with ⟨rfl, rfl⟩ | hj
      · refine ⟨gb, cur, hv, hh, hcs, Nat.le_refl _, hnc, hcm, hxl, fun j k x d hx hd => ?_⟩
        obtain ⟨u, u1, u2⟩ := hxc j k x d hx hd
        rw [← htk, List.getElem?_take] at u1
        split at u1
        · exact ⟨u, by simpa using u1, u2⟩
        · cases u1
      · exact hs.H.ok _ _ hj
    · obtain ⟨b0, h0⟩ := hany j bj hj
      exact hs.H.own j b0 g h0 hg
    · obtain ⟨b0, h0⟩ := hany j bj hj
      obtain ⟨b1, h1⟩ := hany k bk hk'
      exact hs.H.inj j k b0 b1 g h0 h1 hgj hgk
  exact hK _ _ (hr cap hnc hcm c _ w ⟨ρ, O, put_sat hs2 (v := goInt cap) (x := i64 (cap : Int)) (.d _ _ (.one _ rfl)) (by simp [put, hd])⟩)

/-- A part of a row of known capacity. -/
theorem VOp.cutC (hT : TOK P ts) {lo hi : Option Operand} {o : Option Tmp} {σ : St} {id : Id} {e sz L C : Nat} {xs : List (List D)} (hx : ev σ x = some (.own id)) (hid : hk σ id = some (.rowc e sz xs L C))
    {e' s b' : Nat} {z : List AV} (ht : lk ts t = some ⟨.slice e', s, b', z⟩) {ie : TI} (he : lk ts e' = some ie) (hsz : Nat.beq ie.size sz = true) {i j : Nat} (hlo : bnd σ lo 0 = some (i : Int)) (hhi : bnd σ hi (L : Nat) = some (j : Int)) (h1 : i ≤ j) (h2 : j ≤ L) :
    VOp P σ ⟨o, .slice t x lo hi none, ty, pos, aft, g⟩ (.sub id sz i (j - i) true) := by
  refine VOp.mk fun c ac w ρ O hs => ?_
  have hsz := Nat.eq_of_beq_eq_true hsz
  have e1 := ev_sound hs hx
  have hsize := (hT.facts he).sizeOf (P := P)
  obtain ⟨gb, cur, k1, k2, k3, k4, k5, k6, k7, k8⟩ := hs.H.ok id _ hid
  have hv : ac.eval x = .slice (some ⟨gb, 0, none⟩) L C := by
    generalize ac.eval x = q at e1
    cases e1 with
    | own _ _ h1 _ => rw [k1] at h1; injection h1 with h1; exact h1.symm
  have run : ∀ w, (Instr.sliceBounds true L C (lo.map ac.eval) (hi.map ac.eval) none).run P w = .ok (i, j, C) w := by
    intro w
    rcases bnd_sound hs hlo with ⟨rfl, h0⟩ | ⟨k1, hk1⟩ <;> rcases bnd_sound hs hhi with ⟨rfl, h3⟩ | ⟨k2, hk2⟩
    · have : i = 0 := by omega
      have : j = L := by omega
      simp [Instr.sliceBounds, *]
    · have a0 : i = 0 := by omega
      have hjc : j ≤ C := by omega
      have : (0 : Int) ≤ j ∧ (j : Int) ≤ (C : Int) := ⟨by omega, by omega⟩
      simp [Instr.sliceBounds, hk2, Instr.sliceBound, asIntOf, hjc, a0]
    · have a0 : j = L := by omega
      have : (0 : Int) ≤ i ∧ (i : Int) ≤ (L : Int) := ⟨by omega, by omega⟩
      have hil : i ≤ L := by omega
      simp [Instr.sliceBounds, hk1, Instr.sliceBound, asIntOf, hil, a0]
    · have a1 : (0 : Int) ≤ j ∧ (j : Int) ≤ (C : Int) := ⟨by omega, by omega⟩
      have a2 : (0 : Int) ≤ i ∧ (i : Int) ≤ ((Int.toNat (j : Int) : Nat) : Int) := ⟨by omega, by omega⟩
      simp only [Instr.sliceBounds, hk1, hk2, Instr.sliceBound, asIntOf, a1, a2, Option.map_none, Sem.run_bind, Sem.run_pure, Result.andThen_ok, and_self, if_true, Sem.run_ite]
      rfl
  refine ⟨.slice (some ⟨gb, if C = i then 0 else i * sz, none⟩) (j - i) (C - i), fun w' _ => ?_, ?_⟩
  · have hq : Value.slice (some ⟨gb, if C = i then 0 else i * sz, none⟩) (j - i) (C - i) = .slice (if C = i then some ⟨gb, 0, none⟩ else (some (⟨gb, 0, none⟩ : Addr)).map (·.add (i * ie.size))) (j - i) (C - i) := by
      by_cases hci : C = i
      · simp [hci]
      · simp [hci, add_ptr, hsz]
    rw [hq]
    simp only [execOp, hv, Instr.sliceAt, Sem.run_bind, run_underlying (und_slice hT ht), Result.andThen_ok, Instr.slice, Option.map_none, run, hsize, Sem.run_pure]
  · refine .sub _ _ _ _ _ gb L C (C - i) _ k1 (by omega) (by omega) (by omega) ⟨fun _ => by omega, fun h => by cases h⟩ (fun hne => ?_)
    have h5 : C ≠ i := by omega
    rw [if_neg h5]

/-- x[:j], j past its length, within its capacity. -/
theorem AL.ext (hT : TOK P ts) (hw : wantedA l ⟨some d, .slice t x none (some hi) none, ty, pos, aft, g⟩ ⟨n, T, H, Hp, clk⟩ = some true) (hd : Nat.blt d n = true) {i e sz L C : Nat} {xs : List (List D)} (hx : ev ⟨n, T, H, Hp, clk⟩ x = some (.own (.loc i))) (hid : hk ⟨n, T, H, Hp, clk⟩ (.loc i) = some (.rowc e sz xs L C))
    {e' s b' : Nat} {z : List AV} (ht : lk ts t = some ⟨.slice e', s, b', z⟩) {ie : TI} (he : lk ts e' = some ie) {j : Nat} (hhi : bnd ⟨n, T, H, Hp, clk⟩ (some hi) 0 = some (j : Int)) (h1 : L ≤ j) (h2 : j ≤ C)
    (h : AL P l Q rest ⟨n, (d, .own (.loc clk)) :: T, (clk, some (.rowc e sz xs j C)) :: (i, none) :: H, Hp, clk + 1⟩) :
    AL P l Q (⟨some d, .slice t x none (some hi) none, ty, pos, aft, g⟩ :: rest) ⟨n, T, H, Hp, clk⟩ := by
  refine AL.step (σ' := ⟨n, (d, .own (.loc clk)) :: T, (clk, some (.rowc e sz xs j C)) :: (i, none) :: H, Hp, clk + 1⟩) hw ?_ h
  rintro c a w ⟨ρ, O, hs⟩ K Q hK
  have e1 := ev_sound hs hx
  have hsize := (hT.facts he).sizeOf (P := P)
  obtain ⟨gb, cur, k1, k2, k3, k4, k5, k6, k7, k8⟩ := hs.H.ok (.loc i) _ hid
  have hv : a.eval x = .slice (some ⟨gb, 0, none⟩) L C := by
    generalize a.eval x = q at e1
    cases e1 with
    | own _ _ h1 _ => rw [k1] at h1; injection h1 with h1; exact h1.symm
  have run : ∀ w, (Instr.sliceBounds true L C none (some (a.eval hi)) none).run P w = .ok (0, j, C) w := by
    intro w
    rcases bnd_sound hs hhi with ⟨h, _⟩ | ⟨k2, hk2⟩
    · cases h
    simp only [Option.map_some, Option.some.injEq] at hk2
    have : (0 : Int) ≤ j ∧ (j : Int) ≤ (C : Int) := ⟨by omega, by omega⟩
    simp [Instr.sliceBounds, hk2, Instr.sliceBound, asIntOf, h2]
  have hex : (execOp a.eval ⟨some d, .slice t x none (some hi) none, ty, pos, aft, g⟩).run P w = .ok (.value (.slice (some ⟨gb, 0, none⟩) j C)) w := by
    have hq : Value.slice (some ⟨gb, 0, none⟩) j C = .slice (if C = 0 then some ⟨gb, 0, none⟩ else (some (⟨gb, 0, none⟩ : Addr)).map (·.add (0 * ie.size))) (j - 0) (C - 0) := by
      by_cases hci : C = 0
      · simp [hci]
      · simp [hci, add_ptr]
    rw [hq]
    simp only [execOp, hv, Instr.sliceAt, Sem.run_bind, run_underlying (und_slice hT ht), Result.andThen_ok, Instr.slice, Option.map_none, Option.map_some, run, hsize, Sem.run_pure]
  have hO : ∀ k, (O k ∨ (k = w.heap.size ∧ k < w.heap.size)) ↔ O k := fun k => ⟨fun h => h.elim id (fun h => by omega), .inl⟩
  have hsat := rerow_sat hs hid k1 (v1 := .slice (some ⟨gb, 0, none⟩) j C) (w1 := w) (b := .rowc e sz xs j C) (fun g hg => .inl hg) (Nat.le_refl _) (fun _ _ _ => rfl) rfl rfl rfl
    ⟨gb, cur, upd_self _ _ _, k2, k3, by omega, h2, k6, k7, fun j k x d hx hd => by
      obtain ⟨u, u1, u2⟩ := k8 j k x d hx hd
      exact ⟨u, u1, u2.keep ⟨Nat.le_refl _, fun _ _ _ => rfl, fun k hk => .inl ((hO k).1 hk)⟩⟩⟩
  unfold Oper.wp
  rw [hex]
  exact hK _ _ ⟨_, _, put_sat hsat (v := .slice (some ⟨gb, 0, none⟩) j C) (x := .own (.loc clk)) (.own _ _ (upd_self _ _ _) rfl) (by simp [put, hd])⟩
end
end Go.AM

/- A machine over pure data: part 44: slices.overlaps; the shift of a lengthened row; append of a make onto a row that has no room. -/
set_option linter.unusedVariables false
set_option linter.unusedSimpArgs false
namespace Go.AM
open Go Go.RowKit

section
variable {P : Program} {l rest : List Oper} {Q : Exit → St → Prop} {n d clk : Nat} {T : List (Nat × AV)} {H : List (Nat × Option Blk)} {Hp : List Blk} {x y lo hi : Operand} {t t2 ty : TypeId} {tys : Array TypeId} {pos : String} {aft : Array Edge} {g : Option (Nat × Bool)} {ts : List (Nat × TI)}

/-- slices.overlaps(x, y), x a row of the call's own, y a part of another one. -/
theorem VOp.overlaps (hT : TOK P ts) {o : Option Tmp} {σ : St} {cc : Operand} {f : FuncId} {fn : Func} {tS tR : TypeId} {i j : Nat} {e1 e2 sz1 sz2 lo2 m2 L2 C2 : Nat} {xs ys : List (List D)} {full : Bool} (hc : ev σ cc = some (.fn f [])) (hf : P.funcs[f]? = some fn) (h1 : (fn.name == "runtime.NumGoroutine") = false) (h2 : fn.body.isNone = true)
    (h3 : Extern.findNext fn = none) (h4 : Extern.find fn = some (Extern.SlicesOverlaps.overlaps #[tS, tS] #[tR])) (hx : ev σ x = some (.own (.loc i))) (hxi : hk σ (.loc i) = some (.row e1 sz1 xs)) (hy : ev σ y = some (.sub (.loc j) sz2 lo2 m2 full)) (hyj : hk σ (.loc j) = some (.rowc e2 sz2 ys L2 C2)) (hij : Nat.beq i j = false)
    {e' s b' : Nat} {z : List AV} (ht : lk ts tS = some ⟨.slice e', s, b', z⟩) {ie : TI} (he : lk ts e' = some ie) (hL : 0 < L2) (hs2 : 0 < sz2) (hne : xs ≠ []) :
    VOp P σ ⟨o, .call ⟨.value cc, #[x, y], tys⟩, ty, pos, aft, g⟩ (bo false) := by
  refine VOp.mk fun ctx ac w ρ O hs => ⟨.bool false, fun w' hb => ?_, .d _ _ (.one _ rfl)⟩
  have hij : i ≠ j := fun h => by subst h; simp at hij
  have ev1 := ev_sound hs hx
  have ev2 := ev_sound hs hy
  have ev3 := ev_sound hs hc
  have hsize := (hT.facts he).sizeOf (P := P)
  have hu := und_slice hT ht
  obtain ⟨gb, cur, k1, k2, k3, k4, k5, k6, k7, k8⟩ := hs.H.ok (.loc j) _ hyj
  obtain ⟨v, vs, hv, hown, hxl, hxc⟩ := hs.H.ok (.loc i) _ hxi
  have hyv : ∃ off c2, ac.eval y = .slice (some ⟨gb, off, none⟩) m2 c2 := by
    generalize ac.eval y = q at ev2
    cases ev2 with
    | sub _ _ _ _ _ g' L' C' c' off h5 h6 => rw [k1] at h5; cases h5; exact ⟨off, c', rfl⟩
    | subN _ _ _ h5 => rw [k1] at h5; cases h5
  obtain ⟨off, c2, hyv⟩ := hyv
  have hax : ac.eval x = v := by
    generalize ac.eval x = q at ev1
    cases ev1 with
    | own _ _ h1 _ => rw [hv] at h1; injection h1 with h1; exact h1.symm
  have hblk : ∀ k, k < w.heap.size → w'.heap[k]? = w.heap[k]? := fun k hk => hb.block k hk
  have hgb : gb < w.heap.size := (Array.getElem?_eq_some_iff.1 k2).1
  have k2' : w'.heap[gb]? = some (.cells cur e2 (0, 0)) := (hblk gb hgb).trans k2
  have hrun : (Extern.SlicesOverlaps.overlaps #[tS, tS] #[tR] #[v, .slice (some ⟨gb, off, none⟩) m2 c2]).run P w' = .ok (.bool false) w' := by
    rcases hown.2 with ⟨rfl, h0⟩ | ⟨ga, cap, cura, rfl, _, hh, hnc, hcm, hcs, htk⟩
    · exact absurd (List.eq_nil_of_length_eq_zero (by omega)) hne
    · have hne : ga ≠ gb := fun e => by
        subst e
        have := hs.H.inj (.loc i) (.loc j) _ _ ga hxi hyj (by rw [hv]; rfl) (by rw [k1]; rfl)
        injection this with this
        exact hij this
      have hga : ga < w.heap.size := (Array.getElem?_eq_some_iff.1 hh).1
      have hh' : w'.heap[ga]? = some (.cells cura e1 (0, 0)) := (hblk ga hga).trans hh
      refine Lib.run_overlaps_apart (P := P) w' tS tR e' hu ie.size (fun w => hsize w) ⟨ga, 0, none⟩ ⟨gb, off, none⟩ xs.length cap m2 c2 hne e1 e2 cura.size cur.size ?_ ?_ ?_ ?_ ?_
      · simp [World.shape?, hh']
      · simp [World.shape?, k2']
      · have : 1 * 1 ≤ C2 * sz2 := Nat.mul_le_mul (by omega) (by omega)
        omega
      · simp [World.frozen?, hh']
      · simp [World.frozen?, hh']
  generalize hq : ac.eval cc = q at ev3
  cases ev3 with
  | fn _ _ cvs hl hcv =>
    have : cvs = #[] := Array.eq_empty_of_size_eq_zero (by simpa using hl.symm)
    subst this
    have hr2 := run_callFunc_extern hf h1 h2 h3 h4 #[v, .slice (some ⟨gb, off, none⟩) m2 c2] w'
    rw [hrun] at hr2
    simp only [Result.andThen] at hr2
    simp [execOp, resolve, hq, hax, hyv, Deferred.ofValue, invoke, hr2]

/-- copy(x[i+q:], x[i:]), x a row that was lengthened by q: what stands from i on is moved. -/
theorem AL.copyX (hT : TOK P ts) (hw : wantedA l ⟨some d, .call ⟨.builtin .copy, #[x, y], #[t, t2]⟩, ty, pos, aft, g⟩ ⟨n, T, H, Hp, clk⟩ = some true) (hd : Nat.blt d n = true) {id e sz L C i q : Nat} {xs : List (List D)} {f1 f2 : Bool} {lo1 m1 m2 : Nat}
    (hx : ev ⟨n, T, H, Hp, clk⟩ x = some (.sub (.loc id) sz lo1 m1 f1)) (hy : ev ⟨n, T, H, Hp, clk⟩ y = some (.sub (.loc id) sz i m2 f2)) (hid : hk ⟨n, T, H, Hp, clk⟩ (.loc id) = some (.rowc e sz xs L C)) (hlo : lo1 = i + q) (hm1 : m1 = L - lo1) (hm2 : m2 = L - i) (hL : L = xs.length + q) (hq : 0 < q) (hfit : i + q ≤ xs.length)
    {e' s b : Nat} {z : List AV} (ht : lk ts t = some ⟨.slice e', s, b, z⟩) {ie : TI} (he : lk ts e' = some ie) (hsz : Nat.beq ie.size sz = true)
    (h : AL P l Q rest ⟨n, (d, i64 (m1 : Nat)) :: T, (id, some (.row e sz (xs.take (i + q) ++ xs.drop i))) :: H, Hp, clk⟩) :
    AL P l Q (⟨some d, .call ⟨.builtin .copy, #[x, y], #[t, t2]⟩, ty, pos, aft, g⟩ :: rest) ⟨n, T, H, Hp, clk⟩ := by
  refine AL.step (σ' := ⟨n, (d, i64 (m1 : Nat)) :: T, (id, some (.row e sz (xs.take (i + q) ++ xs.drop i))) :: H, Hp, clk⟩) hw ?_ h
  rintro c a w ⟨ρ, O, hs⟩ K Q' hK
  have hsz := Nat.eq_of_beq_eq_true hsz
  have ev1 := ev_sound hs hx
  have ev2 := ev_sound hs hy
  have hsize := (hT.facts he).sizeOf (P := P)
  have hu := und_slice hT ht
  obtain ⟨gb, cur, k1, k2, k3, k4, k5, k6, k7, k8⟩ := hs.H.ok (.loc id) _ hid
  have hxv : ∃ c1, a.eval x = .slice (some ⟨gb, (i + q) * sz, none⟩) m1 c1 := by
    rw [← hlo]
    generalize a.eval x = v at ev1
    cases ev1 with
    | sub _ _ _ _ _ g' L' C' c' off h5 h6 h7 h8 h9 h10 => rw [k1] at h5; cases h5; exact ⟨c', by rw [h10 (by omega)]⟩
    | subN _ _ _ h5 => rw [k1] at h5; cases h5
  have hyv : ∃ c2, a.eval y = .slice (some ⟨gb, i * sz, none⟩) m2 c2 := by
    generalize a.eval y = v at ev2
    cases ev2 with
    | sub _ _ _ _ _ g' L' C' c' off h5 h6 h7 h8 h9 h10 => rw [k1] at h5; cases h5; exact ⟨c', by rw [h10 (by omega)]⟩
    | subN _ _ _ h5 => rw [k1] at h5; cases h5
  obtain ⟨c1, hxv⟩ := hxv
  obtain ⟨c2, hyv⟩ := hyv
  have hmin : Nat.min m2 m1 = m1 := Nat.min_eq_right (by omega)
  have hm1x : m1 = xs.length - i := by omega
  -- the cells that are moved
  have hcsz : (i + m1) * sz ≤ cur.size := by rw [k3]; exact Nat.mul_le_mul_right _ (by omega)
  have hcsz2 : (i + q + m1) * sz ≤ cur.size := by rw [k3]; exact Nat.mul_le_mul_right _ (by omega)
  rw [Nat.add_mul] at hcsz hcsz2
  generalize hnw : (cur.toList.drop (i * sz)).take (m1 * sz) = news
  have hcl : cur.toList.length = cur.size := by simp
  have hnl : news.length = m1 * sz := by rw [← hnw, List.length_take, List.length_drop, hcl]; omega
  have hget : ∀ p, p < m1 * sz → news[p]? = cur[i * sz + p]? := fun p hp => by
    rw [← hnw, List.getElem?_take, if_pos hp, List.getElem?_drop, Array.getElem?_toList]
  have hcell : ∀ (p : Nat) u, news[p]? = some u → w.cell? (Addr.add ⟨gb, i * sz, none⟩ p) = some u := fun p u hu' => by
    have hp : p < m1 * sz := by rw [← hnl]; exact (List.getElem?_eq_some_iff.1 hu').1
    rw [hget p hp] at hu'
    rw [add_ptr]
    simp [World.cell?, k2, hu']
  have hread : ∀ (j k : Nat) x d, xs[j]? = some x → x[k]? = some d → k < sz := fun j k x d hx hd => by
    have := (List.getElem?_eq_some_iff.1 hd).1
    rw [k7 x (List.mem_of_getElem? hx)] at this
    exact this
  have hone : ∀ u ∈ news, u.oneCell' = true := fun u hu' => by
    obtain ⟨p, hp⟩ := List.getElem?_of_mem hu'
    have hpl : p < m1 * sz := by rw [← hnl]; exact (List.getElem?_eq_some_iff.1 hp).1
    rw [hget p hpl] at hp
    have hs0 : 0 < sz := by
      rcases Nat.eq_zero_or_pos sz with h0 | h0
      · rw [h0] at hpl; omega
      · exact h0
    have h1 : p / sz < m1 := (Nat.div_lt_iff_lt_mul hs0).2 hpl
    have hj : i + p / sz < xs.length := by omega
    have hxl : (xs[i + p / sz]'hj).length = sz := k7 _ (List.getElem_mem _)
    have hk : p % sz < (xs[i + p / sz]'hj).length := by rw [hxl]; exact Nat.mod_lt _ hs0
    obtain ⟨u', u1, u2⟩ := k8 (i + p / sz) (p % sz) _ _ (List.getElem?_eq_getElem hj) (List.getElem?_eq_getElem hk)
    have e : (i + p / sz) * sz + p % sz = i * sz + p := by
      have h5 := Nat.div_add_mod p sz
      rw [Nat.mul_comm] at h5
      rw [Nat.add_mul]
      omega
    rw [e, hp] at u1
    injection u1 with u1
    subst u1
    exact u2.oneCell
  have hload : (loadCells ⟨gb, i * sz, none⟩ (m1 * sz)).run P w = .ok news.toArray w := by
    have := run_loadCells_list (P := P) w ⟨gb, i * sz, none⟩ news hcell
    rw [hnl] at this
    exact this
  obtain ⟨cur', e1, e2, e3⟩ := run_storeSeg (P := P) gb ((i + q) * sz) e news 0 cur w k2 (by rw [hnl]; omega) hone
  have hrun : (Builtin.copy_ #[t, t2] ty #[.slice (some ⟨gb, (i + q) * sz, none⟩) m1 c1, .slice (some ⟨gb, i * sz, none⟩) m2 c2]).run P w = .ok (goInt m1) (w.setRow gb cur') := by
    simp [Builtin.copy_, run_underlying hu, Builtin.lenOf, Builtin.firstCells, hsize, hsz, hmin, hload, e1]
  unfold Oper.wp
  have hex : (execOp a.eval ⟨some d, .call ⟨.builtin .copy, #[x, y], #[t, t2]⟩, ty, pos, aft, g⟩).run P w = .ok (.value (.int .i64 (m1 : Int))) (w.setRow gb cur') := by
    simp [execOp, resolve, invoke, builtin, hxv, hyv, hrun, goInt]
  rw [hex]
  have hOgb := hs.H.own (.loc id) _ gb hid (by rw [k1]; rfl)
  have hk0 : Keeps O w O (w.setRow gb cur') := ⟨by simp, fun k _ hO' => setRow_other w gb k cur' (fun e => hO' (e ▸ hOgb.1)), fun k hk => .inl hk⟩
  have hset : aset ⟨n, T, H, Hp, clk⟩ (.loc id) (.row e sz (xs.take (i + q) ++ xs.drop i)) = some ⟨n, T, (id, some (.row e sz (xs.take (i + q) ++ xs.drop i))) :: H, Hp, clk⟩ := rfl
  have hlenx : (xs.take (i + q) ++ xs.drop i).length = L := by simp; omega
  have hLC : L * sz ≤ C * sz := Nat.mul_le_mul_right _ k5
  have hcl' : cur'.toList.length = cur'.size := by simp
  have hsat : SatAt c ⟨n, T, (id, some (.row e sz (xs.take (i + q) ++ xs.drop i))) :: H, Hp, clk⟩ a (w.setRow gb cur') ρ O := by
    refine chg_sat hs hid hset (g := gb) (by rw [k1]; rfl) (fun k hk => setRow_other w gb k cur' hk) (by simp) rfl rfl rfl ?_
    refine ⟨_, cur'.toList.take (L * sz), k1, ⟨?_, .inr ⟨gb, C, cur', by rw [hlenx], Nat.zero_le _, ?_, by rw [hlenx]; exact k5, k6, by rw [e2]; exact k3, by rw [hlenx]⟩⟩, fun y hy => ?_, fun j k y d' hy hd' => ?_⟩
    · rw [hlenx, List.length_take, hcl', e2, k3]; omega
    · have hlt : gb < w.heap.size := (Array.getElem?_eq_some_iff.1 k2).1
      exact setRow_heap w gb cur cur' e (0, 0) k2
    · rcases List.mem_append.1 hy with hy | hy
      · exact k7 y (List.mem_of_mem_take hy)
      · exact k7 y (List.mem_of_mem_drop hy)
    · have hjL : j < L := by rw [← hlenx]; exact (List.getElem?_eq_some_iff.1 hy).1
      have hk : k < sz := by
        have h5 := (List.getElem?_eq_some_iff.1 hd').1
        have h6 : y.length = sz := by
          rcases List.mem_append.1 (List.mem_of_getElem? hy) with hy | hy
          · exact k7 y (List.mem_of_mem_take hy)
          · exact k7 y (List.mem_of_mem_drop hy)
        omega
      have hjk : j * sz + k < L * sz := by
        have : (j + 1) * sz ≤ L * sz := Nat.mul_le_mul_right _ (by omega)
        rw [Nat.succ_mul] at this
        omega
      have htake : (cur'.toList.take (L * sz))[j * sz + k]? = cur'[j * sz + k]? := by rw [List.getElem?_take, if_pos hjk, Array.getElem?_toList]
      rw [htake, e3]
      by_cases hjq : j < i + q
      · have h5 : xs[j]? = some y := by
          rw [List.getElem?_append_left (by simp; omega), List.getElem?_take, if_pos hjq] at hy
          exact hy
        have h6 : (j + 1) * sz ≤ (i + q) * sz := Nat.mul_le_mul_right _ (by omega)
        rw [Nat.succ_mul] at h6
        rw [if_neg (by omega)]
        obtain ⟨u, u1, u2⟩ := k8 j k y d' h5 hd'
        exact ⟨u, u1, u2.keep hk0⟩
      · have h5 : xs[j - q]? = some y := by
          rw [List.getElem?_append_right (by simp; omega), List.getElem?_drop] at hy
          rw [← hy]; congr 1; simp; omega
        obtain ⟨u, u1, u2⟩ := k8 (j - q) k y d' h5 hd'
        have g1 : (i + q) * sz ≤ j * sz := Nat.mul_le_mul_right _ (by omega)
        have g2 : (j - (i + q)) * sz = j * sz - (i + q) * sz := Nat.sub_mul ..
        have g3 : (j - (i + q) + 1) * sz ≤ m1 * sz := Nat.mul_le_mul_right _ (by omega)
        rw [Nat.succ_mul] at g3
        have g4 : (j - q) * sz = j * sz - q * sz := Nat.sub_mul ..
        have g5 : (i + q) * sz = i * sz + q * sz := Nat.add_mul ..
        rw [if_pos ⟨by omega, by rw [hnl]; omega⟩]
        refine ⟨u, ?_, u2.keep hk0⟩
        rw [hget _ (by omega)]
        rw [show i * sz + (j * sz + k - ((i + q) * sz + 0)) = (j - q) * sz + k by omega]
        exact u1
  exact hK _ _ ⟨ρ, O, put_sat hsat (v := .int .i64 (m1 : Int)) (x := i64 (m1 : Nat)) (.d _ _ (.one _ rfl)) (by simp [put, hd])⟩
end
end Go.AM

/- A machine over pure data: part 45: append of a make onto a part from the front of a row without room. -/
set_option linter.unusedVariables false
set_option linter.unusedSimpArgs false
namespace Go.AM
open Go Go.RowKit

section
variable {P : Program} {l rest : List Oper} {Q : Exit → St → Prop} {n d clk : Nat} {T : List (Nat × AV)} {H : List (Nat × Option Blk)} {Hp : List Blk} {x y lo hi : Operand} {t t2 ty : TypeId} {tys : Array TypeId} {pos : String} {aft : Array Edge} {g : Option (Nat × Bool)} {ts : List (Nat × TI)}

/-- append(x[:j], make(S, k)...), x a row of the call's own that has no room for j + k: a new row. -/
theorem AL.appMake (hT : TOK P ts) (hw : wantedA l ⟨some d, .call ⟨.builtin .append, #[x, y], #[t, t2]⟩, ty, pos, aft, g⟩ ⟨n, T, H, Hp, clk⟩ = some true) (hd : Nat.blt d n = true) {id e sz L C j k : Nat} {xs : List (List D)} {kq : IntKind} {kv : Int}
    (hx : ev ⟨n, T, H, Hp, clk⟩ x = some (.sub (.loc id) sz 0 j true)) (hid : hk ⟨n, T, H, Hp, clk⟩ (.loc id) = some (.rowc e sz xs L C)) (hy : ev ⟨n, T, H, Hp, clk⟩ y = some (.d (.one (.int kq kv))))
    {s b s2 b2 : Nat} {z z2 : List AV} {kn : IntKind} (ht : lk ts t = some ⟨.slice e, s, b, z⟩) (ht2 : lk ts t2 = some ⟨.int kn, s2, b2, z2⟩) {ie : TI} (he : lk ts e = some ie) {ds : List D} (hz : toDs ie.zero some = some ds) (hzl : Nat.beq ds.length ie.size = true) (hsz : Nat.beq ie.size sz = true) (hs0 : Nat.blt 0 sz = true)
    (hkv : kv = (k : Int)) (hj : j ≤ xs.length) (hC0 : 0 < C) (hC : C < j + k) (hk0 : 0 < k) (hb : (j + k) * ie.bytes ≤ 140737488355328) (h63 : j + k ≤ 9223372036854775807)
    (h : AL P l Q rest ⟨n, (d, .own (.loc clk)) :: T, (clk, some (.row e sz (xs.take j ++ List.replicate k ds))) :: H, Hp, clk + 1⟩) : AL P l Q (⟨some d, .call ⟨.builtin .append, #[x, y], #[t, t2]⟩, ty, pos, aft, g⟩ :: rest) ⟨n, T, H, Hp, clk⟩ := by
  refine AL.step (σ' := ⟨n, (d, .own (.loc clk)) :: T, (clk, some (.row e sz (xs.take j ++ List.replicate k ds))) :: H, Hp, clk + 1⟩) hw ?_ h
  rintro c ac w ⟨ρ, O, hs⟩ K Q hK
  have e1 := ev_sound hs hx
  have e2 := one_of (ev_sound hs hy)
  have hsz := Nat.eq_of_beq_eq_true hsz
  have hs0 : 0 < sz := by simpa using hs0
  subst hkv
  obtain ⟨du, hu1, hu2⟩ := (hT.facts ht2).und
  have hu3 : du = .int kn := by
    cases du <;> simp [tkOf] at hu2
    rw [hu2]
  subst hu3
  obtain ⟨ti, zv, i1, i2, i3, i4, i5⟩ := (hT.facts he).info
  obtain ⟨z1, z2⟩ := zall_sound i5
  obtain ⟨ds', d1, d2, d3, d4⟩ := toDs_spec hz
  cases d1
  have hzl := Nat.eq_of_beq_eq_true hzl
  have hzs : zv.cells.size = sz := by rw [← hsz, ← hzl, d2, ← z1]; simp
  obtain ⟨gb, cur, k1, k2, k3, k4, k5, k6, k7, k8⟩ := hs.H.ok (.loc id) _ hid
  have hxv : ac.eval x = .slice (some ⟨gb, 0, none⟩) j C := by
    generalize ac.eval x = v at e1
    cases e1 with
    | sub _ _ _ _ _ g' L' C' c' off h5 h6 h7 h8 h9 h10 =>
      rw [k1] at h5; cases h5
      have h9 := h9.1 rfl
      rw [Nat.zero_add] at h9
      subst h9
      rw [h10 (by omega), Nat.zero_mul]
    | subN _ _ _ h5 => rw [k1] at h5; cases h5
  have hjs : j * sz ≤ cur.size := by rw [k3]; exact Nat.mul_le_mul_right _ (by omega)
  have hold : (Builtin.firstCells ti.size j (.slice (some ⟨gb, 0, none⟩) j C)).run P w.drew = .ok (cur.toList.take (j * sz)).toArray w.drew := by
    rw [i2, hsz]
    refine run_firstCells_some w.drew sz j ⟨gb, 0, none⟩ j C (cur.toList.take (j * sz)) (by rw [List.length_take, Array.length_toList]; omega) (fun p v hp => ?_)
    rw [List.getElem?_take] at hp
    split at hp
    · rw [add_ptr]
      rw [Array.getElem?_toList] at hp
      have k2' : w.drew.heap[gb]? = some (.cells cur e (0, 0)) := k2
      simp [World.cell?, k2', hp]
    · cases hp
  have hkb : k * ie.bytes ≤ (j + k) * ie.bytes := Nat.mul_le_mul_right _ (by omega)
  have hrun := Lib.run_append_grow_zeros w t t2 ty e ti zv kq kn (und_slice hT ht) hu1 i1 i4 (some ⟨gb, 0, none⟩) j C (cur.toList.take (j * sz)) hold k hk0 (by omega) hC (by omega) (by rw [i3]; omega) (by rw [i3]; exact growslice_fits hC hb)
  have hG1 := grownCap_ge w (j + k) C e
  have hG2 := grownCap_le_maxLen w (j + k) C e (by unfold maxLen; omega)
  generalize grownCap w (j + k) C e = G at hrun hG1 hG2
  generalize hus : ((cur.toList.take (j * sz)).toArray ++ Builtin.zeroCells zv.cells k ++ Builtin.zeroCells zv.cells (G - (j + k))) = us at hrun
  have hl1 : (cur.toList.take (j * sz)).length = j * sz := by rw [List.length_take, Array.length_toList]; omega
  have hGk : j * sz + k * sz + (G - (j + k)) * sz = G * sz := by rw [← Nat.add_mul, ← Nat.add_mul]; congr 1; omega
  have husz : us.size = G * sz := by
    rw [← hus]
    simp only [Array.size_append, List.size_toArray, hl1, size_zeroCells, hzs]
    exact hGk
  have hjk : (j + k) * sz ≤ G * sz := Nat.mul_le_mul_right _ hG1
  have hcellA : ∀ p, p < j * sz → us[p]? = cur[p]? := fun p hp => by
    rw [← hus, Array.getElem?_append_left (by simp only [Array.size_append, List.size_toArray, hl1]; omega), Array.getElem?_append_left (by rw [List.size_toArray, hl1]; exact hp)]
    rw [List.getElem?_toArray, List.getElem?_take, if_pos hp, Array.getElem?_toList]
  have hcellB : ∀ i p, i < k → p < sz → us[(j + i) * sz + p]? = zv.cells[p]? := fun i p hi hp => by
    have h1 : (i + 1) * sz ≤ k * sz := Nat.mul_le_mul_right _ (by omega)
    rw [Nat.succ_mul] at h1
    have h2 : (j + i) * sz = j * sz + i * sz := Nat.add_mul ..
    have h3 : (i * sz + p) % zv.cells.size = p := by rw [hzs, Nat.add_comm, Nat.add_mul_mod_self_right, Nat.mod_eq_of_lt hp]
    rw [← hus, Array.getElem?_append_left (by simp only [Array.size_append, List.size_toArray, hl1, size_zeroCells, hzs]; omega), Array.getElem?_append_right (by rw [List.size_toArray, hl1]; omega)]
    rw [List.size_toArray, hl1, show (j + i) * sz + p - j * sz = i * sz + p by omega]
    simp only [Builtin.zeroCells, Array.getElem?_map]
    rw [Array.getElem?_range, if_pos (by rw [hzs]; omega)]
    simp only [Option.map_some, h3]
    rw [getElem!_pos zv.cells p (by omega), Array.getElem?_eq_getElem (by omega)]
  have hk1 : Keeps O w (fun k => O k ∨ k = w.heap.size) (w.drew.alloc (.cells us e)) := ⟨by simp, fun k hk _ => Below.heap_alloc w.drew _ k hk, fun k hk => by
    rcases hk with hk | hk
    · exact .inl hk
    · exact .inr (by omega)⟩
  have hlr : (xs.take j ++ List.replicate k ds).length = j + k := by rw [List.length_append, List.length_take, List.length_replicate]; omega
  have hm := mk_sat hs (.row e sz (xs.take j ++ List.replicate k ds)) (.slice (some ⟨w.heap.size, 0, none⟩) (j + k) G) (.inl rfl) hk1 (by simp) (fun k hk => Below.heap_alloc w.drew _ k hk) rfl rfl rfl
    ⟨_, us.toList.take ((j + k) * sz), upd_self _ _ _, ⟨by rw [hlr, List.length_take, Array.length_toList, husz]; omega, .inr ⟨w.heap.size, G, us, by rw [hlr], Nat.zero_le _, heap_alloc_new w.drew _, by rw [hlr]; exact hG1, hG2, husz, by rw [hlr]⟩⟩,
      fun x hx => by
        rcases List.mem_append.1 hx with hx | hx
        · exact k7 x (List.mem_of_mem_take hx)
        · rw [(List.mem_replicate.1 hx).2, hzl, hsz],
      fun i p x d' hx hd' => by
        by_cases hi : i < j
        · rw [List.getElem?_append_left (by rw [List.length_take]; omega), List.getElem?_take, if_pos hi] at hx
          obtain ⟨u, u1, u2⟩ := k8 i p x d' hx hd'
          have hp : p < sz := by rw [← k7 x (List.mem_of_getElem? hx)]; exact (List.getElem?_eq_some_iff.1 hd').1
          have h1 : (i + 1) * sz ≤ j * sz := Nat.mul_le_mul_right _ (by omega)
          have h2 : (i + 1) * sz ≤ (j + k) * sz := Nat.mul_le_mul_right _ (by omega)
          rw [Nat.succ_mul] at h1 h2
          exact ⟨u, by rw [List.getElem?_take, if_pos (by omega), Array.getElem?_toList, hcellA _ (by omega)]; exact u1, u2.keep hk1⟩
        · rw [List.getElem?_append_right (by rw [List.length_take]; omega), List.getElem?_replicate] at hx
          rw [List.length_take, Nat.min_eq_left hj] at hx
          split at hx
          · rename_i hik
            cases hx
            have hp : p < ds.length := (List.getElem?_eq_some_iff.1 hd').1
            have hpz : p < zv.cells.size := by omega
            have h2 : (i + 1) * sz ≤ (j + k) * sz := Nat.mul_le_mul_right _ (by omega)
            rw [Nat.succ_mul] at h2
            refine ⟨zv.cells[p], by rw [List.getElem?_take, if_pos (by omega), Array.getElem?_toList, show i = j + (i - j) by omega, hcellB (i - j) p (by omega) (by omega), Array.getElem?_eq_getElem hpz], ?_⟩
            have hxk : ∃ x, ie.zero[p]? = some x := ⟨_, List.getElem?_eq_getElem (by omega)⟩
            obtain ⟨x, hxk⟩ := hxk
            exact d4 _ _ _ p x d' _ hxk hd' (z2 (fun _ => none) _ _ p x _ hxk (by rw [Array.getElem?_toList, Array.getElem?_eq_getElem hpz])).1
          · cases hx⟩
  unfold Oper.wp
  have hex : (execOp ac.eval ⟨some d, .call ⟨.builtin .append, #[x, y], #[t, t2]⟩, ty, pos, aft, g⟩).run P w = .ok (.value (.slice (some ⟨w.heap.size, 0, none⟩) (j + k) G)) (w.drew.alloc (.cells us e)) := by
    simp [execOp, resolve, invoke, builtin, hxv, e2, hrun]
  rw [hex]
  refine hK _ _ ⟨_, _, put_sat hm (x := .own (.loc clk)) (.own _ _ (upd_self _ _ _) rfl) ?_⟩
  simp [mk, put, hd]
end
end Go.AM

/- A machine over pure data: part 46: the rules of parts 43 to 45 with bounds that are whole numbers, under short names. -/
set_option linter.unusedVariables false
set_option linter.unusedSimpArgs false
namespace Go.AM
open Go Go.RowKit

section
variable {P : Program} {l rest : List Oper} {Q : Exit → St → Prop} {n d clk : Nat} {T : List (Nat × AV)} {H : List (Nat × Option Blk)} {Hp : List Blk} {x y lo hi : Operand} {t t2 ty : TypeId} {tys : Array TypeId} {pos : String} {aft : Array Edge} {g : Option (Nat × Bool)} {ts : List (Nat × TI)} {q : Nat}

theorem qv24 (hT : TOK P ts) {lo hi : Option Operand} {o : Option Tmp} {σ : St} {id : Id} {e sz L C : Nat} {xs : List (List D)} {e' s b' : Nat} {z : List AV} {ie : TI} {i j : Int} (hx : ev σ x = some (.own id) := by rfl) (hid : hk σ id = some (.rowc e sz xs L C) := by rfl)
    (ht : lk ts t = some ⟨.slice e', s, b', z⟩ := by rfl) (he : lk ts e' = some ie := by rfl) (hsz : Nat.beq ie.size sz = true := by rfl) (hlo : bnd σ lo 0 = some i := by rfl) (hhi : bnd σ hi (L : Nat) = some j := by rfl) (h0 : 0 ≤ i := by omega) (h1 : i ≤ j := by first | omega | (simp; omega)) (h2 : j ≤ (L : Int) := by first | omega | (simp; omega)) :
    VOp P σ ⟨o, .slice t x lo hi none, ty, pos, aft, g⟩ (.sub id sz i.toNat (j.toNat - i.toNat) true) := by
  obtain ⟨i, rfl⟩ := Int.eq_ofNat_of_zero_le h0
  obtain ⟨j, rfl⟩ := Int.eq_ofNat_of_zero_le (by omega : 0 ≤ j)
  exact VOp.cutC hT hx hid ht he hsz hlo hhi (by omega) (by omega)

theorem qv25 (hT : TOK P ts) {o : Option Tmp} {σ : St} {cc : Operand} {f : FuncId} {fn : Func} {tS tR : TypeId} {i j : Nat} {e1 e2 sz1 sz2 lo2 m2 L2 C2 : Nat} {xs ys : List (List D)} {full : Bool} {e' s b' : Nat} {z : List AV} {ie : TI} (hf : P.funcs[f]? = some fn) (h1 : (fn.name == "runtime.NumGoroutine") = false) (h2 : fn.body.isNone = true)
    (h3 : Extern.findNext fn = none) (h4 : Extern.find fn = some (Extern.SlicesOverlaps.overlaps #[tS, tS] #[tR]))
    (hc : ev σ cc = some (.fn f []) := by rfl) (hx : ev σ x = some (.own (.loc i)) := by rfl) (hxi : hk σ (.loc i) = some (.row e1 sz1 xs) := by rfl) (hy : ev σ y = some (.sub (.loc j) sz2 lo2 m2 full) := by rfl) (hyj : hk σ (.loc j) = some (.rowc e2 sz2 ys L2 C2) := by rfl) (hij : Nat.beq i j = false := by rfl)
    (ht : lk ts tS = some ⟨.slice e', s, b', z⟩ := by rfl) (he : lk ts e' = some ie := by rfl) (hs2 : 0 < sz2 := by decide) (hL : 0 < L2 := by omega) (hne : xs ≠ [] := by first | assumption | (simp; done)) :
    VOp P σ ⟨o, .call ⟨.value cc, #[x, y], tys⟩, ty, pos, aft, g⟩ (bo false) := .overlaps hT hc hf h1 h2 h3 h4 hx hxi hy hyj hij ht he hL hs2 hne

theorem AW.uncapL {code : Code} {i e sz L C : Nat} {xs : List (List D)} (hL : L = xs.length) (hi : hk ⟨n, T, H, Hp, clk⟩ (.loc i) = some (.rowc e sz xs L C)) (h : AW P code Q ⟨n, T, (i, some (.row e sz xs)) :: H, Hp, clk⟩) : AW P code Q ⟨n, T, H, Hp, clk⟩ := by
  subst hL
  exact AW.uncap hi h
theorem qv26 {o : Option Tmp} {σ : St} {k : IntKind} {a b : Int} (hx : ev σ x = some (.d (.one (.int k a))) := by rfl) (hy : ev σ y = some (.d (.one (.int k b))) := by rfl) (ha : 0 ≤ a := by omega) (hb : 0 < b := by omega) :
    VOp P σ ⟨o, .binOp .rem t x y t2, ty, pos, aft, g⟩ (.d (.one (.int k (a % b)))) := .remP hx hy ha hb
theorem qv27 {o : Option Tmp} {σ : St} {k : IntKind} {a b : Int} (hx : ev σ x = some (.d (.one (.int k a))) := by rfl) (hy : ev σ y = some (.d (.one (.int k b))) := by rfl) (ha : 0 ≤ a := by omega) (hb : 0 < b := by omega) (hk : kmin k ≤ 0 := by simp only [kmin]; omega) (hk2 : a ≤ kmax k := by simp only [kmax]; omega) :
    VOp P σ ⟨o, .binOp .quo t x y t2, ty, pos, aft, g⟩ (.d (.one (.int k (a / b)))) := .quo hx hy (by omega) (by
  rw [Int.tdiv_eq_ediv_of_nonneg ha]
  have h1 := Int.ediv_nonneg ha (by omega : 0 ≤ b)
  have h2 := Int.ediv_le_self b ha
  exact wrap_in (by omega) (by omega))

/-- cap of a row of the call's own. -/
theorem ca1 (hT : TOK P ts) {i e sz e' s b : Nat} {xs : List (List D)} {z : List AV} (hne : xs ≠ [])
    (hr : ∀ C : Nat, xs.length ≤ C → C ≤ 9223372036854775807 → AL P l Q rest ⟨n, (d, i64 C) :: T, (i, some (.rowc e sz xs xs.length C)) :: H, Hp, clk⟩)
    (hw : wantedA l ⟨some d, .call ⟨.builtin .cap, #[x], #[t]⟩, ty, pos, aft, g⟩ ⟨n, T, H, Hp, clk⟩ = some true := by rfl) (hd : Nat.blt d n = true := by rfl) (hx : ev ⟨n, T, H, Hp, clk⟩ x = some (.own (.loc i)) := by rfl) (hi : hk ⟨n, T, H, Hp, clk⟩ (.loc i) = some (.row e sz xs) := by rfl)
    (ht : lk ts t = some ⟨.slice e', s, b, z⟩ := by rfl) :
    AL P l Q (⟨some d, .call ⟨.builtin .cap, #[x], #[t]⟩, ty, pos, aft, g⟩ :: rest) ⟨n, T, H, Hp, clk⟩ := .cap hT hw hd hx hi hne ht hr

/-- x[:j], j past its length. -/
theorem ca2 (hT : TOK P ts) {i e sz L C e' s b' : Nat} {xs : List (List D)} {z : List AV} {ie : TI} {j : Int}
    (h : AL P l Q rest ⟨n, (d, .own (.loc clk)) :: T, (clk, some (.rowc e sz xs j.toNat C)) :: (i, none) :: H, Hp, clk + 1⟩)
    (hw : wantedA l ⟨some d, .slice t x none (some hi) none, ty, pos, aft, g⟩ ⟨n, T, H, Hp, clk⟩ = some true := by rfl) (hd : Nat.blt d n = true := by rfl) (hx : ev ⟨n, T, H, Hp, clk⟩ x = some (.own (.loc i)) := by rfl) (hid : hk ⟨n, T, H, Hp, clk⟩ (.loc i) = some (.rowc e sz xs L C) := by rfl)
    (ht : lk ts t = some ⟨.slice e', s, b', z⟩ := by rfl) (he : lk ts e' = some ie := by rfl) (hhi : bnd ⟨n, T, H, Hp, clk⟩ (some hi) 0 = some j := by rfl) (h1 : (L : Int) ≤ j := by omega) (h2 : j ≤ (C : Int) := by omega) :
    AL P l Q (⟨some d, .slice t x none (some hi) none, ty, pos, aft, g⟩ :: rest) ⟨n, T, H, Hp, clk⟩ := by
  obtain ⟨j, rfl⟩ := Int.eq_ofNat_of_zero_le (by omega : 0 ≤ j)
  exact AL.ext hT hw hd hx hid ht he hhi (by omega) (by omega) h

/-- append(x[:j], make(S, k)...) onto a row without room. -/
theorem ca3 (hT : TOK P ts) {id e sz L C lo0 j : Nat} {xs : List (List D)} {kq : IntKind} {kv : Int} {s b s2 b2 : Nat} {z z2 : List AV} {kn : IntKind} {ie : TI} {ds : List D}
    (h : AL P l Q rest ⟨n, (d, .own (.loc clk)) :: T, (clk, some (.row e sz (xs.take j ++ List.replicate kv.toNat ds))) :: H, Hp, clk + 1⟩)
    (hw : wantedA l ⟨some d, .call ⟨.builtin .append, #[x, y], #[t, t2]⟩, ty, pos, aft, g⟩ ⟨n, T, H, Hp, clk⟩ = some true := by rfl) (hd : Nat.blt d n = true := by rfl)
    (hx : ev ⟨n, T, H, Hp, clk⟩ x = some (.sub (.loc id) sz lo0 j true) := by rfl) (hid : hk ⟨n, T, H, Hp, clk⟩ (.loc id) = some (.rowc e sz xs L C) := by rfl) (hy : ev ⟨n, T, H, Hp, clk⟩ y = some (.d (.one (.int kq kv))) := by rfl)
    (ht : lk ts t = some ⟨.slice e, s, b, z⟩ := by rfl) (ht2 : lk ts t2 = some ⟨.int kn, s2, b2, z2⟩ := by rfl) (he : lk ts e = some ie := by rfl) (hz : toDs ie.zero some = some ds := by rfl) (hzl : Nat.beq ds.length ie.size = true := by rfl) (hsz : Nat.beq ie.size sz = true := by rfl) (hs0 : Nat.blt 0 sz = true := by rfl)
    (hlo : lo0 = 0 := by omega) (hj : j ≤ xs.length := by omega) (hC0 : 0 < C := by omega) (hC : (C : Int) < j + kv := by omega) (hk0 : 0 < kv := by omega) (hb : (j + kv.toNat) * ie.bytes ≤ 140737488355328 := by simp only; omega) (h63 : j + kv ≤ 9223372036854775807 := by omega) :
    AL P l Q (⟨some d, .call ⟨.builtin .append, #[x, y], #[t, t2]⟩, ty, pos, aft, g⟩ :: rest) ⟨n, T, H, Hp, clk⟩ := by
  subst hlo
  exact AL.appMake hT hw hd hx hid hy ht ht2 he hz hzl hsz hs0 (k := kv.toNat) (by omega) hj hC0 (by omega) (by omega) hb (by omega) h

/-- copy(x[i+q:], x[i:]), x lengthened by q. -/
theorem OSp.copyX (hT : TOK P ts) (hw : wantedA l ⟨some d, .call ⟨.builtin .copy, #[x, y], #[t, t2]⟩, ty, pos, aft, g⟩ ⟨n, T, H, Hp, clk⟩ = some true) (hd : Nat.blt d n = true) {id e sz L C i : Nat} {xs : List (List D)} {f1 f2 : Bool} {lo1 m1 m2 : Nat}
    (hx : ev ⟨n, T, H, Hp, clk⟩ x = some (.sub (.loc id) sz lo1 m1 f1)) (hy : ev ⟨n, T, H, Hp, clk⟩ y = some (.sub (.loc id) sz i m2 f2)) (hid : hk ⟨n, T, H, Hp, clk⟩ (.loc id) = some (.rowc e sz xs L C))
    {e' s b : Nat} {z : List AV} (ht : lk ts t = some ⟨.slice e', s, b, z⟩) {ie : TI} (he : lk ts e' = some ie) (hsz : Nat.beq ie.size sz = true)
    (hlo : lo1 + xs.length = i + L) (hm1 : m1 + lo1 = L) (hm2 : m2 + i = L) (hL : xs.length < L) (hfit : lo1 ≤ xs.length) :
    OSp P l q ⟨some d, .call ⟨.builtin .copy, #[x, y], #[t, t2]⟩, ty, pos, aft, g⟩ ⟨n, T, H, Hp, clk⟩ ⟨some (d, i64 (m1 : Nat)), [(id, some (.row e sz (xs.take lo1 ++ xs.drop i)))]⟩ := by
  rintro ⟨n', T', H', Hp', clk'⟩ hl hf
  obtain rfl : n = n' := hl.n
  have he1 : lo1 = i + (L - xs.length) := by omega
  rw [he1]
  exact AL.copyX hT (wantedA_le hl hw) hd (ev_le hl hx) (ev_le hl hy) (hl.hk hid) he1 (by omega) (by omega) (q := L - xs.length) (by omega) (by omega) (by omega) ht he hsz (AL.nil ⟨rfl, Imp.refl _⟩)
end
end Go.AM

/- A machine over pure data: part 47: nil slices in what a call returns. -/
set_option linter.unusedVariables false
set_option linter.unusedSimpArgs false
namespace Go.AM
open Go Go.RowKit

def nd3 : AV → AV
  | .tup xs => .tup (xs.map nd2)
  | x => nd2 x
theorem nd3_vr {ρ : Env} {O : Nat → Prop} {w : World} {x : AV} {v : Value} (h : VR ρ O w x v) : VR ρ O w (nd3 x) v := by
  cases x with
  | tup l =>
    cases h with
    | tup _ vs hl hc =>
      refine .tup _ vs (by simpa using hl) fun k y v hy hv => ?_
      rw [List.getElem?_map, Option.map_eq_some_iff] at hy
      obtain ⟨z, hz, rfl⟩ := hy
      exact nd2_vr (hc k z v hz hv)
  | _ => exact nd2_vr h
theorem ACallPR.nilR {P : Program} {f : FuncId} {ys : List AV} {r : AV} (h : ACallPR P f ys fun r' => nd3 r' = r) : ACallP P f ys r := by
  refine ⟨h.1, fun c vs hi => (h.2 c vs hi).mono ?_⟩
  rintro e' w' ⟨r', Hp', Hr, v, ρ, O, ⟨rfl, rfl⟩, he, hf⟩
  exact ⟨_, _, _, v, ρ, O, ⟨rfl, rfl⟩, he, hf.par, hf.fresh, hf.H, hf.F, nd3_vr hf.r⟩
end Go.AM

/- A machine over pure data: part 48: nil slices in a cell; a negative number as one without sign. -/
set_option linter.unusedVariables false
set_option linter.unusedSimpArgs false
namespace Go.AM
open Go Go.RowKit

section
variable {P : Program} {l rest : List Oper} {Q : Exit → St → Prop} {n d clk : Nat} {T : List (Nat × AV)} {H : List (Nat × Option Blk)} {Hp : List Blk} {x y lo hi : Operand} {t t2 ty : TypeId} {tys : Array TypeId} {pos : String} {aft : Array Edge} {g : Option (Nat × Bool)} {ts : List (Nat × TI)} {code : Code}

theorem nilB_imp (i : Nat) {e : TypeId} {cs cs' : List AV} (hi : hk ⟨n, T, H, Hp, clk⟩ (.loc i) = some (.box e cs)) (hy : cs.map nd1 = cs') : Imp ⟨n, T, H, Hp, clk⟩ ⟨n, T, (i, some (.box e cs')) :: H, Hp, clk⟩ := by
  refine retell hi fun ρ O w h => ?_
  obtain ⟨g, vs, h1, h2, h3, h4⟩ := h
  subst hy
  refine ⟨g, vs, h1, h2, by simpa using h3, fun k x v hx hv => ?_⟩
  rw [List.getElem?_map, Option.map_eq_some_iff] at hx
  obtain ⟨z, hz, rfl⟩ := hx
  exact ⟨nd1_vr (h4 k z v hz hv).1, (h4 k z v hz hv).2⟩
theorem AW.nilB (i : Nat) {e : TypeId} {cs cs' : List AV} (hi : hk ⟨n, T, H, Hp, clk⟩ (.loc i) = some (.box e cs)) (hy : cs.map nd1 = cs') (h : AW P code Q ⟨n, T, (i, some (.box e cs')) :: H, Hp, clk⟩) : AW P code Q ⟨n, T, H, Hp, clk⟩ := AW.imp (nilB_imp i hi hy) h
theorem AL.nilB (i : Nat) {e : TypeId} {cs cs' : List AV} (hi : hk ⟨n, T, H, Hp, clk⟩ (.loc i) = some (.box e cs)) (hy : cs.map nd1 = cs') (h : AL P l Q rest ⟨n, T, (i, some (.box e cs')) :: H, Hp, clk⟩) : AL P l Q rest ⟨n, T, H, Hp, clk⟩ := AL.imp (nilB_imp i hi hy) h
theorem wrap_neg {a : Int} (h0 : -9223372036854775808 ≤ a) (h1 : a < 0) : IntKind.u64.wrap a = a + 18446744073709551616 := by
  simp only [IntKind.wrap, IntKind.bits, IntKind.signed]
  simp
  omega
theorem qv28 (hT : TOK P ts) {o : Option Tmp} {σ : St} {k' : IntKind} {a : Int} {i1 : TI} {s b : Nat} {z : List AV} (hx : ev σ x = some (.d (.one (.int k' a))) := by rfl) (h1 : lk ts t = some i1 := by rfl) (h2 : lk ts t2 = some ⟨.int .u64, s, b, z⟩ := by rfl) (h3 : -9223372036854775808 ≤ a := by omega) (h4 : a < 0 := by omega) :
    VOp P σ ⟨o, .convert t t2 x, ty, pos, aft, g⟩ (.d (.one (.int .u64 (a + 18446744073709551616)))) := .conv hT hx h1 h2 (wrap_neg h3 h4)
end
end Go.AM

/- A machine over pure data: part 49: a region that draws its order, its blocks told by plain numbers. -/
set_option linter.unusedVariables false
set_option linter.unusedSimpArgs false
namespace Go.AM
open Go Go.RowKit

theorem AW.anyN {P : Program} {Q : Exit → St → Prop} {l : List Oper} {n clk : Nat} {T0 : List (Nat × AV)} {H0 : List (Nat × Option Blk)} {Hp : List Blk} {id : Nat} (hm : P.follows .mixedOrders = true) (D HT HH : List (List Nat)) (M : List (Nat × Nat)) (c0 top : Nat) (h0 : clk = c0) (ht : c0 + l.length = top) (hc : chk l c0 D HT HH M = true) (hb : base c0 T0 H0 = true) (hp : ∀ b ∈ Hp, LFB b)
    (h : AR P l Q n T0 H0 Hp c0 top D HT HH M 0 l []) : AW P (.region id l.toArray true) Q ⟨n, T0, H0, Hp, clk⟩ := by
  subst h0; subst ht
  exact AW.any hm D HT HH M hc hb hp h
end Go.AM

/- A machine over pure data: part 50: maps that tell which numbers were seen. -/
set_option linter.unusedVariables false
set_option linter.unusedSimpArgs false
namespace Go.AM
open Go Go.RowKit Go.MapKept

/-- The entries of a map that tells which numbers were seen. -/
def mkE : List Int → Nat → List MapEntry
  | [], _ => []
  | x :: r, b => ⟨.int .i64 x, .bool true, b⟩ :: mkE r (b + 1)
def setE (l : List Int) : Array MapEntry := (mkE l 0).toArray
theorem mkE_app : ∀ (l : List Int) (x : Int) (b : Nat), mkE (l ++ [x]) b = mkE l b ++ [⟨.int .i64 x, .bool true, b + l.length⟩]
  | [], x, b => rfl
  | y :: l, x, b => by
    simp only [List.cons_append, mkE, mkE_app l x (b + 1), List.length_cons]
    rw [show b + 1 + l.length = b + (l.length + 1) by omega]
theorem setE_push (l : List Int) (x : Int) : (setE l).push ⟨.int .i64 x, .bool true, l.length⟩ = setE (l ++ [x]) := by
  simp [setE, mkE_app]
theorem setE_find (q : Int) : ∀ (l : List Int) (b i : Nat), (q ∈ l → ∃ j, Instr.findNow (.int .i64) (.int .i64 q) (mkE l b) i = some (some (j, .bool true))) ∧ (q ∉ l → Instr.findNow (.int .i64) (.int .i64 q) (mkE l b) i = some none)
  | [], b, i => ⟨fun h => by simp at h, fun _ => rfl⟩
  | y :: l, b, i => by
    obtain ⟨h1, h2⟩ := setE_find q l (b + 1) (i + 1)
    by_cases e : q = y
    · subst e
      exact ⟨fun _ => ⟨i, by simp [mkE, Instr.findNow, Instr.sameNow]⟩, fun h => by simp at h⟩
    · have hs : Instr.sameNow (.int .i64) (.int .i64 q) (.int .i64 y) = some false := by simp [Instr.sameNow, e]
      refine ⟨fun h => ?_, fun h => ?_⟩
      · obtain ⟨j, hj⟩ := h1 (by simpa [e] using h)
        exact ⟨j, by simp [mkE, Instr.findNow, hs, hj]⟩
      · have := h2 (by simpa [e] using h)
        simp [mkE, Instr.findNow, hs, this]

section
variable {P : Program} {l rest : List Oper} {Q : Exit → St → Prop} {n d clk : Nat} {T : List (Nat × AV)} {H : List (Nat × Option Blk)} {Hp : List Blk} {x y z m k : Operand} {t t2 ty : TypeId} {tys : Array TypeId} {pos : String} {aft : Array Edge} {g : Option (Nat × Bool)} {ts : List (Nat × TI)}

/-- A new map. -/
theorem AL.makeMap (hT : TOK P ts) (h : AL P l Q rest ⟨n, (d, .own (.loc clk)) :: T, (clk, some (.mp (setE []) 0)) :: H, Hp, clk + 1⟩)
    (hw : wantedA l ⟨some d, .makeMap t none, ty, pos, aft, g⟩ ⟨n, T, H, Hp, clk⟩ = some true := by rfl) (hd : Nat.blt d n = true := by rfl) : AL P l Q (⟨some d, .makeMap t none, ty, pos, aft, g⟩ :: rest) ⟨n, T, H, Hp, clk⟩ := by
  refine AL.step (σ' := ⟨n, (d, .own (.loc clk)) :: T, (clk, some (.mp (setE []) 0)) :: H, Hp, clk + 1⟩) hw ?_ h
  rintro c a w ⟨ρ, O, hs⟩ K Q' hK
  have hk0 : Keeps O w (fun k => O k ∨ k = w.heap.size) (w.alloc (.map #[] 0)) := ⟨by simp, fun k hk _ => Below.heap_alloc w _ k hk, fun k hk => by
    rcases hk with hk | hk
    · exact .inl hk
    · exact .inr (by omega)⟩
  have hm := mk_sat hs (.mp (setE []) 0) (.map (some w.heap.size)) (.inl rfl) hk0 (by simp) (fun k hk => Below.heap_alloc w _ k hk) rfl rfl rfl
    ⟨w.heap.size, upd_self _ _ _, heap_alloc_new w _⟩
  unfold Oper.wp
  have hrun : (execOp a.eval ⟨some d, .makeMap t none, ty, pos, aft, g⟩).run P w = .ok (.value (.map (some w.heap.size))) (w.alloc (.map #[] 0)) := rfl
  rw [hrun]
  exact hK _ _ ⟨_, _, put_sat hm (.own (.loc clk) _ (upd_self _ _ _) rfl) (by simp [put, mk, hd])⟩

theorem und_map {t kt et : Nat} {s b : Nat} {z : List AV} (hT : TOK P ts) (ht : lk ts t = some ⟨.map kt et, s, b, z⟩) : P.underlying t = some (.map kt et) := by
  obtain ⟨du, h1, h2⟩ := (hT.facts ht).und
  cases du <;> simp [tkOf] at h2
  rw [h1, h2.1, h2.2]
theorem und_i {t : Nat} {kk : IntKind} {s b : Nat} {z : List AV} (hT : TOK P ts) (ht : lk ts t = some ⟨.int kk, s, b, z⟩) : P.underlying t = some (.int kk) := by
  obtain ⟨du, h1, h2⟩ := (hT.facts ht).und
  cases du <;> simp [tkOf] at h2
  rw [h1, h2]

/-- Whether a number was seen. -/
theorem qv29 (hT : TOK P ts) {o : Option Tmp} {σ : St} {id : Id} {c : Nat} {q : Int} {us : List Int} {kt et s b s1 b1 : Nat} {z z1 : List AV}
    (hx : ev σ x = some (.own id) := by rfl) (hid : hk σ id = some (.mp (setE us) c) := by rfl) (hk : ev σ k = some (i64 q) := by rfl)
    (ht : lk ts t = some ⟨.map kt et, s, b, z⟩ := by rfl) (hkt : lk ts kt = some ⟨.int .i64, s1, b1, z1⟩ := by rfl) (hz : ∃ ti z', P.info? et = some ti ∧ ti.zero = some z' ∧ z' = .bool false := by exact ⟨_, _, rfl, rfl, rfl⟩) : VOp P σ ⟨o, .lookup t x k false, ty, pos, aft, g⟩ (bo (decide (q ∈ us))) := by
  refine VOp.mk fun _ ac w ρ O hs => ⟨.bool (decide (q ∈ us)), fun w' hw' => ?_, .d _ _ (.one _ rfl)⟩
  have e1 := ev_sound hs hx
  have e2 := one_of (ev_sound hs hk)
  obtain ⟨gb, h1, h2⟩ := hs.H.ok id _ hid
  generalize hq : ac.eval x = v at e1
  cases e1 with
  | own _ _ h3 h4 =>
    rw [h1] at h3
    cases h3
    have h2' : w'.heap[gb]? = some (.map (setE us) c) := by
      rw [← h2]
      exact hw'.block gb (Array.getElem?_eq_some_iff.1 h2).1
    have hfind : Instr.findNow (.int .i64) (.int .i64 q) (setE us).toList 0 = some none ∧ q ∉ us ∨ ∃ j, Instr.findNow (.int .i64) (.int .i64 q) (setE us).toList 0 = some (some (j, .bool true)) ∧ q ∈ us := by
      obtain ⟨f1, f2⟩ := setE_find q us 0 0
      by_cases hm : q ∈ us
      · obtain ⟨j, hj⟩ := f1 hm
        exact .inr ⟨j, by simpa [setE] using hj, hm⟩
      · exact .inl ⟨by simpa [setE] using f2 hm, hm⟩
    have hun := und_map hT ht
    have huk := und_int hT hkt
    have hck := run_checkKey (P := P) (w := w') huk (k := .int .i64 q) (show IsKey (.int .i64) (.int .i64 q) from rfl) ((setE us).isEmpty) 9999
    have hzr : (zeroValue et).run P w' = .ok (.bool false) w' := by
      obtain ⟨ti, z', i1, i2, rfl⟩ := hz
      simp [zeroValue, typeInfo, Sem.run, i1, i2]
    rcases hfind with ⟨hf, hm⟩ | ⟨j, hf, hm⟩
    · have hfk := run_findKey (w := w') huk hf
      simp [execOp, hq, e2, Instr.lookup, run_underlying hun, Go.MapKept.run_getObj_map h2', hck, hfk, hzr, Result.andThen, hm]
    · have hfk := run_findKey (w := w') huk hf
      simp [execOp, hq, e2, Instr.lookup, run_underlying hun, Go.MapKept.run_getObj_map h2', hck, hfk, Result.andThen, hm]

/-- A number is seen. -/
theorem AL.addS (hT : TOK P ts) {i : Nat} {q : Int} {us : List Int} {kt et s b s1 b1 : Nat} {z z1 : List AV} (hq : q ∉ us)
    (h : AL P l Q rest ⟨n, T, (i, some (.mp (setE (us ++ [q])) (us.length + 1))) :: H, Hp, clk⟩)
    (hw : wantedA l ⟨none, .mapUpdate t x k (.const (.bool true)), ty, pos, aft, g⟩ ⟨n, T, H, Hp, clk⟩ = some true := by rfl)
    (hx : ev ⟨n, T, H, Hp, clk⟩ x = some (.own (.loc i)) := by rfl) (hid : hk ⟨n, T, H, Hp, clk⟩ (.loc i) = some (.mp (setE us) us.length) := by rfl) (hk : ev ⟨n, T, H, Hp, clk⟩ k = some (i64 q) := by rfl)
    (ht : lk ts t = some ⟨.map kt et, s, b, z⟩ := by rfl) (hkt : lk ts kt = some ⟨.int .i64, s1, b1, z1⟩ := by rfl) :
    AL P l Q (⟨none, .mapUpdate t x k (.const (.bool true)), ty, pos, aft, g⟩ :: rest) ⟨n, T, H, Hp, clk⟩ := by
  refine AL.step (σ' := ⟨n, T, (i, some (.mp (setE (us ++ [q])) (us.length + 1))) :: H, Hp, clk⟩) hw ?_ h
  rintro c' a w ⟨ρ, O, hs⟩ K Q' hK
  obtain ⟨gb, h1, h2⟩ := hs.H.ok (.loc i) _ hid
  have e1 := ev_sound hs hx
  have e2 := one_of (ev_sound hs hk)
  generalize hq' : a.eval x = v at e1
  cases e1 with
  | own _ _ h3 h4 =>
    rw [h1] at h3
    cases h3
    have hsat := chg_sat hs hid (b := .mp (setE (us ++ [q])) (us.length + 1)) (σ' := ⟨n, T, (i, some (.mp (setE (us ++ [q])) (us.length + 1))) :: H, Hp, clk⟩) rfl (g := gb) (w' := { w with heap := w.heap.setIfInBounds gb (.map (setE (us ++ [q])) (us.length + 1)) })
      (by rw [h1]; rfl) (fun k hk => heap_set_ne w gb k _ hk) (by simp) rfl rfl rfl ⟨gb, h1, by have := (Array.getElem?_eq_some_iff.1 h2).1; simp [this]⟩
    have hun := und_map hT ht
    have huk := und_int hT hkt
    have hck := run_checkKey (P := P) (w := w) huk (k := .int .i64 q) (show IsKey (.int .i64) (.int .i64 q) from rfl) false 9999
    have hfk := run_findKey (w := w) huk (show Instr.findNow (.int .i64) (.int .i64 q) (setE us).toList 0 = some none by simpa [setE] using (setE_find q us 0 0).2 hq)
    unfold Oper.wp
    have hev : a.eval (.const (.bool true)) = .bool true := rfl
    have hrun : (execOp a.eval ⟨none, .mapUpdate t x k (.const (.bool true)), ty, pos, aft, g⟩).run P w = .ok .skip { w with heap := w.heap.setIfInBounds gb (.map (setE (us ++ [q])) (us.length + 1)) } := by
      simp [execOp, hq', e2, hev, Instr.mapUpdate, run_underlying hun, Go.MapKept.run_getObj_map h2, hck, hfk, Go.MapKept.run_setObj_map _ h2, Result.andThen, setE_push]
    rw [hrun]
    exact hK _ _ ⟨_, _, hsat⟩
end
end Go.AM

/- A machine over pure data: part 51: in a region that draws its order: a call that is given two rows for good; a window's, a queue's row. -/
set_option linter.unusedVariables false
set_option linter.unusedSimpArgs false
namespace Go.AM
open Go Go.RowKit

section
variable {P : Program} {l rest : List Oper} {Q : Exit → St → Prop} {q n d clk : Nat} {T : List (Nat × AV)} {H : List (Nat × Option Blk)} {Hp : List Blk} {x y : Operand} {args : Array Operand} {t t2 ty : TypeId} {tys : Array TypeId} {pos : String} {aft : Array Edge} {g : Option (Nat × Bool)}

theorem OSp.callG2 (hw : wantedA l ⟨some d, .call ⟨.value x, args, tys⟩, ty, pos, aft, g⟩ ⟨n, T, H, Hp, clk⟩ = some true) (hd : Nat.blt d n = true) {f : FuncId} {caps as_ ys : List AV} (hx : ev ⟨n, T, H, Hp, clk⟩ x = some (.fn f caps))
    (ha : aevs ⟨n, T, H, Hp, clk⟩ args.toList some = some as_) {r1 r2 r3 : Rw} (hc : ACallsG P f ys [r1, r2] fun r Hp' Hr => (r = .own (.loc 0) ∧ Hr = [r3]) ∧ Hp' = []) {i j : Nat} (hys : ys.map (tk1 [i, j]) = as_ ++ caps) (hpk : ys.all (tkOk 2) = true)
    (hi : hk ⟨n, T, H, Hp, clk⟩ (.loc i) = some r1.blk) (hj : hk ⟨n, T, H, Hp, clk⟩ (.loc j) = some r2.blk) (hij : Nat.beq i j = false) :
    OSp P l q ⟨some d, .call ⟨.value x, args, tys⟩, ty, pos, aft, g⟩ ⟨n, T, H, Hp, clk⟩ ⟨some (d, .own (.loc q)), [(q, some r3.blk), (i, none), (j, none)]⟩ := by
  rintro ⟨n', T', H', Hp', clk'⟩ hl hf
  obtain rfl : n = n' := hl.n
  have hne : i ≠ j := fun e => by subst e; simp at hij
  refine AL.callGn (wantedA_le hl hw) hd (ev_le hl hx) (aevs_le hl ha) [i, j] (Hg := [r1, r2]) (by simp [hl.hk hi, hl.hk hj]) (by simp [hne]) hys hpk (R := fun r Hr => r = .own (.loc 0) ∧ Hr = [r3]) hc (fun r Hr ⟨h1, h2⟩ => ?_)
  subst h1; subst h2
  refine ⟨rfl, AL.nil ⟨rfl, ?_⟩⟩
  exact Fit.swap (b := r3.blk) (bl := [(i, none), (j, none)]) hf sw_own (by simpa [lt2, lt1, ltI] using hf.lt) rfl rfl (fun k b h => by
    rcases lk_shadow h with ⟨rfl, rfl⟩ | ⟨_, h⟩
    · rfl
    · rcases lk_shadow h with ⟨rfl, rfl⟩ | ⟨_, h⟩
      · rfl
      · simp [lk] at h)
end
end Go.AM

/- A machine over pure data: part 52: a nil slice in a cell is a row of the call's own. -/
set_option linter.unusedVariables false
set_option linter.unusedSimpArgs false
namespace Go.AM
open Go Go.RowKit

section
variable {P : Program} {l rest : List Oper} {Q : Exit → St → Prop} {n d clk : Nat} {T : List (Nat × AV)} {H : List (Nat × Option Blk)} {Hp : List Blk} {code : Code}

theorem nilOwnB_imp (i k e sz : Nat) {eb : TypeId} {cs cs' : List AV} (hi : hk ⟨n, T, H, Hp, clk⟩ (.loc i) = some (.box eb cs)) (hc : cs[k]? = some .nilrow) (hcs : cs.set k (.own (.loc clk)) = cs') :
    Imp ⟨n, T, H, Hp, clk⟩ ⟨n, T, (i, some (.box eb cs')) :: (clk, some (.row e sz [])) :: H, Hp, clk + 1⟩ := by
  subst hcs
  rintro c a w ⟨ρ, O, h⟩
  have hf := h.fresh clk (Nat.le_refl _)
  have he := upd_ext (v := .slice none 0 0) hf
  obtain ⟨g0, vs, r1, r2, r3, r4⟩ := h.H.ok (.loc i) _ hi
  have hic : i ≠ clk := fun e1 => by
    subst e1
    have : ρ (.loc i) = none := hf
    rw [this] at r1
    cases r1
  have hlk : ∀ j b', hk ⟨n, T, (i, some (.box eb (cs.set k (.own (.loc clk))))) :: (clk, some (.row e sz [])) :: H, Hp, clk + 1⟩ j = some b' →
      (j = .loc i ∧ b' = .box eb (cs.set k (.own (.loc clk)))) ∨ (j = .loc clk ∧ b' = .row e sz []) ∨ (j ≠ .loc clk ∧ hk ⟨n, T, H, Hp, clk⟩ j = some b') := by
    intro j b' h
    cases j with
    | par k => exact .inr (.inr ⟨by simp, h⟩)
    | loc k' =>
      by_cases e0 : i = k'
      · subst e0
        simp only [hk, lk_cons_self] at h
        exact .inl ⟨rfl, by cases h; rfl⟩
      · by_cases e1 : clk = k'
        · subst e1
          simp only [hk, lk_cons_ne e0, lk_cons_self] at h
          exact .inr (.inl ⟨rfl, by cases h; rfl⟩)
        · simp only [hk, lk_cons_ne e0, lk_cons_ne e1] at h
          exact .inr (.inr ⟨fun e => by injection e with e; exact e1 e.symm, h⟩)
  have hany : ∀ j b', hk ⟨n, T, (i, some (.box eb (cs.set k (.own (.loc clk))))) :: (clk, some (.row e sz [])) :: H, Hp, clk + 1⟩ j = some b' → j = .loc clk ∨ (j ≠ .loc clk ∧ ∃ b0, hk ⟨n, T, H, Hp, clk⟩ j = some b0) := by
    intro j b' h
    rcases hlk j b' h with ⟨rfl, _⟩ | ⟨rfl, _⟩ | ⟨h1, h2⟩
    · exact .inr ⟨fun e => by injection e with e; exact hic e, _, hi⟩
    · exact .inl rfl
    · exact .inr ⟨h1, _, h2⟩
  refine ⟨upd ρ clk (.slice none 0 0), O, h.defers, h.n, fun k => ?_, fun k hk' => ?_, fun t x ht => ?_, ⟨fun j b hb => ?_, fun j b g hb hg => ?_, fun j j' bi bj g hbi hbj hgi hgj => ?_⟩, h.F⟩
  · simpa [upd] using h.par k
  · simp only at hk'
    have : ρ (.loc k) = none := h.fresh k (by simp only; omega)
    simp only [upd]
    rw [if_neg (by intro e; injection e with e; omega)]
    exact this
  · obtain ⟨v, e1, e2⟩ := h.T t x ht
    exact ⟨v, e1, e2.keep he (Keeps.refl _ _)⟩
  · rcases hlk j b hb with ⟨rfl, rfl⟩ | ⟨rfl, rfl⟩ | ⟨h1, h2⟩
    · refine ⟨g0, vs, he _ _ r1, r2, by simpa using r3, fun m x v hx hv => ?_⟩
      rw [List.getElem?_set] at hx
      by_cases hkm : k = m
      · subst hkm
        rw [if_pos rfl] at hx
        split at hx
        · cases hx
          obtain ⟨q1, q2⟩ := r4 k _ v hc hv
          cases q1
          exact ⟨.own _ _ (upd_self _ _ _) rfl, rfl⟩
        · cases hx
      · rw [if_neg hkm] at hx
        obtain ⟨q1, q2⟩ := r4 m x v hx hv
        exact ⟨q1.keep he (Keeps.refl _ _), q2⟩
    · exact ⟨.slice none 0 0, [], upd_self _ _ _, ⟨by simp, .inl ⟨rfl, rfl⟩⟩, fun x hx => by simp at hx, fun j k x d hx => by simp at hx⟩
    · exact (h.H.ok j b h2).keep he (Keeps.refl _ _) (fun _ _ => rfl)
  · rcases hany j b hb with rfl | ⟨h1, b0, h2⟩
    · rw [upd_self] at hg; simp [vblk] at hg
    · exact h.H.own j b0 g h2 (by simpa [upd, h1] using hg)
  · rcases hany j bi hbi with rfl | ⟨h1, b0, h2⟩
    · rw [upd_self] at hgi; simp [vblk] at hgi
    · rcases hany j' bj hbj with rfl | ⟨h1', b1, h2'⟩
      · rw [upd_self] at hgj; simp [vblk] at hgj
      · exact h.H.inj j j' b0 b1 g h2 h2' (by simpa [upd, h1] using hgi) (by simpa [upd, h1'] using hgj)
theorem AW.nilOwnB (i k e sz : Nat) {eb : TypeId} {cs cs' : List AV} (hi : hk ⟨n, T, H, Hp, clk⟩ (.loc i) = some (.box eb cs)) (hc : cs[k]? = some .nilrow) (hcs : cs.set k (.own (.loc clk)) = cs')
    (h : AW P code Q ⟨n, T, (i, some (.box eb cs')) :: (clk, some (.row e sz [])) :: H, Hp, clk + 1⟩) : AW P code Q ⟨n, T, H, Hp, clk⟩ := AW.imp (nilOwnB_imp i k e sz hi hc hcs) h
theorem AL.nilOwnB (i k e sz : Nat) {eb : TypeId} {cs cs' : List AV} (hi : hk ⟨n, T, H, Hp, clk⟩ (.loc i) = some (.box eb cs)) (hc : cs[k]? = some .nilrow) (hcs : cs.set k (.own (.loc clk)) = cs')
    (h : AL P l Q rest ⟨n, T, (i, some (.box eb cs')) :: (clk, some (.row e sz [])) :: H, Hp, clk + 1⟩) : AL P l Q rest ⟨n, T, H, Hp, clk⟩ := AL.imp (nilOwnB_imp i k e sz hi hc hcs) h
end
end Go.AM
namespace Go.AM
open Go Go.RowKit
section
variable {P : Program} {l rest : List Oper} {Q : Exit → St → Prop} {n d clk : Nat} {T : List (Nat × AV)} {H : List (Nat × Option Blk)} {Hp : List Blk} {code : Code}
/-- A row of the call's own, its elements told in other words. -/
theorem rowE_imp (i : Nat) {e sz : Nat} {xs ys : List (List D)} (hi : hk ⟨n, T, H, Hp, clk⟩ (.loc i) = some (.row e sz xs)) (h : xs = ys) : Imp ⟨n, T, H, Hp, clk⟩ ⟨n, T, (i, some (.row e sz ys)) :: H, Hp, clk⟩ := by
  subst h
  exact retell hi (fun _ _ _ h => h)
theorem rowE_impK (i : Nat) {e sz : Nat} {xs ys : List (List D)} {I : St} (hi : hk ⟨n, T, H, Hp, clk⟩ (.loc i) = some (.row e sz xs)) (h : xs = ys) (hI : Imp ⟨n, T, (i, some (.row e sz ys)) :: H, Hp, clk⟩ I) : Imp ⟨n, T, H, Hp, clk⟩ I := (rowE_imp i hi h).trans hI
theorem AW.rowE (i : Nat) {e sz : Nat} {xs ys : List (List D)} (hi : hk ⟨n, T, H, Hp, clk⟩ (.loc i) = some (.row e sz xs)) (h : xs = ys) (hw : AW P code Q ⟨n, T, (i, some (.row e sz ys)) :: H, Hp, clk⟩) : AW P code Q ⟨n, T, H, Hp, clk⟩ := AW.imp (rowE_imp i hi h) hw
end
end Go.AM

/- A machine over pure data: part 53: in a region that draws its order: an element of a row of the call's own. -/
set_option linter.unusedVariables false
set_option linter.unusedSimpArgs false
namespace Go.AM
open Go Go.RowKit

section
variable {P : Program} {l rest : List Oper} {Q : Exit → St → Prop} {q n d clk : Nat} {T : List (Nat × AV)} {H : List (Nat × Option Blk)} {Hp : List Blk} {x y : Operand} {t t2 ty : TypeId} {tys : Array TypeId} {pos : String} {aft : Array Edge} {g : Option (Nat × Bool)} {ts : List (Nat × TI)}

theorem OSp.idxO (hT : TOK P ts) (hw : wantedA l ⟨some d, .indexAddr t x y, ty, pos, aft, g⟩ ⟨n, T, H, Hp, clk⟩ = some true) (hd : Nat.blt d n = true) {id : Id} {e sz : Nat} {xs : List (List D)} (hx : ev ⟨n, T, H, Hp, clk⟩ x = some (.own id))
    (hid : hk ⟨n, T, H, Hp, clk⟩ id = some (.row e sz xs)) {k : IntKind} {i : Nat} (hy : ev ⟨n, T, H, Hp, clk⟩ y = some (.d (.one (.int k (i : Int))))) {e' s b : Nat} {z : List AV} (ht : lk ts t = some ⟨.slice e', s, b, z⟩) {ie : TI} (he : lk ts e' = some ie)
    (hsz : Nat.beq ie.size sz = true) (h1 : i < xs.length) : OSp P l q ⟨some d, .indexAddr t x y, ty, pos, aft, g⟩ ⟨n, T, H, Hp, clk⟩ ⟨some (d, .rptr id sz i 0), []⟩ := by
  rintro ⟨n', T', H', Hp', clk'⟩ hl hf
  obtain rfl : n = n' := hl.n
  exact AL.idxON hT (wantedA_le hl hw) hd (ev_le hl hx) (hl.hk hid) (ev_le hl hy) ht he hsz h1 (AL.nil ⟨rfl, Imp.refl _⟩)
theorem OSp.loadR (hT : TOK P ts) (hw : wantedA l ⟨some d, .load t x, ty, pos, aft, g⟩ ⟨n, T, H, Hp, clk⟩ = some true) (hd : Nat.blt d n = true) {id : Id} {e sz j f : Nat} {α : Type} {fn : α → List D} {xs : List α} (hx : ev ⟨n, T, H, Hp, clk⟩ x = some (.rptr id sz j f))
    (hid : hk ⟨n, T, H, Hp, clk⟩ id = some (.row e sz (xs.map fn))) (hj : j < xs.length) {v : AV} (hv : (dropK (fn (xs[j]'hj)) f fun r => aload ts ⟨n, T, H, Hp, clk⟩ t (.eptr r)) = some v) : OSp P l q ⟨some d, .load t x, ty, pos, aft, g⟩ ⟨n, T, H, Hp, clk⟩ ⟨some (d, v), []⟩ := by
  rintro ⟨n', T', H', Hp', clk'⟩ hl hf
  obtain rfl : n = n' := hl.n
  exact AL.loadRM hT (wantedA_le hl hw) hd (ev_le hl hx) (hl.hk hid) hj hv (AL.nil ⟨rfl, Imp.refl _⟩)
end
end Go.AM

/- A machine over pure data: part 54: the place of a byte in a string (the entry behind strings.IndexByte). -/
set_option linter.unusedVariables false
set_option linter.unusedSimpArgs false
namespace Go.AM
open Go Go.RowKit

/-- Where a byte stands first, or -1. -/
def idxB (s : ByteArray) (c : Int) : Int := Lib.indexByte s.data.toList c.toNat.toUInt8
section
variable {P : Program} {x y : Operand} {tys : Array TypeId} {ty : TypeId} {pos : String} {aft : Array Edge} {g : Option (Nat × Bool)}
theorem VOp.idxB {o : Option Tmp} {σ : St} {a : ByteArray} {b : Int} {c : Operand} {f : FuncId} {fn : Func} (hc : ev σ c = some (.fn f [])) (hf : P.funcs[f]? = some fn) (h1 : (fn.name == "runtime.NumGoroutine") = false) (h2 : fn.body.isNone = true)
    (h3 : Extern.findNext fn = none) (h4 : Extern.find fn = some Extern.BytealgIndexByte.indexByte) (hx : ev σ x = some (st a)) (hy : ev σ y = some (u8 b)) :
    VOp P σ ⟨o, .call ⟨.value c, #[x, y], tys⟩, ty, pos, aft, g⟩ (i64 (idxB a b)) :=
  VOp.mk fun _ ac w _ _ hs => ⟨.int .i64 (AM.idxB a b), fun w' _ => by
    have e1 := one_of (ev_sound hs hx)
    have e2 := one_of (ev_sound hs hy)
    have e3 := ev_sound hs hc
    generalize hq : ac.eval c = q at e3
    cases e3 with
    | fn _ _ cvs hl hcv =>
      have : cvs = #[] := Array.eq_empty_of_size_eq_zero (by simpa using hl.symm)
      subst this
      have hrun := run_callFunc_extern hf h1 h2 h3 h4 #[.string a, .int .u8 b] w'
      rw [Lib.run_indexByteString] at hrun
      simp only [Result.andThen] at hrun
      simp [execOp, resolve, hq, e1, e2, Deferred.ofValue, invoke, hrun, AM.idxB], .d _ _ (.one _ rfl)⟩
end
theorem idxL_ge (c : UInt8) : ∀ (l : List UInt8), (0 ≤ Lib.indexByte l c) ↔ c ∈ l
  | [] => by simp [Lib.indexByte]
  | b :: l => by
    have ih := idxL_ge c l
    have h1 := Lib.indexByte_ge l c
    simp only [Lib.indexByte, List.mem_cons, ← ih]
    by_cases hb : b = c
    · simp [hb]
    · have : ¬ c = b := fun e => hb e.symm
      simp only [beq_iff_eq, hb, this, if_false, false_or]
      split <;> omega
end Go.AM

/- A machine over pure data: part 55: shifts and bits of numbers. -/
set_option linter.unusedVariables false
set_option linter.unusedSimpArgs false
namespace Go.AM
open Go Go.RowKit

section
variable {P : Program} {x y : Operand} {t t2 ty : TypeId} {pos : String} {aft : Array Edge} {g : Option (Nat × Bool)}
theorem VOp.shl {o : Option Tmp} {σ : St} {k k2 : IntKind} {a b r : Int} (hx : ev σ x = some (.d (.one (.int k a)))) (hy : ev σ y = some (.d (.one (.int k2 b)))) (hb : 0 ≤ b) (hr : k.wrap (a * 2 ^ (Min.min b.toNat k.bits)) = r) :
    VOp P σ ⟨o, .binOp .shl t x y t2, ty, pos, aft, g⟩ (.d (.one (.int k r))) :=
  VOp.mk fun _ _ _ _ _ hs => ⟨.int k r, fun w' _ => by
    have e1 := one_of (ev_sound hs hx)
    have e2 := one_of (ev_sound hs hy)
    simp only [execOp, e1, e2]
    simp [eqGuard, binOp, Op.shift, Int.not_lt.2 hb, hr], .d _ _ (.one _ rfl)⟩
theorem VOp.shr {o : Option Tmp} {σ : St} {k k2 : IntKind} {a b r : Int} (hx : ev σ x = some (.d (.one (.int k a)))) (hy : ev σ y = some (.d (.one (.int k2 b)))) (hb : 0 ≤ b) (hr : a / 2 ^ (Min.min b.toNat k.bits) = r) :
    VOp P σ ⟨o, .binOp .shr t x y t2, ty, pos, aft, g⟩ (.d (.one (.int k r))) :=
  VOp.mk fun _ _ _ _ _ hs => ⟨.int k r, fun w' _ => by
    have e1 := one_of (ev_sound hs hx)
    have e2 := one_of (ev_sound hs hy)
    have e3 : a.fdiv (2 ^ (Min.min b.toNat k.bits)) = r := by rw [Int.fdiv_eq_ediv_of_nonneg _ (Int.le_of_lt (Int.pow_pos (by decide)))]; exact hr
    simp only [execOp, e1, e2]
    simp [eqGuard, binOp, Op.shift, Int.not_lt.2 hb, e3], .d _ _ (.one _ rfl)⟩
theorem VOp.and {o : Option Tmp} {σ : St} {k : IntKind} {a b r : Int} (hx : ev σ x = some (.d (.one (.int k a)))) (hy : ev σ y = some (.d (.one (.int k b)))) (hr : k.wrap ((BitVec.ofInt k.bits a &&& BitVec.ofInt k.bits b).toNat : Int) = r) :
    VOp P σ ⟨o, .binOp .and t x y t2, ty, pos, aft, g⟩ (.d (.one (.int k r))) :=
  VOp.mk fun _ _ _ _ _ hs => ⟨.int k r, fun w' _ => by
    have e1 := one_of (ev_sound hs hx)
    have e2 := one_of (ev_sound hs hy)
    simp only [execOp, e1, e2, eqGuard, binOp, Op.intBits, hr]
    simp, .d _ _ (.one _ rfl)⟩
theorem VOp.or {o : Option Tmp} {σ : St} {k : IntKind} {a b r : Int} (hx : ev σ x = some (.d (.one (.int k a)))) (hy : ev σ y = some (.d (.one (.int k b)))) (hr : k.wrap ((BitVec.ofInt k.bits a ||| BitVec.ofInt k.bits b).toNat : Int) = r) :
    VOp P σ ⟨o, .binOp .or t x y t2, ty, pos, aft, g⟩ (.d (.one (.int k r))) :=
  VOp.mk fun _ _ _ _ _ hs => ⟨.int k r, fun w' _ => by
    have e1 := one_of (ev_sound hs hx)
    have e2 := one_of (ev_sound hs hy)
    simp only [execOp, e1, e2, eqGuard, binOp, Op.intBits, hr]
    simp, .d _ _ (.one _ rfl)⟩
theorem VOp.xor {o : Option Tmp} {σ : St} {k : IntKind} {a b r : Int} (hx : ev σ x = some (.d (.one (.int k a)))) (hy : ev σ y = some (.d (.one (.int k b)))) (hr : k.wrap ((BitVec.ofInt k.bits a ^^^ BitVec.ofInt k.bits b).toNat : Int) = r) :
    VOp P σ ⟨o, .binOp .xor t x y t2, ty, pos, aft, g⟩ (.d (.one (.int k r))) :=
  VOp.mk fun _ _ _ _ _ hs => ⟨.int k r, fun w' _ => by
    have e1 := one_of (ev_sound hs hx)
    have e2 := one_of (ev_sound hs hy)
    simp only [execOp, e1, e2, eqGuard, binOp, Op.intBits, hr]
    simp, .d _ _ (.one _ rfl)⟩
end

/-! ### the bits of numbers without a sign -/
theorem ofInt_nat {n w : Nat} (h : w < 2 ^ n) : (BitVec.ofInt n (w : Int)).toNat = w := by
  rw [BitVec.toNat_ofInt]
  have : ((w : Int) % (2 ^ n : Nat)).toNat = w % 2 ^ n := by omega
  rw [this]
  exact Nat.mod_eq_of_lt h
theorem wrap_nat {k : IntKind} (hk : kmin k = 0) {w : Nat} (h : (w : Int) ≤ kmax k) : k.wrap (w : Int) = w := wrap_in (by rw [hk]; omega) h
theorem and127_u64 {c : Nat} (h : c < 18446744073709551616) : IntKind.u64.wrap ((BitVec.ofInt IntKind.u64.bits (c : Int) &&& BitVec.ofInt IntKind.u64.bits 127).toNat : Int) = ((c % 128 : Nat) : Int) := by
  rw [BitVec.toNat_and, ofInt_nat (n := IntKind.u64.bits) (show c < 2 ^ IntKind.u64.bits from h), show (BitVec.ofInt IntKind.u64.bits 127).toNat = 2 ^ 7 - 1 from rfl, Nat.and_two_pow_sub_one_eq_mod]
  exact wrap_nat rfl (by show ((c % 128 : Nat) : Int) ≤ 18446744073709551615; omega)
theorem and1_u64 {c : Nat} (h : c < 18446744073709551616) : IntKind.u64.wrap ((BitVec.ofInt IntKind.u64.bits (c : Int) &&& BitVec.ofInt IntKind.u64.bits 1).toNat : Int) = ((c % 2 : Nat) : Int) := by
  rw [BitVec.toNat_and, ofInt_nat (n := IntKind.u64.bits) (show c < 2 ^ IntKind.u64.bits from h), show (BitVec.ofInt IntKind.u64.bits 1).toNat = 2 ^ 1 - 1 from rfl, Nat.and_two_pow_sub_one_eq_mod]
  exact wrap_nat rfl (by show ((c % 2 : Nat) : Int) ≤ 18446744073709551615; omega)
theorem and127_u8 {c : Nat} (h : c < 256) : IntKind.u8.wrap ((BitVec.ofInt IntKind.u8.bits (c : Int) &&& BitVec.ofInt IntKind.u8.bits 127).toNat : Int) = ((c % 128 : Nat) : Int) := by
  rw [BitVec.toNat_and, ofInt_nat (n := IntKind.u8.bits) (show c < 2 ^ IntKind.u8.bits from h), show (BitVec.ofInt IntKind.u8.bits 127).toNat = 2 ^ 7 - 1 from rfl, Nat.and_two_pow_sub_one_eq_mod]
  exact wrap_nat rfl (by show ((c % 128 : Nat) : Int) ≤ 255; omega)
theorem or128_u8 {c : Nat} (h : c < 128) : IntKind.u8.wrap ((BitVec.ofInt IntKind.u8.bits (c : Int) ||| BitVec.ofInt IntKind.u8.bits 128).toNat : Int) = ((c + 128 : Nat) : Int) := by
  have e : c ||| 128 = c + 128 := by
    have := Nat.shiftLeft_add_eq_or_of_lt (b := c) (i := 7) (by omega) 1
    rw [Nat.or_comm]
    simpa [Nat.add_comm] using this.symm
  rw [BitVec.toNat_or, ofInt_nat (n := IntKind.u8.bits) (show c < 2 ^ IntKind.u8.bits from Nat.lt_trans h (by decide)), show (BitVec.ofInt IntKind.u8.bits 128).toNat = 128 from rfl, e]
  exact wrap_nat rfl (by show ((c + 128 : Nat) : Int) ≤ 255; omega)
/-- What is put above the bits of c is added. -/
theorem or_u64 {c v i : Nat} (hc : c < 2 ^ i) (hv : v * 2 ^ i + c < 18446744073709551616) : IntKind.u64.wrap ((BitVec.ofInt IntKind.u64.bits (c : Int) ||| BitVec.ofInt IntKind.u64.bits ((v * 2 ^ i : Nat) : Int)).toNat : Int) = ((c + v * 2 ^ i : Nat) : Int) := by
  have e : c ||| v * 2 ^ i = c + v * 2 ^ i := by
    have := Nat.shiftLeft_add_eq_or_of_lt hc v
    rw [Nat.or_comm, ← Nat.shiftLeft_eq, ← this, Nat.add_comm]
  rw [BitVec.toNat_or, ofInt_nat (n := IntKind.u64.bits) (show c < 2 ^ IntKind.u64.bits from Nat.lt_of_le_of_lt (Nat.le_add_left _ _) hv), ofInt_nat (n := IntKind.u64.bits) (show v * 2 ^ i < 2 ^ IntKind.u64.bits from Nat.lt_of_le_of_lt (Nat.le_add_right _ _) hv), e]
  exact wrap_nat rfl (by show ((c + v * 2 ^ i : Nat) : Int) ≤ 18446744073709551615; omega)
theorem xor0_u64 {c : Nat} (h : c < 18446744073709551616) : IntKind.u64.wrap ((BitVec.ofInt IntKind.u64.bits (c : Int) ^^^ BitVec.ofInt IntKind.u64.bits 0).toNat : Int) = (c : Int) := by
  rw [BitVec.toNat_xor, ofInt_nat (n := IntKind.u64.bits) (show c < 2 ^ IntKind.u64.bits from h), show (BitVec.ofInt IntKind.u64.bits 0).toNat = 0 from rfl, Nat.xor_zero]
  exact wrap_nat rfl (by show (c : Int) ≤ 18446744073709551615; omega)
theorem xor1_u64 {c : Nat} (h : c < 18446744073709551616) : IntKind.u64.wrap ((BitVec.ofInt IntKind.u64.bits (c : Int) ^^^ BitVec.ofInt IntKind.u64.bits 18446744073709551615).toNat : Int) = ((18446744073709551615 - c : Nat) : Int) := by
  have e : BitVec.ofInt IntKind.u64.bits (c : Int) ^^^ BitVec.ofInt IntKind.u64.bits 18446744073709551615 = ~~~ (BitVec.ofInt IntKind.u64.bits (c : Int)) := by
    rw [show BitVec.ofInt IntKind.u64.bits 18446744073709551615 = BitVec.allOnes 64 from rfl]
    exact BitVec.xor_allOnes
  rw [e, BitVec.toNat_not, ofInt_nat (n := IntKind.u64.bits) (show c < 2 ^ IntKind.u64.bits from h)]
  exact wrap_nat rfl (by show ((2 ^ 64 - 1 - c : Nat) : Int) ≤ 18446744073709551615; omega)
end Go.AM

/- A machine over pure data: part 56: a string appended onto a row of bytes. -/
set_option linter.unusedVariables false
set_option linter.unusedSimpArgs false
namespace Go.AM
open Go Go.RowKit Go.Lib

/-- A string's bytes as elements of a row. -/
def strD (s : ByteArray) : List (List D) := s.data.toList.map fun b => [.one (.int .u8 ((b.toNat : Nat) : Int))]
theorem strD_len (s : ByteArray) : (strD s).length = s.size := by
  rw [strD, List.length_map, Array.length_toList]
  rfl

section
variable {P : Program} {l rest : List Oper} {Q : Exit → St → Prop} {n d clk : Nat} {T : List (Nat × AV)} {H : List (Nat × Option Blk)} {Hp : List Blk} {x y : Operand} {t t2 ty : TypeId} {pos : String} {aft : Array Edge} {g : Option (Nat × Bool)} {ts : List (Nat × TI)}

/-- Where the row lies to which a string was appended: where it lay, or in a new block. -/
theorem app_str_at (w : World) (t u ty e : TypeId) (i : TypeInfo) (ht : P.underlying t = some (.slice e)) (hu : P.underlying u = some .string) (hi : P.info? e = some i) (hz : i.zero = some (.int .u8 0)) (hsize : i.size = 1) (hby : i.bytes = 1)
    (v : Value) (n : Nat) (xs : List Value) (hown : w.ownsRow 0 e 1 v n xs) (s : ByteArray) (h63 : n + s.size ≤ maxLen) (hbytes : n + s.size ≤ 140737488355328) :
    ∃ v' w', (Builtin.append_ #[t, u] ty #[v, .string s]).run P w = .ok v' w' ∧ w'.ownsRow 0 e 1 v' (n + s.size) (xs ++ strCells s) ∧ w.grownBy w' v.ownBlock ∧ (v'.ownBlock = v.ownBlock ∨ v'.ownBlock = some w.heap.size) := by
  obtain ⟨v', w', r1, r2, r3, r4⟩ := run_append_own_string (P := P) w 0 t u ty e i ht hu hi hz hsize hby v n xs hown s h63 hbytes (Nat.zero_le _)
  refine ⟨v', w', r1, r2, r3, ?_⟩
  have hxl : xs.length = n := by simpa using hown.1
  rcases hown.2 with ⟨rfl, rfl⟩ | ⟨g, cap, cur, rfl, hbg, hg, hnc, hcm, hcs, htake⟩
  · by_cases hm : s.size = 0
    · rw [r4.2 ⟨rfl, hm⟩]
      exact .inl rfl
    · have hr := run_append_nil_string (P := P) w t u ty e i (.int .u8 0) ht hu hi hz s (by omega) (by omega) (by rw [hby]; omega)
      rw [r1] at hr
      injection hr with hr _
      rw [hr]
      exact .inr rfl
  · by_cases hroom : n + s.size ≤ cap
    · have hcs' : cur.size = cap := by simpa using hcs
      have hr := run_append_room_string (P := P) w t u ty e i ht hu hi hsize g n cap cur hg s hroom (by omega)
      rw [r1] at hr
      injection hr with hr _
      rw [hr]
      exact .inl rfl
    · have holds : ∀ j u, xs[j]? = some u → w.cell? ((⟨g, 0, none⟩ : Addr).add j) = some u := hown.cells (g := g) rfl
      have hr := run_append_grow_string (P := P) w t u ty e i (.int .u8 0) ht hu hi hz ⟨g, 0, none⟩ n cap xs (by rw [hsize]; simpa using hxl) holds s (by omega) (by simp only [maxLen] at h63; omega) (by rw [hby]; exact growslice_fits (by omega) (by omega))
      rw [r1] at hr
      injection hr with hr _
      rw [hr]
      exact .inr rfl

/-- append(b, s...), b a row of bytes of the call's own, s a string. -/
theorem AL.appStr (hT : TOK P ts) {i e : Nat} {xs : List (List D)} {s : ByteArray} {s0 b0 s1 b1 : Nat} {z z1 : List AV}
    (h : AL P l Q rest ⟨n, (d, .own (.loc clk)) :: T, (clk, some (.row e 1 (xs ++ strD s))) :: (i, none) :: H, Hp, clk + 1⟩)
    (hw : wantedA l ⟨some d, .call ⟨.builtin .append, #[x, y], #[t, t2]⟩, ty, pos, aft, g⟩ ⟨n, T, H, Hp, clk⟩ = some true := by rfl) (hd : Nat.blt d n = true := by rfl)
    (hx : ev ⟨n, T, H, Hp, clk⟩ x = some (.own (.loc i)) := by rfl) (hi : hk ⟨n, T, H, Hp, clk⟩ (.loc i) = some (.row e 1 xs) := by rfl) (hy : ev ⟨n, T, H, Hp, clk⟩ y = some (st s) := by rfl)
    (ht : lk ts t = some ⟨.slice e, s0, b0, z⟩ := by rfl) (ht2 : lk ts t2 = some ⟨.str, s1, b1, z1⟩ := by rfl)
    (hz : ∃ ti, P.info? e = some ti ∧ ti.zero = some (.int .u8 0) ∧ ti.size = 1 ∧ ti.bytes = 1 := by exact ⟨_, rfl, rfl, rfl, rfl⟩)
    (hlen : xs.length + s.size ≤ 140737488355328 := by first | omega | (simp; omega)) :
    AL P l Q (⟨some d, .call ⟨.builtin .append, #[x, y], #[t, t2]⟩, ty, pos, aft, g⟩ :: rest) ⟨n, T, H, Hp, clk⟩ := by
  refine AL.step (σ' := ⟨n, (d, .own (.loc clk)) :: T, (clk, some (.row e 1 (xs ++ strD s))) :: (i, none) :: H, Hp, clk + 1⟩) hw ?_ h
  rintro c a w ⟨ρ, O, hs⟩ K Q hK
  obtain ⟨ti, hinf, hiz, his, hib⟩ := hz
  have hu1 := und_slice hT ht
  have hu2 := und_str hT ht2
  obtain ⟨v, vs, hv, hown, hxl, hxc⟩ := hs.H.ok (.loc i) _ hi
  have hxv := ev_sound hs hx
  have hye := one_of (ev_sound hs hy)
  have hax : a.eval x = v := by
    generalize a.eval x = q at hxv
    cases hxv with
    | own _ _ h1 _ => rw [hv] at h1; injection h1 with h1; exact h1.symm
  obtain ⟨v1, w1, hr, hown1, hgrow, hat⟩ := app_str_at (P := P) w t t2 ty e ti hu1 hu2 hinf hiz his hib v xs.length vs hown s (by simp only [maxLen]; omega) hlen
  have hvb : vblk v = v.ownBlock := by
    rcases hown.2 with ⟨rfl, _⟩ | ⟨g', cap, cur, rfl, _⟩ <;> rfl
  have hvb1 : vblk v1 = v1.ownBlock := by
    rcases hown1.2 with ⟨rfl, _⟩ | ⟨g', cap, cur, rfl, _⟩ <;> rfl
  have hone : v1.oneCell' = true := by
    rcases hown1.2 with ⟨rfl, _⟩ | ⟨g', cap, cur, rfl, _⟩ <;> rfl
  have hlt1 : ∀ g', v1.ownBlock = some g' → g' < w1.heap.size := by
    intro g' hg'
    rcases hown1.2 with ⟨rfl, _⟩ | ⟨g2, cap, cur, rfl, _, hh, _⟩
    · simp [Value.ownBlock] at hg'
    · simp [Value.ownBlock] at hg'
      subst hg'
      exact (Array.getElem?_eq_some_iff.1 hh).1
  have hk0 : Keeps O w (fun k => O k ∨ (k = w.heap.size ∧ k < w1.heap.size)) w1 := ⟨hgrow.size, fun k hk hO => hgrow.block k hk (fun e => hO (hs.H.own (.loc i) _ k hi (by rw [hv]; simp only [Option.bind_some]; rw [hvb]; exact e.symm)).1), fun k hk => by
    rcases hk with hk | hk
    · exact .inl hk
    · exact .inr (by omega)⟩
  have hm := rerow_sat hs hi hv (v1 := v1) (w1 := w1) (b := .row e 1 (xs ++ strD s)) (fun g' hg' => by
      rw [hvb1] at hg'
      rcases hat with h1 | h1
      · rw [hvb, ← h1]; exact .inl hg'
      · rw [h1] at hg'
        injection hg' with hg'
        exact .inr ⟨hg'.symm, by rw [← hg']; exact hlt1 _ h1⟩) hgrow.size (fun k hk hne => hgrow.block k hk (fun e => hne (by rw [hvb]; exact e.symm))) hgrow.os hgrow.tape hgrow.output
    ⟨v1, vs ++ strCells s, upd_self _ _ _, by rw [List.length_append, strD_len]; exact hown1, fun x hx => by
      rcases List.mem_append.1 hx with hx | hx
      · exact hxl x hx
      · obtain ⟨b, _, rfl⟩ := List.mem_map.1 hx
        rfl, fun j k x' d' hj hk' => by
      have hvl : vs.length = xs.length := by simpa using hown.1
      by_cases hjx : j < xs.length
      · rw [List.getElem?_append_left hjx] at hj
        obtain ⟨u, e1, e2⟩ := hxc j k x' d' hj hk'
        refine ⟨u, ?_, e2.keep hk0⟩
        rw [List.getElem?_append_left ((List.getElem?_eq_some_iff.1 e1).1)]
        exact e1
      · rw [List.getElem?_append_right (by omega)] at hj
        obtain ⟨b, hb, rfl⟩ : ∃ b, s.data.toList[j - xs.length]? = some b ∧ x' = [.one (.int .u8 ((b.toNat : Nat) : Int))] := by
          unfold strD at hj
          rw [List.getElem?_map] at hj
          cases hq : s.data.toList[j - xs.length]? with
          | none => rw [hq] at hj; cases hj
          | some b => rw [hq] at hj; cases hj; exact ⟨b, rfl, rfl⟩
        have hk0' : k = 0 := by
          cases k with
          | zero => rfl
          | succ k => simp at hk'
        subst hk0'
        simp at hk'
        subst hk'
        refine ⟨.int .u8 b.toNat, ?_, .one _ rfl⟩
        rw [Nat.mul_one, Nat.add_zero, List.getElem?_append_right (by omega), hvl, strCells, List.getElem?_map, hb]
        rfl⟩
  unfold Oper.wp
  have hex : (execOp a.eval ⟨some d, .call ⟨.builtin .append, #[x, y], #[t, t2]⟩, ty, pos, aft, g⟩).run P w = .ok (.value v1) w1 := by
    simp only [execOp, resolve, invoke, builtin, Sem.run_bind, Sem.run_pure, Result.andThen_ok, List.map_toArray, List.map_cons, List.map_nil, hax, hye, hr]
  rw [hex]
  refine hK _ _ ⟨_, _, put_sat hm (x := .own (.loc clk)) (.own _ _ (upd_self _ _ _) hone) ?_⟩
  simp [put, hd]
end
end Go.AM

/- A machine over pure data: part 57: sums and products of numbers of any kind. -/
set_option linter.unusedVariables false
set_option linter.unusedSimpArgs false
namespace Go.AM
open Go Go.RowKit

section
variable {P : Program} {x y : Operand} {t t2 ty : TypeId} {pos : String} {aft : Array Edge} {g : Option (Nat × Bool)}
theorem VOp.addK {o : Option Tmp} {σ : St} {k : IntKind} {a b r : Int} (hx : ev σ x = some (.d (.one (.int k a)))) (hy : ev σ y = some (.d (.one (.int k b)))) (hr : k.wrap (a + b) = r) :
    VOp P σ ⟨o, .binOp .add t x y t2, ty, pos, aft, g⟩ (.d (.one (.int k r))) :=
  VOp.mk fun _ _ _ _ _ hs => ⟨.int k r, fun w' _ => by
    have e1 := one_of (ev_sound hs hx)
    have e2 := one_of (ev_sound hs hy)
    simp only [execOp, e1, e2]
    simp [eqGuard, binOp, Op.intArith, hr], .d _ _ (.one _ rfl)⟩
theorem VOp.mulK {o : Option Tmp} {σ : St} {k : IntKind} {a b r : Int} (hx : ev σ x = some (.d (.one (.int k a)))) (hy : ev σ y = some (.d (.one (.int k b)))) (hr : k.wrap (a * b) = r) :
    VOp P σ ⟨o, .binOp .mul t x y t2, ty, pos, aft, g⟩ (.d (.one (.int k r))) :=
  VOp.mk fun _ _ _ _ _ hs => ⟨.int k r, fun w' _ => by
    have e1 := one_of (ev_sound hs hx)
    have e2 := one_of (ev_sound hs hy)
    simp only [execOp, e1, e2]
    simp [eqGuard, binOp, Op.intArith, hr], .d _ _ (.one _ rfl)⟩
end
end Go.AM

/- A machine over pure data: part 58: bytes told as a string. -/
set_option linter.unusedVariables false
set_option linter.unusedSimpArgs false
namespace Go.AM
open Go Go.RowKit

theorem cell_lt {w : World} {a : Addr} {u : Value} (h : w.cell? a = some u) : a.block < w.heap.size := by
  rcases Nat.lt_or_ge a.block w.heap.size with h1 | h1
  · exact h1
  · rw [World.cell?, Array.getElem?_eq_none h1] at h
    cases h
section
variable {P : Program} {x : Operand} {t t2 ty : TypeId} {pos : String} {aft : Array Edge} {g : Option (Nat × Bool)} {ts : List (Nat × TI)}
/-- string(b), b a row of bytes. -/
theorem VOp.bytesStr (hT : TOK P ts) {o : Option Tmp} {σ : St} {vx : AV} {xs : List (List D)} {bs : List Int} (hx : ev σ x = some vx) (hys : rowOf σ vx = some xs) (hb : xs = bs.map fun n => [D.one (.int .u8 n)])
    {e s b s1 b1 s2 b2 : Nat} {z z1 z2 : List AV} (ht : lk ts t = some ⟨.slice e, s, b, z⟩) (he : lk ts e = some ⟨.int .u8, s1, b1, z1⟩) (ht2 : lk ts t2 = some ⟨.str, s2, b2, z2⟩) :
    VOp P σ ⟨o, .convert t t2 x, ty, pos, aft, g⟩ (st (strOfNums bs)) := by
  refine VOp.mk fun c ac w ρ O hs => ⟨.string (strOfNums bs), fun w' hw' => ?_, .d _ _ (.one _ rfl)⟩
  subst hb
  have hR := row_reads hs hys (ev_sound hs hx)
  obtain ⟨A, cc, news, hv, hnl, hnc, hnA, hn1, hn2, hn3⟩ := reads_cells (sz := 1) hR (fun y hy => by obtain ⟨_, _, rfl⟩ := List.mem_map.1 hy; rfl) (by decide)
  have hn4 := hn3 _ hR
  have hun := und_slice hT ht
  have hue := und_int hT he
  have hus := und_str hT ht2
  have hnews : news = bs.map (Value.int .u8) := by
    apply List.ext_getElem?
    intro j
    by_cases hj : j < bs.length
    · have e1 : (bs.map fun n => [D.one (.int .u8 n)])[j]? = some [D.one (.int .u8 bs[j])] := by rw [List.getElem?_map, List.getElem?_eq_getElem hj]; rfl
      obtain ⟨u, e2, _⟩ := hn2 j 0 _ _ e1 rfl
      have e3 := hn4 j 0 _ _ u e1 rfl e2
      rw [Nat.mul_one, Nat.add_zero] at e2
      rw [e2, List.getElem?_map, List.getElem?_eq_getElem hj]
      cases e3
      rfl
    · rw [List.getElem?_eq_none (by rw [hnl, List.length_map]; omega), List.getElem?_eq_none (by rw [List.length_map]; omega)]
  simp only [execOp, hv]
  cases A with
  | none =>
    have h0 := hnA rfl
    have hb0 : bs = [] := by simpa using h0
    subst hb0
    have hrun := run_convert_bytes_nil (P := P) w' t e hun hue 0 cc t2 hus
    simp only [List.map_nil, List.length_nil, Sem.run_bind, hrun, Result.andThen_ok]
    rfl
  | some ad =>
    have hl : (loadCells ad bs.length).run P w' = .ok (bs.map (Value.int .u8)).toArray w' := by
      have := run_loadCells_list (P := P) w' ad (bs.map (Value.int .u8)) (fun j v hj => by
        have h1 := hnc ad rfl j v (by rw [hnews]; exact hj)
        rw [← h1]
        exact World.cell?_of_block (hw'.block _ (cell_lt h1)))
      simpa using this
    rw [List.length_map]
    simp only [Sem.run_bind, run_convert_bytes_string w' t t2 e _ _ _ hun hue hus, run_bytesToString w' _ _ _ bs hl, foldl_push_bytes, Result.andThen_ok]
    simp [strOfNums, ByteArray.empty, ByteArray.emptyWithCapacity]
    rfl
end
end Go.AM

/- A machine over pure data: part 59: a call that is handed a variable and changes it. -/
set_option linter.unusedVariables false
set_option linter.unusedSimpArgs false
namespace Go.AM
open Go Go.RowKit

/-- Handed the block b, the call answers r and leaves b'. -/
def ACallM (P : Program) (f : FuncId) (args : List AV) (b : Blk) (r : AV) (b' : Blk) : Prop := ACalls P f args [b] fun r' Hp' Hr => r' = r ∧ Hp' = [b'] ∧ Hr = []

theorem blkC_LFB {b : Blk} (h : blkC b = true) : LFB b := by
  cases b with
  | box e cells =>
    intro x hx
    have := List.all_eq_true.1 h x hx
    cases x with
    | own i => cases i <;> simp [ok1] at this
    | d y => exact .d y
    | nilrow => exact .nilrow
    | eptr r => exact .eptr r
    | _ => simp [ok1] at this
  | _ => trivial
/-- A result that names no block; the blocks that were handed in may have changed. -/
theorem Out.pureM {Hp : List Blk} {σ : St} {rf : AV} {R : AV → List Blk → List Rw → Prop} (hok : ok3 0 rf = true) (h : R rf σ.Hp []) (hp : σ.Hp.all blkC = true) : Out Hp σ rf R rf [] [] :=
  ⟨h, ren3_nil hok, hok, rfl, List.nodup_nil, fun k j rw h => by simp at h, .inr fun b hb => blkC_LFB (List.all_eq_true.1 hp b hb)⟩

section
variable {P : Program} {l rest : List Oper} {Q : Exit → St → Prop} {n clk : Nat} {T : List (Nat × AV)} {H : List (Nat × Option Blk)} {Hp : List Blk} {x : Operand} {args : Array Operand} {tys : Array TypeId} {ty : TypeId} {pos : String} {aft : Array Edge} {g : Option (Nat × Bool)}
theorem AL.callM {o : Option Tmp} (hw : wantedA l ⟨o, .call ⟨.value x, args, tys⟩, ty, pos, aft, g⟩ ⟨n, T, H, Hp, clk⟩ = some true) {f : FuncId} {caps as_ ys : List AV} (hx : ev ⟨n, T, H, Hp, clk⟩ x = some (.fn f caps))
    (ha : aevs ⟨n, T, H, Hp, clk⟩ args.toList some = some as_) (i : Id) {b b' : Blk} {r : AV} (hc : ACallM P f ys b r b') (hi : hk ⟨n, T, H, Hp, clk⟩ i = some b) (hcl : blkC b = true) (hys : ys.map (rp2 [i]) = as_ ++ caps) (hpk : ys.all (pk2 1) = true)
    (hok : ok3 0 r = true) (hcl' : blkC b' = true) {σ2 σ3 : St} (hset : aset ⟨n, T, H, Hp, clk⟩ i b' = some σ2) (hput : put σ2 o r = some σ3) (h : AL P l Q rest σ3) :
    AL P l Q (⟨o, .call ⟨.value x, args, tys⟩, ty, pos, aft, g⟩ :: rest) ⟨n, T, H, Hp, clk⟩ := by
  refine AL.callG rfl hw hx ha [i] (HpC := [b]) (by simp [hi]) (by simp [hcl]) (by simp) hys hpk hc ?_
  rintro c a w ρ O r' Hp' Hr v w2 ρ2 O2 ⟨hr, hH, hHr⟩ hs hf
  subst hr hH hHr
  obtain ⟨e1, e2, e3, e4, e5⟩ := aset_hk hset
  have hcore := call_core (σ' := σ2) hs (fun j hj => by rw [List.mem_singleton.1 hj]; exact ⟨b, hi⟩) hf (by simp [hcl']) e3 e4 e5 (fun j bj hb => by
    by_cases hj : j = i
    · subst hj
      rw [e1] at hb
      injection hb with hb
      exact .inl ⟨0, rfl, by rw [hb]; rfl⟩
    · rw [e2 j hj] at hb
      exact .inr (.inl ⟨by simpa using hj, hb⟩))
  refine ⟨σ3, ⟨_, _, put_sat hcore.1 (v := v) (x := r') ?_ hput⟩, h⟩
  have := (ren3_iff (m := []) (ρ := merge clk ρ ρ2) (ρ' := ρ2) (O := O2) (w := w2) (fun j hj => by simp at hj) hok (v := v)).2 hf.r
  rw [ren3_nil hok] at this
  exact this
end
/-- A fresh row that is not written any more is pure data. -/
theorem ACallO.frz {P : Program} {f : FuncId} {args : List AV} {e sz : Nat} {xs : List (List D)} (h : ACallO P f args e sz (· = xs)) : ACallP P f args (.d (.row xs)) := by
  refine ⟨h.1, fun c vs hi => (h.2 c vs hi).mono ?_⟩
  rintro ex w' ⟨r, Hp', Hr, v, ρ, O, ⟨ys, hy, hr, hHr⟩, he, hf⟩
  subst hy hr hHr
  have hv : ρ (.loc 0) = some v := by
    have := hf.r
    cases this with
    | own _ _ h1 _ => exact h1
  have hb := hf.H.ok (.loc 0) (.row e sz ys) rfl
  have hvO : ∀ g, vblk v = some g → O g ∧ g < w'.heap.size ∧ Nw c g := fun g hg => hf.H.own (.loc 0) (.row e sz ys) g rfl (by rw [hv]; exact hg)
  have hF := hf.F
  refine ⟨.d (.row ys), [], [], v, (fun i => match i with | .par k => ρ (.par k) | .loc _ => none), fun k => O k ∧ vblk v ≠ some k, ⟨rfl, rfl⟩, he, ⟨hf.par, fun _ _ => rfl, ⟨fun i b hb => ?_, fun i b g hb => ?_, fun i j bi bj g hb => ?_⟩,
    ⟨hF.os, hF.tape, hF.output, hF.size, hF.same, fun k hk' => ⟨hF.mono k hk', fun e => hF.nw (hvO k e).2.2 hk'⟩, fun k hk' => hF.news k hk'.1, hF.wlt, fun k hk' => hF.olt k hk'.1, hF.olt0, hF.glt⟩,
    .d _ _ (own_reads hb hv (fun _ hk => hk.1) (fun g hg hh => hh.2 hg))⟩⟩
  all_goals (cases i <;> simp [finS, hk, rowsH, lk] at hb)
section
variable {P : Program} {x : Operand} {t ty : TypeId} {pos : String} {aft : Array Edge} {g : Option (Nat × Bool)}
/-- x[i:j:m], i, j and m numbers, x pure data. -/
theorem VOp.cutMI3 {ts : List (Nat × TI)} (hT : TOK P ts) {lo hi mx : Operand} {o : Option Tmp} {σ : St} {α : Type} {f : α → List D} {xs : List α} (hx : ev σ x = some (.d (.row (xs.map f))))
    {e s b : Nat} {z : List AV} (ht : lk ts t = some ⟨.slice e, s, b, z⟩) {ie : TI} (he : lk ts e = some ie) (hf : ∀ x, (f x).length = ie.size) {i j m : Int} (hlo : bnd σ (some lo) 0 = some i) (hhi : bnd σ (some hi) (xs.map f).length = some j) (hmx : bnd σ (some mx) j = some m)
    (h0 : 0 ≤ i) (h1 : i ≤ j) (h3 : j ≤ m) (h2 : m ≤ xs.length) :
    VOp P σ ⟨o, .slice t x (some lo) (some hi) (some mx), ty, pos, aft, g⟩ (.d (.row (((xs.take j.toNat).drop i.toNat).map f))) := by
  obtain ⟨i', rfl⟩ : ∃ k : Nat, i = k := ⟨i.toNat, by omega⟩
  obtain ⟨j', rfl⟩ : ∃ k : Nat, j = k := ⟨j.toNat, by omega⟩
  obtain ⟨m', rfl⟩ : ∃ k : Nat, m = k := ⟨m.toNat, by omega⟩
  have := VOp.cutM (P := P) (lo := some lo) (hi := some hi) (mx := some mx) (o := o) (ty := ty) (pos := pos) (aft := aft) (g := g) (i := i') (j := j') (m := m') hT hx ht he hf hlo hhi hmx (by simp) (by omega) (by omega) (by omega)
  simpa using this
end
end Go.AM

/- A machine over pure data: part 60: []byte of a constant string, of a string: a row that is marked is pure data. -/
set_option linter.unusedVariables false
set_option linter.unusedSimpArgs false
namespace Go.AM
open Go Go.RowKit

/-- What is read is read where every cell reads as it did. -/
theorem Reads.recell {O : Nat → Prop} {w w' : World} (hs : w.heap.size ≤ w'.heap.size) (hc : ∀ a u, w.cell? a = some u → w'.cell? a = some u) {x : D} {v : Value} (h : Reads O w x v) : Reads O w' x v := by
  induction h with
  | one v h => exact .one v h
  | none a c => exact .none a c
  | row xs sz c ad u hlen hcc hm hO hb hcell hsub ih =>
    exact .row xs sz c ad u hlen hcc hm hO (Nat.lt_of_lt_of_le hb hs) (fun j i x d hx hd => hc _ _ (hcell j i x d hx hd)) (fun j i x d hx hd => ih j i x d hx hd)
theorem mark_old (w : World) (a : Addr) (k : Nat) (j : Nat) (hj : j ≠ a.block) : (w.freeze a k).heap[j]? = w.heap[j]? := by
  unfold World.freeze
  split
  · rfl
  · simp only [Array.getElem?_modify]
    rw [if_neg (fun h => hj h.symm)]
theorem mark_size (w : World) (a : Addr) (k : Nat) : (w.freeze a k).heap.size = w.heap.size := by
  unfold World.freeze
  split
  · rfl
  · simp
theorem mark_cell (w : World) (a : Addr) (k : Nat) (b : Addr) (u : Value) (h : w.cell? b = some u) : (w.freeze a k).cell? b = some u := by
  by_cases hb : b.block = a.block
  · unfold World.freeze
    split
    · exact h
    · unfold World.cell? at h ⊢
      simp only [Array.getElem?_modify]
      rw [if_pos hb.symm]
      cases hg : w.heap[b.block]? with
      | none => rw [hg] at h; simp at h
      | some o =>
        rw [hg] at h
        cases o <;> simp at h ⊢
        exact h
  · unfold World.cell? at h ⊢
    rw [mark_old w a k b.block hb]
    exact h

section
variable {P : Program} {l rest : List Oper} {Q : Exit → St → Prop} {n d clk : Nat} {T : List (Nat × AV)} {H : List (Nat × Option Blk)} {Hp : List Blk} {x : Operand} {t t2 ty : TypeId} {pos : String} {aft : Array Edge} {g : Option (Nat × Bool)} {ts : List (Nat × TI)}
/-- A row of bytes of the call's own, converted to its own type: it is pure data from here on. -/
theorem AL.convSelf (hT : TOK P ts) {i e : Nat} {xs : List (List D)} {s b s1 b1 : Nat} {z z1 : List AV}
    (h : AL P l Q rest ⟨n, (d, .d (.row xs)) :: T, (i, none) :: H, Hp, clk⟩)
    (hw : wantedA l ⟨some d, .convert t t x, ty, pos, aft, g⟩ ⟨n, T, H, Hp, clk⟩ = some true := by rfl) (hd : Nat.blt d n = true := by rfl)
    (hx : ev ⟨n, T, H, Hp, clk⟩ x = some (.own (.loc i)) := by rfl) (hi : hk ⟨n, T, H, Hp, clk⟩ (.loc i) = some (.row e 1 xs) := by rfl)
    (ht : lk ts t = some ⟨.slice e, s, b, z⟩ := by rfl) (he : lk ts e = some ⟨.int .u8, s1, b1, z1⟩ := by rfl) (hne : Nat.blt 0 xs.length = true := by rfl) :
    AL P l Q (⟨some d, .convert t t x, ty, pos, aft, g⟩ :: rest) ⟨n, T, H, Hp, clk⟩ := by
  rintro c a w ⟨ρ, O, hs⟩
  refine wpList_step fun K hK => ?_
  rw [if_pos (wantedA_sound hw ⟨ρ, O, hs⟩)]
  have hxv := ev_sound hs hx
  have hB := hs.H.ok (.loc i) _ hi
  have hBB := hB
  obtain ⟨v, vs, hv, hown, hlen, hcells⟩ := hBB
  have hxe : a.eval x = v := by
    generalize a.eval x = q at hxv
    cases hxv with
    | own _ _ h1 _ => rw [hv] at h1; injection h1 with h1; exact h1.symm
  obtain ⟨hvl, hor⟩ := hown
  have hne := Nat.lt_of_lt_of_eq (by simpa using hne : 0 < xs.length) rfl
  rcases hor with ⟨rfl, h5⟩ | ⟨gb, cap, cur, rfl, _, hh, hnc, hcm, hcs, htk⟩
  · omega
  have hlt : gb < w.heap.size := (Array.getElem?_eq_some_iff.1 hh).1
  have hgO := hs.H.own (.loc i) _ gb hi (by rw [hv]; rfl)
  have hun := und_slice hT ht
  have hue := und_int hT he
  have hrun : (execOp a.eval ⟨some d, .convert t t x, ty, pos, aft, g⟩).run P w = .ok (.value (.slice (some ⟨gb, 0, none⟩) xs.length cap)) (w.freeze ⟨gb, cur.size, none⟩ 1) := by
    have hsh : w.shape? gb = some (e, cur.size) := by unfold World.shape?; rw [hh]
    simp [execOp, hxe, convert, run_underlying hun, run_underlying hue, markStringish, hsh]
  unfold Oper.wp
  rw [hrun]
  have hO' : ∀ k, (O k ∧ k ≠ gb) → O k := fun k hk => hk.1
  have hk0 : Keeps O w (fun k => O k ∧ k ≠ gb) (w.freeze ⟨gb, cur.size, none⟩ 1) := ⟨Nat.le_of_eq (mark_size ..).symm, fun k hk hO => mark_old _ _ _ _ (fun e => hO (by rw [e]; exact hgO.1)), fun k hk => .inl hk.1⟩
  have hrd : Reads (fun k => O k ∧ k ≠ gb) (w.freeze ⟨gb, cur.size, none⟩ 1) (.row xs) (.slice (some ⟨gb, 0, none⟩) xs.length cap) :=
    (own_reads hB hv hO' (fun g' hg' => by cases hg'; exact fun h => h.2 rfl)).recell (Nat.le_of_eq (mark_size ..).symm) (fun a u h => mark_cell _ _ _ _ _ h)
  have hlk : ∀ j b', hk ⟨n, T, (i, none) :: H, Hp, clk⟩ j = some b' → j ≠ .loc i ∧ hk ⟨n, T, H, Hp, clk⟩ j = some b' := by
    intro j b' hb
    cases j with
    | par k => exact ⟨by simp, hb⟩
    | loc k =>
      by_cases e1 : i = k
      · subst e1
        simp only [hk, lk_cons_self] at hb
        cases hb
      · simp only [hk, lk_cons_ne e1] at hb
        exact ⟨fun e => by injection e with e; exact e1 e.symm, hb⟩
  have hne' : ∀ j b' g', j ≠ .loc i → hk ⟨n, T, H, Hp, clk⟩ j = some b' → (ρ j).bind vblk = some g' → g' ≠ gb := by
    intro j b' g' h1 h2 h3 e1
    subst e1
    exact h1 (hs.H.inj j (.loc i) b' _ g' h2 hi h3 (by rw [hv]; rfl))
  have hsat : SatAt c ⟨n, T, (i, none) :: H, Hp, clk⟩ a (w.freeze ⟨gb, cur.size, none⟩ 1) ρ (fun k => O k ∧ k ≠ gb) := by
    refine ⟨hs.defers, hs.n, hs.par, hs.fresh, fun t' x' ht' => ?_, ⟨fun j b' hb => ?_, fun j b' g' hb hg => ?_, fun j k bj bk g' hj hk' => ?_⟩, ?_⟩
    · obtain ⟨u, e1, e2⟩ := hs.T t' x' ht'
      exact ⟨u, e1, e2.keep (Ext.refl ρ) hk0⟩
    · obtain ⟨h1, h2⟩ := hlk j b' hb
      exact (hs.H.ok j b' h2).keep (Ext.refl ρ) hk0 (fun g' hg' => mark_old _ _ _ _ (hne' j b' g' h1 h2 hg'))
    · obtain ⟨h1, h2⟩ := hlk j b' hb
      obtain ⟨e1, e2, e3⟩ := hs.H.own j b' g' h2 hg
      exact ⟨⟨e1, hne' j b' g' h1 h2 hg⟩, by rw [mark_size]; exact e2, e3⟩
    · exact hs.H.inj j k bj bk g' (hlk j bj hj).2 (hlk k bk hk').2
    · have hF := hs.F
      have hos : ∀ (a : Addr) (k : Nat), (w.freeze a k).os = w.os ∧ (w.freeze a k).tape = w.tape ∧ (w.freeze a k).output = w.output := by
        intro a k
        unfold World.freeze
        split <;> exact ⟨rfl, rfl, rfl⟩
      refine ⟨(hos _ _).1.trans hF.os, (hos _ _).2.1.trans hF.tape, (hos _ _).2.2.trans hF.output, by rw [mark_size]; exact hF.size, fun k hk' hW hG => ?_, fun k hk' => ⟨hF.mono k hk', fun e => ?_⟩, fun k hk' => hF.news k hk'.1, hF.wlt, fun k hk' => by rw [mark_size]; exact hF.olt k hk'.1, hF.olt0, hF.glt⟩
      · rw [mark_old]
        · exact hF.same k hk' hW hG
        · intro e
          have e : k = gb := e
          subst e
          rcases hgO.2.2 with h1 | h1
          · omega
          · exact hG h1
      · subst e
        exact hF.nw hgO.2.2 hk'
  exact hK _ _ (h c _ _ ⟨ρ, _, put_sat hsat (.d _ _ hrd) (by simp [put, hd])⟩)
end
end Go.AM
