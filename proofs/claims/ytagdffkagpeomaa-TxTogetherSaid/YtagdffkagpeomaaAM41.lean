/- A machine over pure data: part 41: append onto a part of a row, in place; a part cleared. -/
import Derived.Test.YtagdffkagpeomaaAMC
set_option linter.unusedVariables false
set_option linter.unusedSimpArgs false
namespace Go.AM
open Go Go.RowKit

section
variable {P : Program} {l rest : List Oper} {Q : Exit → St → Prop} {n d clk : Nat} {T : List (Nat × AV)} {H : List (Nat × Option Blk)} {Hp : List Blk} {x y : Operand} {t t2 ty : TypeId} {tys : Array TypeId} {pos : String} {aft : Array Edge} {g : Option (Nat × Bool)}

/-- append(x, y...), x a part of a row of the call's own, where what is appended stays within the row. -/
theorem AL.appIn {ts : List (Nat × TI)} (hT : TOK P ts) (hw : wantedA l ⟨some d, .call ⟨.builtin .append, #[x, y], #[t, t]⟩, ty, pos, aft, g⟩ ⟨n, T, H, Hp, clk⟩ = some true) (hd : Nat.blt d n = true) {vx vy : AV} (hx : ev ⟨n, T, H, Hp, clk⟩ x = some vx) {id sz lo m e : Nat} (hsg : seg ⟨n, T, H, Hp, clk⟩ vx = some (.loc id, sz, lo, m))
    {xs ys : List (List D)} (hid : hk ⟨n, T, H, Hp, clk⟩ (.loc id) = some (.row e sz xs)) (hne : xs ≠ []) (hy : ev ⟨n, T, H, Hp, clk⟩ y = some vy) (hys : srcOf ⟨n, T, H, Hp, clk⟩ vy = some ys) (hel : ∀ y ∈ ys, y.length = sz) (hs0 : Nat.blt 0 sz = true)
    {e' s b : Nat} {z : List AV} (ht : lk ts t = some ⟨.slice e', s, b, z⟩) {ie : TI} (he : lk ts e' = some ie) (hsz : Nat.beq ie.size sz = true) (hfit : lo + (m + ys.length) ≤ xs.length)
    (h : AL P l Q rest ⟨n, (d, .sub (.loc id) sz lo (m + ys.length) true) :: T, (id, some (.row e sz (xs.take (lo + m) ++ ys ++ xs.drop (lo + m + ys.length)))) :: H, Hp, clk⟩) :
    AL P l Q (⟨some d, .call ⟨.builtin .append, #[x, y], #[t, t]⟩, ty, pos, aft, g⟩ :: rest) ⟨n, T, H, Hp, clk⟩ := by
  refine AL.step (σ' := ⟨n, (d, .sub (.loc id) sz lo (m + ys.length) true) :: T, (id, some (.row e sz (xs.take (lo + m) ++ ys ++ xs.drop (lo + m + ys.length)))) :: H, Hp, clk⟩) hw ?_ h
  rintro c a w ⟨ρ, O, hs⟩ K Q' hK
  have hsz := Nat.eq_of_beq_eq_true hsz
  have hs0 : 0 < sz := by simpa using hs0
  have hxv := ev_sound hs hx
  have hyv := ev_sound hs hy
  have hsize := (hT.facts he).sizeOf (P := P)
  have hu := und_slice hT ht
  obtain ⟨hlm, hval⟩ := seg_val hs hsg hid hxv
  obtain ⟨A, cc, news, s1, s2, s3, s4, s5, s6⟩ := src_cells hs hys hyv hel hs0
  generalize hq : ys.length = q at *
  have hload : ∀ ad, A = some ad → (loadCells ad (q * sz)).run P w = .ok news.toArray w := fun ad had => by
    have := run_loadCells_list (P := P) w ad news (fun j v hj => s3 ad had j v hj)
    rw [s2] at this
    exact this
  rcases hval with ⟨hv, rfl, _⟩ | ⟨gb, cap, cc2, off, cur, hv, hρ, hcap, hlc, hoff, hh, hcs⟩
  · exact absurd rfl hne
  · have hoff2 : off = lo * sz ∨ (m = 0 ∧ q = 0) := by
      by_cases h0 : cc2 = 0
      · exact .inr (by omega)
      · exact .inl (hoff h0)
    have hfit2 : (lo + m) * sz + q * sz ≤ cur.size := by
      rw [hcs, ← Nat.add_mul]
      exact Nat.mul_le_mul_right _ (by omega)
    have hcells : ∃ cur', (storeCells ⟨gb, off + m * sz, none⟩ news 0).run P w = .ok () (w.setRow gb cur') ∧ cur'.size = cur.size ∧ ∀ p : Nat, cur'[p]? = if (lo + m) * sz ≤ p ∧ p < (lo + m) * sz + news.length then news[p - (lo + m) * sz]? else cur[p]? := by
      rcases hoff2 with h0 | ⟨hm0, hq0⟩
      · obtain ⟨cur', e1, e2, e3⟩ := run_storeSeg (P := P) gb ((lo + m) * sz) e news 0 cur w hh (by rw [s2]; omega) s5
        refine ⟨cur', ?_, e2, fun p => by rw [e3]; rfl⟩
        rw [h0, ← Nat.add_mul]
        exact e1
      · have hn : news = [] := List.eq_nil_of_length_eq_zero (by rw [s2, hq0, Nat.zero_mul])
        subst hn
        obtain ⟨cur', e1, e2, e3⟩ := run_storeSeg (P := P) gb 0 e [] 0 cur w hh (by simp) (fun v hv => by cases hv)
        refine ⟨cur', ?_, e2, fun p => ?_⟩
        · exact e1
        · rw [e3, if_neg (by simp), if_neg (by simp)]
    obtain ⟨cur', e1, e2, e3⟩ := hcells
    have hneed : m + q ≤ cc2 := by omega
    have hrun : (Builtin.append_ #[t, t] ty #[.slice (some ⟨gb, off, none⟩) m cc2, .slice A q cc]).run P w = .ok (.slice (some ⟨gb, off, none⟩) (m + q) cc2) (w.setRow gb cur') := by
      cases A with
      | none =>
        have hy0 : ys = [] := s4 rfl
        have hq0 : q = 0 := by rw [← hq, hy0]; rfl
        subst hq0
        have hn : news = [] := List.eq_nil_of_length_eq_zero (by rw [s2, Nat.zero_mul])
        subst hn
        simp [Builtin.append_, run_underlying hu, Builtin.lenOf, Builtin.firstCells, hsize, hneed, hsz, add_ptr, e1]
        intro hx'; omega
      | some ad =>
        have hl := hload ad rfl
        simp [Builtin.append_, run_underlying hu, Builtin.lenOf, Builtin.firstCells, hsize, hneed, hsz, hl, add_ptr, e1]
    have hsat := seg_write (lo := lo + m) (ys := ys) (vs := news) hs hid hρ hh hcs hlc (by rw [s2, hq]) hel (fun j k y d h1 h2 => s6 j k y d h1 h2) (by rw [hq]; omega) e2 (fun p => e3 p)
    rw [hq] at hsat
    unfold Oper.wp
    have hex : (execOp a.eval ⟨some d, .call ⟨.builtin .append, #[x, y], #[t, t]⟩, ty, pos, aft, g⟩).run P w = .ok (.value (.slice (some ⟨gb, off, none⟩) (m + q) cc2)) (w.setRow gb cur') := by
      simp [execOp, resolve, invoke, builtin, hv, s1, hrun]
    rw [hex]
    exact hK _ _ ⟨ρ, O, put_sat hsat (v := .slice (some ⟨gb, off, none⟩) (m + q) cc2) (x := .sub (.loc id) sz lo (m + q) true) (.sub _ _ _ _ _ gb xs.length cap cc2 off hρ (by omega) hneed (by omega) (fun _ => hcap) hoff) (by simp [put, hd])⟩

/-- clear(x), x a part of a row of the call's own. -/
theorem AL.clear {ts : List (Nat × TI)} (hT : TOK P ts) {dst : Option Tmp} {σ' : St} (hw : wantedA l ⟨dst, .call ⟨.builtin .clear, #[x], #[t]⟩, ty, pos, aft, g⟩ ⟨n, T, H, Hp, clk⟩ = some true) {vx : AV} (hx : ev ⟨n, T, H, Hp, clk⟩ x = some vx) {id sz lo m e : Nat} (hsg : seg ⟨n, T, H, Hp, clk⟩ vx = some (.loc id, sz, lo, m))
    {xs : List (List D)} (hid : hk ⟨n, T, H, Hp, clk⟩ (.loc id) = some (.row e sz xs)) (hne : xs ≠ []) (hs0 : Nat.blt 0 sz = true)
    {e' s b : Nat} {z : List AV} (ht : lk ts t = some ⟨.slice e', s, b, z⟩) {ie : TI} (he : lk ts e' = some ie) (hsz : Nat.beq ie.size sz = true) {ds : List D} (hz : toDs ie.zero some = some ds) (hzl : Nat.beq ds.length ie.size = true)
    (hp : put ⟨n, T, (id, some (.row e sz (xs.take lo ++ List.replicate m ds ++ xs.drop (lo + m)))) :: H, Hp, clk⟩ dst (.tup []) = some σ') (h : AL P l Q rest σ') :
    AL P l Q (⟨dst, .call ⟨.builtin .clear, #[x], #[t]⟩, ty, pos, aft, g⟩ :: rest) ⟨n, T, H, Hp, clk⟩ := by
  refine AL.step (σ' := σ') hw ?_ h
  rintro c a w ⟨ρ, O, hs⟩ K Q' hK
  have hsz := Nat.eq_of_beq_eq_true hsz
  have hs0 : 0 < sz := by simpa using hs0
  have hxv := ev_sound hs hx
  have hu := und_slice hT ht
  obtain ⟨ti, zv, i1, i2, i3, i4, i5⟩ := (hT.facts he).info
  obtain ⟨z1, z2⟩ := zall_sound i5
  obtain ⟨ds', d1, d2, d3, d4⟩ := toDs_spec hz
  cases d1
  have hzl := Nat.eq_of_beq_eq_true hzl
  have hzs : zv.cells.size = sz := by rw [← hsz, ← hzl, d2, ← z1]; simp
  have hzero : ∀ w, (zeroValue e').run P w = .ok zv w := fun w => by
    simp [zeroValue, typeInfo, i1, i4]
  obtain ⟨hlm, hval⟩ := seg_val hs hsg hid hxv
  rcases hval with ⟨hv, rfl, _⟩ | ⟨gb, cap, cc2, off, cur, hv, hρ, hcap, hlc, hoff, hh, hcs⟩
  · exact absurd rfl hne
  · generalize hnw : (Builtin.zeroCells zv.cells m).toList = news
    have hnl : news.length = m * sz := by rw [← hnw]; simp [Builtin.zeroCells, hzs]
    have hcell : ∀ j k : Nat, j < m → k < sz → news[j * sz + k]? = zv.cells[k]? := by
      intro j k hj hk
      have h1 : (j + 1) * sz ≤ m * sz := Nat.mul_le_mul_right _ (by omega)
      rw [Nat.succ_mul] at h1
      have h2 : (j * sz + k) % zv.cells.size = k := by rw [hzs, Nat.add_comm, Nat.add_mul_mod_self_right, Nat.mod_eq_of_lt hk]
      rw [← hnw]
      simp only [Builtin.zeroCells, Array.toList_map, List.getElem?_map]
      rw [Array.getElem?_toList, Array.getElem?_range, if_pos (by rw [hzs]; omega)]
      simp only [Option.map_some, h2]
      rw [getElem!_pos zv.cells k (by omega), Array.getElem?_eq_getElem (by omega)]
    have hone : ∀ v ∈ news, v.oneCell' = true := fun v hv => by
      obtain ⟨p, hp⟩ := List.getElem?_of_mem hv
      have hpl : p < m * sz := by rw [← hnl]; exact (List.getElem?_eq_some_iff.1 hp).1
      have h1 : p / sz < m := (Nat.div_lt_iff_lt_mul hs0).2 hpl
      have h2 := hcell (p / sz) (p % sz) h1 (Nat.mod_lt _ hs0)
      rw [Nat.mul_comm, Nat.div_add_mod] at h2
      rw [hp] at h2
      have hk : p % sz < zv.cells.size := by rw [hzs]; exact Nat.mod_lt _ hs0
      have hx : ∃ x, ie.zero[p % sz]? = some x := ⟨_, List.getElem?_eq_getElem (by have := z1; simp at this; omega)⟩
      obtain ⟨x, hx⟩ := hx
      exact (z2 (fun _ => none) (fun _ => False) w (p % sz) x v hx (by rw [Array.getElem?_toList]; exact h2.symm)).2
    have hoff2 : off = lo * sz ∨ m = 0 := by
      by_cases h0 : cc2 = 0
      · exact .inr (by omega)
      · exact .inl (hoff h0)
    have hfit2 : lo * sz + m * sz ≤ cur.size := by
      rw [hcs, ← Nat.add_mul]
      exact Nat.mul_le_mul_right _ (by omega)
    have hcells : ∃ cur', (storeCells ⟨gb, off, none⟩ news 0).run P w = .ok () (w.setRow gb cur') ∧ cur'.size = cur.size ∧ ∀ p : Nat, cur'[p]? = if lo * sz ≤ p ∧ p < lo * sz + news.length then news[p - lo * sz]? else cur[p]? := by
      rcases hoff2 with h0 | hm0
      · obtain ⟨cur', e1, e2, e3⟩ := run_storeSeg (P := P) gb (lo * sz) e news 0 cur w hh (by rw [hnl]; omega) hone
        refine ⟨cur', ?_, e2, fun p => by rw [e3]; rfl⟩
        rw [h0]
        exact e1
      · have hn : news = [] := List.eq_nil_of_length_eq_zero (by rw [hnl, hm0, Nat.zero_mul])
        subst hn
        obtain ⟨cur', e1, e2, e3⟩ := run_storeSeg (P := P) gb 0 e [] 0 cur w hh (by simp) (fun v hv => by cases hv)
        refine ⟨cur', ?_, e2, fun p => ?_⟩
        · exact e1
        · rw [e3, if_neg (by simp), if_neg (by simp)]
    obtain ⟨cur', e1, e2, e3⟩ := hcells
    have hrun : ∃ w2, (Builtin.clear_ #[t] ty #[.slice (some ⟨gb, off, none⟩) m cc2]).run P w = .ok (.tuple #[]) w2 ∧ (w2 = w.setRow gb cur' ∨ (w2 = w ∧ m = 0)) := by
      cases m with
      | zero => exact ⟨w, by simp [Builtin.clear_, run_underlying hu], .inr ⟨rfl, rfl⟩⟩
      | succ m =>
        refine ⟨_, ?_, .inl rfl⟩
        simp only [Builtin.clear_]
        simp [run_underlying hu, hzero, hnw, e1]
    obtain ⟨w2, hrun, hw2⟩ := hrun
    have hrd : ∀ (j k : Nat) y d, (List.replicate m ds)[j]? = some y → y[k]? = some d → ∃ u, news[j * sz + k]? = some u ∧ Reads O w d u := by
      intro j k y d' hy hd'
      rw [List.getElem?_replicate] at hy
      split at hy
      · rename_i hj
        cases hy
        have hk : k < ds.length := (List.getElem?_eq_some_iff.1 hd').1
        have hkz : k < zv.cells.size := by omega
        refine ⟨zv.cells[k], by rw [hcell j k hj (by omega), Array.getElem?_eq_getElem hkz], ?_⟩
        have hxk : ∃ x, ie.zero[k]? = some x := ⟨_, List.getElem?_eq_getElem (by omega)⟩
        obtain ⟨x, hxk⟩ := hxk
        exact d4 (fun _ => none) _ _ k x d' _ hxk hd' (z2 (fun _ => none) _ _ k x _ hxk (by rw [Array.getElem?_toList, Array.getElem?_eq_getElem hkz])).1
      · cases hy
    have hsat := seg_write (lo := lo) (ys := List.replicate m ds) (vs := news) hs hid hρ hh hcs hlc (by rw [hnl, List.length_replicate]) (fun y hy => by rw [(List.mem_replicate.1 hy).2, hzl, hsz]) hrd (by rw [List.length_replicate]; omega) e2 e3
    rw [List.length_replicate] at hsat
    unfold Oper.wp
    have hex : (execOp a.eval ⟨dst, .call ⟨.builtin .clear, #[x], #[t]⟩, ty, pos, aft, g⟩).run P w = .ok (.value (.tuple #[])) w2 := by
      simp [execOp, resolve, invoke, builtin, hv, hrun]
    rw [hex]
    have hfin : SatAt c ⟨n, T, (id, some (.row e sz (xs.take lo ++ List.replicate m ds ++ xs.drop (lo + m)))) :: H, Hp, clk⟩ a w2 ρ O := by
      rcases hw2 with rfl | ⟨rfl, rfl⟩
      · exact hsat
      · refine SatAt.le (σ := ⟨n, T, (id, some (.row e sz (xs.take lo ++ List.replicate 0 ds ++ xs.drop (lo + 0)))) :: H, Hp, clk⟩) (σ' := ⟨n, T, H, Hp, clk⟩) ⟨rfl, rfl, rfl, fun _ _ h => h, fun q b' hq => ?_⟩ hs
        rcases lk_shadow hq with ⟨rfl, e1⟩ | ⟨_, hq⟩
        · injection e1 with e1
          subst e1
          simp only [hk] at hid
          split at hid
          · rename_i b' hb'
            cases hid
            simpa using hb'
          · cases hid
        · exact hq
    exact hK _ _ ⟨ρ, O, put_sat hfin (v := .tuple #[]) (x := .tup []) (.tup _ _ rfl (fun k x v h => by simp at h)) hp⟩
end
end Go.AM
