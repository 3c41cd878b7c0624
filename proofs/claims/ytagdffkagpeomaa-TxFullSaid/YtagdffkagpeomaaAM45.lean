/- A machine over pure data: part 45: append of a make onto a part from the front of a row without room. -/
import Derived.Test.YtagdffkagpeomaaAM44
import Derived.Lib.AppendZerosOnto
set_option linter.unusedVariables false
set_option linter.unusedSimpArgs false
namespace Go.AM
open Go Go.RowKit

section
variable {P : Program} {l rest : List Oper} {Q : Exit → St → Prop} {n d clk : Nat} {T : List (Nat × AV)} {H : List (Nat × Option Blk)} {Hp : List Blk} {x y lo hi : Operand} {t t2 ty : TypeId} {tys : Array TypeId} {pos : String} {aft : Array Edge} {g : Option (Nat × Bool)} {ts : List (Nat × TI)}

/-- append(x[:j], make(S, k)...), x a row of the call's own that has no room for j + k: a new row. -/
theorem AL.appMake (hT : TOK P ts) (hw : wantedA l ⟨some d, .call ⟨.builtin .append, #[x, y], #[t, t2]⟩, ty, pos, aft, g⟩ ⟨n, T, H, Hp, clk⟩ = some true) (hd : Nat.blt d n = true) {id e sz L C j k : Nat} {xs : List (List D)} {kq : IntKind} {kv : Int}
    (hx : ev ⟨n, T, H, Hp, clk⟩ x = some (.sub (.loc id) sz 0 j true)) (hid : hk ⟨n, T, H, Hp, clk⟩ (.loc id) = some (.rowc e sz xs L C)) (hy : ev ⟨n, T, H, Hp, clk⟩ y = some (.d (.one (.int kq kv))))
    {s b s2 b2 : Nat} {z z2 : List AV} {kn : IntKind} (ht : lk ts t = some ⟨.slice e, s, b, z⟩) (ht2 : lk ts t2 = some ⟨.int kn, s2, b2, z2⟩) {ie : TI} (he : lk ts e = some ie) {ds : List D} (hz : toDs ie.zero some = some ds) (hzl : Nat.beq ds.length ie.size = true) (hsz : Nat.beq ie.size sz = true) (hs0 : Nat.blt 0 sz = true)
    (hkv : kv = (k : Int)) (hj : j ≤ xs.length) (hC0 : 0 < C) (hC : C < j + k) (hk0 : 0 < k) (hb : (j + k) * ie.bytes ≤ 140737488355328) (h63 : j + k ≤ 9223372036854775807)
    (h : AL P l Q rest ⟨n, (d, .own (.loc clk)) :: T, (clk, some (.row e sz (xs.take j ++ List.replicate k ds))) :: H, Hp, clk + 1⟩) : AL P l Q (⟨some d, .call ⟨.builtin .append, #[x, y], #[t, t2]⟩, ty, pos, aft, g⟩ :: rest) ⟨n, T, H, Hp, clk⟩ := by
  refine AL.step (σ' := ⟨n, (d, .own (.loc clk)) :: T, (clk, some (.row e sz (xs.take j ++ List.replicate k ds))) :: H, Hp, clk + 1⟩) hw ?_ h
  rintro c ac w ⟨ρ, O, hs⟩ K Q hK
  have e1 := ev_sound hs hx
  have e2 := one_of (ev_sound hs hy)
  have hsz := Nat.eq_of_beq_eq_true hsz
  have hs0 : 0 < sz := by simpa using hs0
  subst hkv
  obtain ⟨du, hu1, hu2⟩ := (hT.facts ht2).und
  have hu3 : du = .int kn := by
    cases du <;> simp [tkOf] at hu2
    rw [hu2]
  subst hu3
  obtain ⟨ti, zv, i1, i2, i3, i4, i5⟩ := (hT.facts he).info
  obtain ⟨z1, z2⟩ := zall_sound i5
  obtain ⟨ds', d1, d2, d3, d4⟩ := toDs_spec hz
  cases d1
  have hzl := Nat.eq_of_beq_eq_true hzl
  have hzs : zv.cells.size = sz := by rw [← hsz, ← hzl, d2, ← z1]; simp
  obtain ⟨gb, cur, k1, k2, k3, k4, k5, k6, k7, k8⟩ := hs.H.ok (.loc id) _ hid
  have hxv : ac.eval x = .slice (some ⟨gb, 0, none⟩) j C := by
    generalize ac.eval x = v at e1
    cases e1 with
    | sub _ _ _ _ _ g' L' C' c' off h5 h6 h7 h8 h9 h10 =>
      rw [k1] at h5; cases h5
      have h9 := h9 rfl
      rw [Nat.zero_add] at h9
      subst h9
      rw [h10 (by omega), Nat.zero_mul]
    | subN _ _ _ h5 => rw [k1] at h5; cases h5
  have hjs : j * sz ≤ cur.size := by rw [k3]; exact Nat.mul_le_mul_right _ (by omega)
  have hold : (Builtin.firstCells ti.size j (.slice (some ⟨gb, 0, none⟩) j C)).run P w.drew = .ok (cur.toList.take (j * sz)).toArray w.drew := by
    rw [i2, hsz]
    refine run_firstCells_some w.drew sz j ⟨gb, 0, none⟩ j C (cur.toList.take (j * sz)) (by rw [List.length_take, Array.length_toList]; omega) (fun p v hp => ?_)
    rw [List.getElem?_take] at hp
    split at hp
    · rw [add_ptr]
      rw [Array.getElem?_toList] at hp
      have k2' : w.drew.heap[gb]? = some (.cells cur e (0, 0)) := k2
      simp [World.cell?, k2', hp]
    · cases hp
  have hkb : k * ie.bytes ≤ (j + k) * ie.bytes := Nat.mul_le_mul_right _ (by omega)
  have hrun := Lib.run_append_grow_zeros w t t2 ty e ti zv kq kn (und_slice hT ht) hu1 i1 i4 (some ⟨gb, 0, none⟩) j C (cur.toList.take (j * sz)) hold k hk0 (by omega) hC (by omega) (by rw [i3]; omega) (by rw [i3]; exact growslice_fits hC hb)
  have hG1 := grownCap_ge w (j + k) C e
  have hG2 := grownCap_le_maxLen w (j + k) C e (by unfold maxLen; omega)
  generalize grownCap w (j + k) C e = G at hrun hG1 hG2
  generalize hus : ((cur.toList.take (j * sz)).toArray ++ Builtin.zeroCells zv.cells k ++ Builtin.zeroCells zv.cells (G - (j + k))) = us at hrun
  have hl1 : (cur.toList.take (j * sz)).length = j * sz := by rw [List.length_take, Array.length_toList]; omega
  have hGk : j * sz + k * sz + (G - (j + k)) * sz = G * sz := by rw [← Nat.add_mul, ← Nat.add_mul]; congr 1; omega
  have husz : us.size = G * sz := by
    rw [← hus]
    simp only [Array.size_append, List.size_toArray, hl1, size_zeroCells, hzs]
    exact hGk
  have hjk : (j + k) * sz ≤ G * sz := Nat.mul_le_mul_right _ hG1
  have hcellA : ∀ p, p < j * sz → us[p]? = cur[p]? := fun p hp => by
    rw [← hus, Array.getElem?_append_left (by simp only [Array.size_append, List.size_toArray, hl1]; omega), Array.getElem?_append_left (by rw [List.size_toArray, hl1]; exact hp)]
    rw [List.getElem?_toArray, List.getElem?_take, if_pos hp, Array.getElem?_toList]
  have hcellB : ∀ i p, i < k → p < sz → us[(j + i) * sz + p]? = zv.cells[p]? := fun i p hi hp => by
    have h1 : (i + 1) * sz ≤ k * sz := Nat.mul_le_mul_right _ (by omega)
    rw [Nat.succ_mul] at h1
    have h2 : (j + i) * sz = j * sz + i * sz := Nat.add_mul ..
    have h3 : (i * sz + p) % zv.cells.size = p := by rw [hzs, Nat.add_comm, Nat.add_mul_mod_self_right, Nat.mod_eq_of_lt hp]
    rw [← hus, Array.getElem?_append_left (by simp only [Array.size_append, List.size_toArray, hl1, size_zeroCells, hzs]; omega), Array.getElem?_append_right (by rw [List.size_toArray, hl1]; omega)]
    rw [List.size_toArray, hl1, show (j + i) * sz + p - j * sz = i * sz + p by omega]
    simp only [Builtin.zeroCells, Array.getElem?_map]
    rw [Array.getElem?_range, if_pos (by rw [hzs]; omega)]
    simp only [Option.map_some, h3]
    rw [getElem!_pos zv.cells p (by omega), Array.getElem?_eq_getElem (by omega)]
  have hk1 : Keeps O w (fun k => O k ∨ k = w.heap.size) (w.drew.alloc (.cells us e)) := ⟨by simp, fun k hk _ => Below.heap_alloc w.drew _ k hk, fun k hk => by
    rcases hk with hk | hk
    · exact .inl hk
    · exact .inr (by omega)⟩
  have hlr : (xs.take j ++ List.replicate k ds).length = j + k := by rw [List.length_append, List.length_take, List.length_replicate]; omega
  have hm := mk_sat hs (.row e sz (xs.take j ++ List.replicate k ds)) (.slice (some ⟨w.heap.size, 0, none⟩) (j + k) G) (.inl rfl) hk1 (by simp) (fun k hk => Below.heap_alloc w.drew _ k hk) rfl rfl rfl
    ⟨_, us.toList.take ((j + k) * sz), upd_self _ _ _, ⟨by rw [hlr, List.length_take, Array.length_toList, husz]; omega, .inr ⟨w.heap.size, G, us, by rw [hlr], Nat.zero_le _, heap_alloc_new w.drew _, by rw [hlr]; exact hG1, hG2, husz, by rw [hlr]⟩⟩,
      fun x hx => by
        rcases List.mem_append.1 hx with hx | hx
        · exact k7 x (List.mem_of_mem_take hx)
        · rw [(List.mem_replicate.1 hx).2, hzl, hsz],
      fun i p x d' hx hd' => by
        by_cases hi : i < j
        · rw [List.getElem?_append_left (by rw [List.length_take]; omega), List.getElem?_take, if_pos hi] at hx
          obtain ⟨u, u1, u2⟩ := k8 i p x d' hx hd'
          have hp : p < sz := by rw [← k7 x (List.mem_of_getElem? hx)]; exact (List.getElem?_eq_some_iff.1 hd').1
          have h1 : (i + 1) * sz ≤ j * sz := Nat.mul_le_mul_right _ (by omega)
          have h2 : (i + 1) * sz ≤ (j + k) * sz := Nat.mul_le_mul_right _ (by omega)
          rw [Nat.succ_mul] at h1 h2
          exact ⟨u, by rw [List.getElem?_take, if_pos (by omega), Array.getElem?_toList, hcellA _ (by omega)]; exact u1, u2.keep hk1⟩
        · rw [List.getElem?_append_right (by rw [List.length_take]; omega), List.getElem?_replicate] at hx
          rw [List.length_take, Nat.min_eq_left hj] at hx
          split at hx
          · rename_i hik
            cases hx
            have hp : p < ds.length := (List.getElem?_eq_some_iff.1 hd').1
            have hpz : p < zv.cells.size := by omega
            have h2 : (i + 1) * sz ≤ (j + k) * sz := Nat.mul_le_mul_right _ (by omega)
            rw [Nat.succ_mul] at h2
            refine ⟨zv.cells[p], by rw [List.getElem?_take, if_pos (by omega), Array.getElem?_toList, show i = j + (i - j) by omega, hcellB (i - j) p (by omega) (by omega), Array.getElem?_eq_getElem hpz], ?_⟩
            have hxk : ∃ x, ie.zero[p]? = some x := ⟨_, List.getElem?_eq_getElem (by omega)⟩
            obtain ⟨x, hxk⟩ := hxk
            exact d4 _ _ _ p x d' _ hxk hd' (z2 (fun _ => none) _ _ p x _ hxk (by rw [Array.getElem?_toList, Array.getElem?_eq_getElem hpz])).1
          · cases hx⟩
  unfold Oper.wp
  have hex : (execOp ac.eval ⟨some d, .call ⟨.builtin .append, #[x, y], #[t, t2]⟩, ty, pos, aft, g⟩).run P w = .ok (.value (.slice (some ⟨w.heap.size, 0, none⟩) (j + k) G)) (w.drew.alloc (.cells us e)) := by
    simp [execOp, resolve, invoke, builtin, hxv, e2, hrun]
  rw [hex]
  refine hK _ _ ⟨_, _, put_sat hm (x := .own (.loc clk)) (.own _ _ (upd_self _ _ _) rfl) ?_⟩
  simp [mk, put, hd]
end
end Go.AM
